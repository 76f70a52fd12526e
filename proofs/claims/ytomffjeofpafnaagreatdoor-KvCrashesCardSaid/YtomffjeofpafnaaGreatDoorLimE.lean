import Derived.Test.YtomffjeofpafnaaGreatDoorLimD
import Derived.Orders
namespace Lim
open Go
noncomputable section
set_option linter.defProp false
section
variable {fr fr':Fr}{call:gu}{op:BinOp}{k:IntKind}{a:Int}
abbrev aiY (p q:Nat):Bool:=Nat.beq p q
def ID {p q:Nat}:aiY p q=true↔p=q:=by rw[aIs]
def yd (x:Option eX):List eX:=match x with|some x=>[x]|none=>[]
def CF.args:CF->List eX
 | .WO x| .nil x| .un _ x| .conv _ x| .Jx _ x| .iface _ x| .fieldAddr _ x| .field _ _ _ x| .extract x _| .len _ x| .clear _ x| .box _ x| .Hk x| .AJ _ x=>[x]
 | .pick c a b=>[c,a,b]
 | .new _ _=>[]
 | .build _ ps=>ps.map (·.2.2)
 | .buildSlice _ _ _ ps=>ps.map (·.2.2)
 | .store _ a x| .bin _ _ _ a x| .vL _ _ a x| .AT _ a x| .vK a x| .vM _ _ _ a x| .lookup _ _ _ a x| .mapEntry _ _ a x| .append _ _ _ _ _ a x| .copy _ _ a x| .sV _ a x| .delete _ a x=>[a,x]
 | .func _ f c=>f++c
 | .mkMap r=>yd r
 | .mkSlice _ _ _ l c=>[l,c]
 | .oH x lo hi| .rj _ x lo hi| .oJ _ _ x lo hi=>x::(yd lo++yd hi)
 | .slice3 _ x lo hi mx=>x::hi::mx::yd lo
 | .mapUpdate _ m k x| .entryStore m k x=>[m,k,x]
 | .call _ args=>args
 | .DJ f args=>f::args
def uh :∀{l:List eX},(∀x∈l,ev fr x=ev fr' x)->MB fr l=MB fr' l:=by
 intro l
 induction l with
 |nil=>intro _;rfl
 |cons x l b=>
  intro h;show ev fr x::MB fr l=ev fr' x::MB fr' l;rw[h x wb,b λy c=>h y (by simp[c])]
def DC :∀{l:List ve},(∀x∈l.map (·.2.2),ev fr x=ev fr' x)->On fr l=On fr' l:=by
 intro l
 induction l with
 |nil=>intro _;rfl
 |cons p l c=>
  intro h;show(p.1,p.2.1,ev fr p.2.2)::On fr l=(p.1,p.2.1,ev fr' p.2.2)::On fr' l;rw[h p.2.2 wb,c λy b=>h y (by simp at b⊢;exact .inr b)]
def ug {x:Option eX}(h:∀y∈yd x,ev fr y=ev fr' y):Sb fr x=Sb fr' x:=by
 cases x with
 |none=>rfl
 |some x=>show some (ev fr x)=some (ev fr' x);rw[h x (by simp[yd])]
def GD {op:CF}{st:St}(h:∀x∈op.args,ev fr x=ev fr' x):de call op fr st=de call op fr' st:=by
 cases op<;>simp only[CF.args,aHJ,aHT,aIo,aJj,forall_eq_or_imp,forall_eq]at h<;>simp only[de]
 all_goals first
  |rfl
  |rw[h]
  |rw[h.1,h.2]
  |rw[h.1,h.2.1,h.2.2]
  |rw[uh h]
  |rw[DC h]
  |rw[ug h]
  |rw[h.1,uh h.2]
  |rw[uh λx b=>h x (.inl b),uh λx b=>h x (.inr b)]
  |rw[h.1,ug λx b=>h.2 x (.inl b),ug λx b=>h.2 x (.inr b)]
  |rw[h.1,h.2.1,h.2.2.1,ug h.2.2.2]
def CF.still:CF->Bool
 | .WO _| .pick .. | .Hk _| .AJ .. | .nil _| .un .. | .Jx .. | .iface .. | .func .. | .oH .. | .rj .. | .slice3 .. | .oJ .. | .fieldAddr .. | .field .. =>true
 | .vL .. | .AT .. | .vK .. | .vM .. | .lookup .. | .extract .. | .len .. | .sV .. | .bin .. | .build .. =>true
 | .conv c _=>(match c with| .bytesOf _=>false|_=>true)
 |_=>false
structure Still (st:St)(r:OR):Prop where
 eq:∀v st',r=.ok v st'->st'=st
section
variable {st:St}
def Still.bad:Still st .bad:=⟨λ_ _ h=>by cases h⟩
def Still.ok (v:CV):Still st (.ok v st):=⟨λ_ _ h=>by cases h;rfl⟩
def Still.bE {b:Bool}{x y:OR}(d:Still st x)(c:Still st y):Still st (bE b x y):=by cases b;exact c;exact d
def Still.opt {b:Type}{x:Option b}{n:OR}{f:b->OR}(c:Still st n)(h:∀v,Still st (f v)):Still st (Option.rec (motive:=λ_=>OR) n f x):=by cases x;exact c;exact h _
end
def Still.Zm {st:St}{b:Int}:Still st (mm op k a b st):=by
 cases op<;>simp only[mm]<;>first|exact Still.ok _|exact Still.bad|(split<;>first|exact Still.ok _|exact Still.bad)
def Still.int {st:St}{j:IntKind}{b:Int}:Still st (ki op k a j b st):=by
 cases op<;>simp only[ki]<;>split<;>first|exact Still.ok _|exact Still.bad|exact Still.Zm
def Still.str {st:St}{a b:List UInt8}:Still st (sv op a b st):=by
 cases op<;>simp only[sv]<;>first|exact Still.ok _|exact Still.bad|(split<;>first|exact Still.ok _|exact Still.bad)
def Still.bin {st:St}{d:Option kK}{b:Bool}{x y:CV}:Still st (aj op d b x y st):=by
 unfold aj
 split<;>first
  |exact Still.int
  |exact Still.str
  |exact Still.bad
  |(unfold wH;split<;>first|exact Still.bad|exact Still.bE Still.bad (Still.ok _))
  |(split
    .unfold pEq;split<;>first|exact Still.ok _|exact Still.bad
    .exact Still.bad)
def sN {op:CF}{st:St}(h:op.still=true):Still st (de call op fr st):=by
 cases op with
 |WO x=>exact Still.ok _
 |pick c a b=>simp only[de];unfold bk;split<;>first|exact Still.bE (Still.ok _) (Still.ok _)|exact Still.bad
 |Hk x=>simp only[de];unfold aA;split<;>first|(split<;>first|exact Still.opt Still.bad (λ_=>Still.ok _)|exact Still.bad)|exact Still.bad
 |AJ n x=>simp only[de];unfold aJ;split<;>first|(split<;>first|exact Still.opt Still.bad (λ_=>Still.ok _)|exact Still.bad)|exact Still.bad
 |nil x=>simp only[de];unfold dJ;split<;>first|exact Still.ok _|exact Still.bad
 |bin op d BP x y=>exact Still.bin
 |un op x=>simp only[de];unfold mi;split<;>first|exact Still.ok _|exact Still.bad|(split<;>first|exact Still.ok _|exact Still.bad)
 |conv c x=>simp only[de];unfold dw;split<;>first|exact Still.ok _|exact Still.bad|(cases h;done)|(split<;>first|exact Still.bad|(split<;>first|exact Still.ok _|exact Still.bad))
 |Jx n x=>simp only[de];unfold pM;split<;>first|exact Still.bE (Still.ok _) Still.bad|exact Still.bad
 |iface t x=>exact Still.ok _
 |func fn f c=>exact Still.ok _
 |oH x lo hi=>simp only[de];unfold iI;split<;>first|exact Still.bad|(split<;>first|exact Still.ok _|exact Still.bad)
 |rj size x lo hi=>
  simp only[de];unfold aR;split
  .split<;>first|exact Still.ok _|exact Still.bad
  .refine Still.bE ?_ Still.bad
   split
   .exact Still.bE (Still.ok _) (Still.bE (Still.ok _) Still.bad)
   .exact Still.bad
  .exact Still.bad
 |slice3 size x lo hi mx=>
  simp only[de];unfold jd;split
  .split
   .split
    .exact Still.bE (Still.bE (Still.ok _) (Still.ok _)) Still.bad
    .exact Still.bad
   .exact Still.bad
  .split
   .split<;>first|exact Still.ok _|exact Still.bad
   .exact Still.bad
  .exact Still.bad
 |oJ n size x lo hi=>simp only[de];unfold bT;split<;>first|exact Still.bad|(split<;>first|exact Still.bad|exact Still.bE (Still.ok _) (Still.ok _))
 |fieldAddr off x=>simp only[de];unfold al;split<;>first|exact Still.ok _|exact Still.bad
 |field agg off size x=>simp only[de];unfold AB;split<;>first|exact Still.opt Still.bad (λ_=>Still.ok _)|exact Still.bad
 |vL n size x i=>simp only[de];unfold fP;split<;>first|exact Still.bE (Still.ok _) Still.bad|exact Still.bad
 |AT size x i=>simp only[de];unfold cV;split<;>first|exact Still.bE (Still.ok _) Still.bad|exact Still.bad
 |vK x i=>simp only[de];unfold pN;split<;>first|exact Still.bad|(split<;>first|exact Still.ok _|exact Still.bad)
 |vM n size agg x i=>simp only[de];unfold wF;split<;>first|exact Still.bE (Still.opt Still.bad (λ_=>Still.ok _)) Still.bad|exact Still.bad
 |lookup d z ok x k=>
  simp only[de];unfold gj;refine Still.bE ?_ Still.bad
  split
  .unfold wD;split<;>first|exact Still.bad|(split<;>exact Still.bE (Still.ok _) (Still.ok _))
  .split
   .split<;>first|exact Still.bad|exact Still.bE (Still.ok _) (Still.ok _)
   .exact Still.bad
 |extract x i=>simp only[de];unfold aB;split<;>first|exact Still.opt Still.bad (λ_=>Still.ok _)|exact Still.bad
 |len k x=>simp only[de];unfold bt;split<;>first|exact Still.ok _|exact Still.bad|exact Still.bE (Still.ok _) (Still.ok _)|(split<;>first|exact Still.ok _|exact Still.bad)
 |sV mx x y=>simp only[de];unfold C0;split<;>first|exact Still.bE (Still.ok _) Still.bad|exact Still.bad
 |build z parts=>simp only[de];unfold aZ;exact Still.opt Still.bad (λ_=>Still.ok _)
 |_=>cases h
end
section
variable {o:Oper}{e:Nat}{z:List CV}{ps:List ve}{ρ0:Ren}{kL M:St}{w0:World}{s:List CV}{t:TypeId}{ops:Array Oper}
def oP (P:Program)(o:Oper):Option (TypeId×List CV):=
 match o.op with
 | .alloc t=>(match P.info? t with|some i=>(match zO i with|some z=>some (t,z)|none=>none)|none=>none)
 |_=>none
def lE (P:Program)(o:Oper):Option (Nat×Nat×List CV×List ve):=
 match o.op with
 | .buildSlice t len parts=>(match P.underlying t with
   |some (.slice e)=>(match P.info? e with
    |some i=>bE (Nat.ble (Nat.mul len i.size) 16777216) (match zO i,tA (nu i.size) parts.toList with|some z,some ps=>some (e,len,z,ps)|_,_=>none) none
    |none=>none)
   |_=>none)
 |_=>none
def qP (P:Program)(o:Oper):Bool:=Option.rec (motive:=λ_=>Bool) false (λ_=>true) (lE P o)
def fE (b:Nat)(e len:Nat)(z:List CV)(c:List uI)(st:St):OR:=
 Option.rec (motive:=λ_=>OR) (Option.rec .bad (λs=>.ok (.slice b 0 len len 0) ⟨st.m.put b (some (.cells s e false)),st.nx⟩) (gC c z)) (λ_=>.bad) (st.m.g b)
open Classical in
def jy (b:Nat)(z:List CV)(t:TypeId)(st:St):OR:=match st.m.g b with|some (.cells s u _)=>if s=z/\u=t then .ok (.ptr b 0) st else .bad|_=>.bad
def ig (P:Program)(call:gu)(ops:Array Oper)(d:Option Nat)(o:Oper)(fr:Fr)(st:St):OR:=
 match oP P o,d with
 |none,none=>mR P call ops o fr st
 |some c,some b=>(match fN ops fr o with|some true=>jy b c.2 c.1 st|some false=>.ok .undef st|none=>.bad)
 |none,some b=>(match lE P o with
  |some x=>(match fN ops fr o with|some true=>fE b x.1 x.2.1 (cH x.2.1 x.2.2.1) (On fr x.2.2.2) st|some false=>.ok .undef st|none=>.bad)
  |none=>.bad)
 |_,_=>.bad
def ni (P:Program)(o:Oper):Bool:=match oP P o with|some _=>false|none=>(match lE P o with|some _=>false|none=>(match mI P o.op with|some op=>Bool.not op.still|none=>false))
def Kb {P:Program}{len:Nat}(h:lE P o=some (e,len,z,ps)):mI P o.op=some (.buildSlice e len z ps):=by
 unfold lE at h;unfold mI
 split at h
 .rename_i t l parts ho;rw[ho];dsimp only
  split at h
  .rename_i e' hu;rw[hu];dsimp only
   split at h
   .rename_i i hi;rw[hi];dsimp only;rw[aO]at h⊢
    split at h
    .rename_i hb;rw[aHP hb]
     split at h
     .rename_i c ql b hp;cases h;rw[b,hp]
     .cases h
    .cases h
   .cases h
  .cases h
 .cases h
def yf {P:Program}(h:oP P o≠none):lE P o=none:=by
 unfold oP at h;unfold lE
 split at h
 .rename_i t ho;rw[ho]
 .exact absurd rfl h
section
variable {P:Program} {ρ:Ren} {st st':St} {w:World} {v:CV} {fr:Fr} {a:Act} {call:gu}
def bp.sK {M2:St}(h:bp ρ0 kL w0 ρ M w)(hm:∀q x,ρ q=some x->M2.m.g q=M.m.g q)(hn:M2.nx=M.nx):bp ρ0 kL w0 ρ M2 w where
 wr:=⟨λb blk r sz h1 h2=>h.wr.at' b blk r sz (by rw[<-hm b _ h2];exact h1) h2,λb b' k k' r s s' h1 h2 h3 h4=>h.wr.inj b b' k k' r s s' (by rw[<-hm b _ h3];exact h1) (by rw[<-hm b' _ h4];exact h2) h3 h4,λb x hx=>by rw[hn];exact h.wr.fresh b x hx⟩
 ext:=h.ext
 ME:=h.ME
 nx:=by rw[hn];exact h.nx
 origin:=λb blk r sz h1 h2=>h.origin b blk r sz (by rw[<-hm b _ h2];exact h1) h2
 kept:=h.kept
 size:=h.size
 os:=h.os
 output:=h.output
def WR.sub {s:St}(h:WR ρ M w)(y:∀q x,ρ q=some x->s.m.g q=M.m.g q\/s.m.g q=none)(u:s.nx=M.nx):WR ρ s w:=by
 have c:∀b blk x,s.m.g b=some blk->ρ b=some x->M.m.g b=some blk:=λb blk x d f=>by
  rcases y b x f with e|e
  .rw[<-e];exact d
  .rw[e]at d;cases d
 exact⟨λb blk r sz d f=>h.at' b blk r sz (c b blk _ d f) f,λb l k k' r z n d f j i=>h.inj b l k k' r z n (c b k _ d j) (c l k' _ f i) j i,λb x p=>by rw[u];exact h.fresh b x p⟩
def bp.frame {M' s s':St}{n:Ren}{w':World}(h:WR ρ M w)(T:s.nx=M.nx)(hm:∀q x,ρ q=some x->s.m.g q=M.m.g q\/s.m.g q=none)(c:bp ρ s w n s' w')(K:M'.nx=s'.nx)
 (D:∀q x,n q=some x->M'.m.g q=s'.m.g q\/((∃y,ρ q=some y)/\s.m.g q=none/\M'.m.g q=M.m.g q)):bp ρ M w n M' w':=by
 have I:∀q blk r sz,M.m.g q=some blk->ρ q=some (r,sz)->r<w.heap.size:=λq blk r sz h1 d=>by
  obtain⟨o,j,_⟩:=h.at' q blk r sz h1 d;exact(aIy.1 j).1
 have E:∀q blk x,s.m.g q=some blk->ρ q=some x->M.m.g q=some blk:=λq blk x h1 d=>by
  rcases hm q x d with e|e
  .rw[<-e];exact h1
  .rw[e]at h1;cases h1
 have H:∀b blk r sz,s'.m.g b=some blk->n b=some (r,sz)->∀q B G,s.m.g q=none->M.m.g q=some B->ρ q=some (r,G)->False:=by
  intro b blk r sz h1 d q B G F A U;rcases c.origin b blk r sz h1 d with⟨p,blk0,C,l,i⟩|g
  .have:=h.inj p q blk0 B r C G (E p blk0 _ l i) A i U;subst this;rw[F]at l;cases l
  .have:=I q B r G A U;omega
 have Z:∀b blk r sz,M'.m.g b=some blk->n b=some (r,sz)->(∃p blk0 C,M.m.g p=some blk0/\ρ p=some (r,C))\/w.heap.size<=r:=λb blk r sz h1 d=>by
  rcases D b _ d with e|⟨⟨y,j⟩,N,e4⟩
  .rcases c.origin b blk r sz acU d with⟨p,blk0,C,l,i⟩|g
   .exact .inl ⟨p,blk0,C,E p blk0 _ l i,i⟩
   .exact .inr g
  .have:=c.ext b y j;rw[d]at this;cases this;exact .inl ⟨b,blk,sz,adx,j⟩
 have A4:∀r:Nat,r<w.heap.size->(∀b blk sz,M.m.g b=some blk->ρ b≠some (r,sz))->w'.heap[r]?=w.heap[r]?:=λr J Q=>c.kept r J λb blk sz l i=>Q b blk sz (E b blk _ l i) i;refine⟨⟨λb blk r sz h1 d=>?_,λb u k k' r z O h1 d F A=>?_,λb x X=>by rw[K];exact c.wr.fresh b x X⟩,c.ext,λq Y J=>c.ME q (by rw[T];exact Y) J,by rw[K,<-T];exact c.nx,λb blk r sz h1 d=>?_,λr J Q=>c.kept r J λb blk sz l i=>Q b blk sz (E b blk _ l i) i,c.size,c.os,c.output⟩
 .rcases D b _ d with e|⟨⟨y,j⟩,N,e4⟩
  .exact c.wr.at' b blk r sz acU d
  .have:=c.ext b y j;rw[d]at this;cases this;rw[e4]at h1;obtain⟨o,l,i⟩:=h.at' b blk r sz h1 j;refine⟨o,?_,i.mono c.ext⟩;rw[c.kept r (I b blk r sz h1 j)]
   .exact l
   .intro u B G R V;have:=h.inj u b B blk r G sz (E u B _ R V) h1 V j;subst this;rw[N]at R;cases R
 .rcases D b _ F with e|⟨⟨y,j⟩,N,e4⟩
  .rcases D u _ A with f|⟨⟨y',L⟩,W,S⟩
   .exact c.wr.inj b u k k' r z O acU (by rw[<-f];exact d) F A
   .have:=c.ext u y' L;rw[A]at this;cases this;exact absurd (H b k r z acU F u k' O W (by rw[<-S];exact d) L) id
  .have:=c.ext b y j;rw[F]at this;cases this;rcases D u _ A with f|⟨⟨y',L⟩,W,S⟩
   .exact absurd (H u k' r O (by rw[<-f];exact d) A b k z N adx j) id
   .have:=c.ext u y' L;rw[A]at this;cases this;exact h.inj b u k k' r z O adx (by rw[<-S];exact d) j L
 .rcases D b _ d with e|⟨⟨y,j⟩,N,e4⟩
  .rcases c.origin b blk r sz acU d with⟨p,blk0,C,l,i⟩|g
   .exact .inl ⟨p,blk0,C,E p blk0 _ l i,i⟩
   .exact .inr g
  .have:=c.ext b y j;rw[d]at this;cases this;exact .inl ⟨b,blk,sz,adx,j⟩
def bp.aiW {b:Nat}{g:Bool}{l:List Value}(d:bp ρ0 kL w0 ρ M w)(J:M.m.g b=some (.cells s t g))(K:ρ b=none)(C:b<M.nx)(D:eM ρ s l)(Q:kL.nx<=b):
 bp ρ0 kL w0 (ρ.set b (w.heap.size,l.length)) M {w with heap:=w.heap.push (.cells l.toArray t)}:=by
 have y:=d.wr
 have k:ρ.le (ρ.set b (w.heap.size,l.length)):=λq x i=>by
  rw[Ren.dy _ _ _ _ (λe=>by subst e;rw[K]at i;cases i)];exact i
 have F:∀q blk r s,M.m.g q=some blk->ρ q=some (r,s)->r<w.heap.size:=λq blk r s f c=>by
  obtain⟨o,A,_⟩:=y.at' q blk r s f c;exact(aIy.1 A).1
 have G:WR (ρ.set b (w.heap.size,l.length)) M {w with heap:=w.heap.push (.cells l.toArray t)}:=by
  refine⟨λq blk r sz f c=>?_,λq u blk E r sz O f c p n=>?_,λq x i=>?_⟩
  .by_cases e:q=b
   .subst e;rw[Ren.eI]at c;cases c;rw[J]at f;cases f;have j:s.length=l.length:=by rw[D.len]
    refine⟨.cells l.toArray t,wb,?_⟩;have N:=BR.cells (ρ:=ρ.set q (w.heap.size,l.length)) s t g l.toArray 0 0 (by simp[j]) (by rw[j];simpa using D.mono k) uM (by intros;omega)
    simpa using N
   .rw[Ren.dy _ _ _ _ e]at c;obtain⟨o,A,L⟩:=y.at' q blk r sz f c;refine⟨o,?_,L.mono k⟩;have:=(aIy.1 A).1;show(w.heap.push _)[r]?=_;rw[aKu,aHM uM];exact A
  .by_cases e:q=b
   .by_cases e':u=b
    .rw[e,e']
    .rw[e,Ren.eI]at p;cases p;rw[Ren.dy _ _ _ _ e']at n;have:=F u E _ _ c n;omega
   .by_cases e':u=b
    .rw[e',Ren.eI]at n;cases n;rw[Ren.dy _ _ _ _ e]at p;have:=F q blk _ _ f p;omega
    .rw[Ren.dy _ _ _ _ e]at p;rw[Ren.dy _ _ _ _ e']at n;exact y.inj q u blk E r sz O f c p n
  .by_cases e:q=b
   .subst e;exact C
   .rw[Ren.dy _ _ _ _ e]at i;exact y.fresh q x i
 refine⟨G,λq x i=>k q x (d.ext q x i),λq I B=>?_,d.nx,λq blk r sz f c=>?_,λr H B=>?_,?_,d.os,d.output⟩
 .rw[Ren.dy _ _ _ _ (λe=>by subst e;omega)];exact d.ME q I B
 .by_cases e:q=b
  .subst e;rw[Ren.eI]at c;cases c;exact .inr d.size
  .rw[Ren.dy _ _ _ _ e]at c;exact d.origin q blk r sz f c
 .show(w.heap.push _)[r]?=_;have:=d.size;rw[aKu,aHM uM];exact d.kept r H B
 .show w0.heap.size<=(w.heap.push _).size;have:=d.size;rw[Array.size_push];omega
def Nx (h:oP P o=some (t,z)):∃l:List Value,(∀ρ,eM ρ z l)/\
 ∀(f:Operand->Value) (w:World),(execOp f o).run P w=.ok (.value (.pointer (some ⟨w.heap.size,0,none⟩))) {w with heap:=w.heap.push (.cells l.toArray t)}:=by
 unfold oP at h
 split at h
 .rename_i m ho
  split at h
  .rename_i i hi
   split at h
   .rename_i k g;cases h;obtain⟨b,d,j,c⟩:=j8 g;refine⟨b.cells.toList,c,λf w=>?_⟩;unfold execOp;rw[ho];simp[Instr.alloc,zeroValue,typeInfo,hi,d,newVar]
    rfl
   .cases h
  .cases h
 .cases h
def Ol {i:TypeInfo}{len:Nat}{c:Value}{b:List uI}{parts':Array (Nat×Value)}(m:gC b (cH len z)=some s)(f:c.cells.size=i.size)(j:∀ρ,eM ρ z c.cells.toList)(l:rQ ρ (nu i.size) b parts'.toList):
 ∃g,Instr.fill (nu i.size) ((Array.range (len*i.size)).map (c.cells[·%c.cells.size]!)) parts'.toList=some g/\eM ρ s g.toList:=by
 have k:(List.replicate len c.cells.toList).flatten=((Array.range (len*i.size)).map (c.cells[·%c.cells.size]!)).toList:=by
  rw[<-f,aJv,aKB];exact(qz c.cells len).symm
 have d:eM ρ (cH len z) ((Array.range (len*i.size)).map (c.cells[·%c.cells.size]!)).toList:=by
  rw[<-k];exact(j ρ).flatten len
 exact rM l m d
def Qx {len:Nat}(h:lE P o=some (e,len,z,ps))(A:FR ρ fr a.tmps)(x:gC (On fr ps) (cH len z)=some s):
 ∃l:List Value,eM ρ s l/\∀w,(execOp a.eval o).run P w=.ok (.value (.slice (some ⟨w.heap.size,0,none⟩) len len)) {w with heap:=w.heap.push (.cells l.toArray e)}:=by
 unfold lE at h
 split at h
 .rename_i t l parts ho
  split at h
  .rename_i e' hu
   split at h
   .rename_i i hi;simp only[aO,aIr]at h
    split at h
    .rename_i hle
     split at h
     .rename_i F ql u hp;cases h;obtain⟨g,q,n,m⟩:=j8 u;have Vh:=oh hp A;obtain⟨r,f,C⟩:=Ol (parts':=parts.map λp=>(p.1,a.eval p.2)) x n m adK;refine⟨r.toList,C,λw=>?_⟩;have y:¬(len*i.size>2^24):=by have D:len*i.size<=16777216:=hle;show¬(len*i.size>16777216);omega
      have j:∀c:Array Value,(newRow e c).run P w=.ok ⟨w.heap.size,0,none⟩ {w with heap:=w.heap.push (.cells c e)}:=λc=>rfl
      have B:execOp a.eval o=(do let v<-Instr.buildSlice t len (parts.map λp=>(p.1,a.eval p.2));pure (.value v)):=by
       unfold execOp;rw[ho]
      have E:(λk=>some (k*i.size,i.size))=nu i.size:=rfl;rw[B,aJp];simp only[Instr.buildSlice,Sem.run_bind,aHU hu,Result.andThen_ok,Go.sizeOf,typeInfo,run_program,hi,Sem.run_pure,aHM y]
      by_cases d:len*i.size=0
      .have b:((Array.range (len*i.size)).map (g.cells[·%g.cells.size]!))=((Array.range (len*i.size)).map ((#[]:Array Value)[·%(#[]:Array Value).size]!)):=by
        rw[d,Array.range_zero'];simp
       rw[b]at f;rw[aHP d]
       show Result.andThen (Sem.run P (do
        let some cells:=Instr.fill (nu i.size) ((Array.range (len*i.size)).map ((#[]:Array Value)[·%(#[]:Array Value).size]!)) (parts.map λp=>(p.1,a.eval p.2)).toList|stuck "buildSlice: a part of the wrong size"
        pure (Value.slice (some (<-newRow e cells)) len len)) w) _=_
       rw[f];simp only[Sem.run_bind,j,Result.andThen_ok,Sem.run_pure]
      .rw[aHM d];simp only[zeroValue,typeInfo,Sem.run_bind,run_program,Result.andThen_ok,hi,q,Sem.run_pure];rw[E,f];simp only[Sem.run_bind,j,Result.andThen_ok,Sem.run_pure]
     .cases h
    .cases h
   .cases h
  .cases h
 .cases h
def BV {b:Nat}{k:TypeId×List CV}(d:oP P o=some k)(h:ig P call ops (some b) o fr st=.ok v st')(D:M.m.g b=st.m.g b)(y:bp ρ0 kL w0 ρ M w)(p:FR ρ fr a.tmps)(r:ρ b=none)(j:b<M.nx)(F:kL.nx<=b)
 {next:Act->World->Prop} {Q:Exit->Act->World->Prop} (n:∀v' w' c,VR c v v'->bp ρ0 kL w0 c M w'->ρ.le c->(∀q,q≠b->c q=ρ q)->next (a.put o.dst v') w'):
 if Region.wanted o (yielded ops a.tmps)then o.wp P a w next Q else next (a.put o.dst undef) w:=by
 obtain⟨t,z⟩:=k;unfold ig at h;rw[d]at h;dsimp only at h
 split at h
 .rename_i f;rw[aHP (jt f p)];unfold jy at h
  split at h
  .rename_i s u g A
   split at h
   .rename_i hh;obtain⟨rfl,rfl⟩:=hh;cases h;obtain⟨l,E,B⟩:=Nx d;unfold Oper.wp;rw[B];exact n _ _ _ (.ptr b 0 _ _ (Ren.eI ρ b _)) (y.aiW (by rw[D];exact A) r j (E ρ) F) (λq x i=>by rw[Ren.dy _ _ _ _ (λe=>by subst e;rw[r]at i;cases i)];exact i) (λq C=>Ren.dy _ _ _ _ C)
   .cases h
  .cases h
 .rename_i f;rw[aHM (by rw[jt f p];simp)];cases h;exact n _ w ρ .undef y (λ_ _ h=>h) λ_ _=>rfl
 .cases h
def wq {b:Nat}{x:Nat×Nat×List CV×List ve}(d:lE P o=some x)(h:ig P call ops (some b) o fr st=.ok v st'):
 (fN ops fr o=some false/\v=.undef/\st'=st)\/
 (fN ops fr o=some true/\∃s,gC (On fr x.2.2.2) (cH x.2.1 x.2.2.1)=some s/\st.m.g b=none/\v=.slice b 0 x.2.1 x.2.1 0/\st'=⟨st.m.put b (some (.cells s x.1 false)),st.nx⟩):=by
 have f:oP P o=none:=by
  cases hh:oP P o with
  |none=>rfl
  |some i=>have:=yf (P:=P) (o:=o) (by rw[hh];simp);rw[d]at this;cases this
 unfold ig at h;rw[f,d]at h;dsimp only at h
 split at h
 .rename_i c;unfold fE at h;cases hg:st.m.g b with
  |some _=>rw[hg]at h;cases h
  |none=>
   rw[hg]at h;cases hf:gC (On fr x.2.2.2) (cH x.2.1 x.2.2.1)with
   |none=>rw[hf]at h;cases h
   |some s=>
    rw[hf]at h;dsimp only at h;cases h;exact .inr ⟨c,s,rfl,rfl,rfl,rfl⟩
 .rename_i c;cases h;exact .inl ⟨c,rfl,rfl⟩
 .cases h
def sJ {c:Option Nat}(d:oP P o=none)(f:lE P o=none)(h:ig P call ops c o fr st=.ok v st'):c=none/\mR P call ops o fr st=.ok v st':=by
 unfold ig at h;rw[d]at h;cases c with
 |none=>exact⟨rfl,h⟩
 |some b=>dsimp only at h;rw[f]at h;cases h
def BS {fr':Fr}(h:∀g b d,o.guard=some (g,b)->(ops[g]?).bind (·.dst)=some d->fH fr (d)=fH fr' (d)):fN ops fr o=fN ops fr' o:=by
 unfold fN;cases hg:o.guard with
 |none=>rfl
 |some c=>
  obtain⟨g,b⟩:=c;dsimp only;cases hd:(ops[g]?).bind (·.dst)with
  |none=>rfl
  |some d=>dsimp only;rw[h g b d hg hd]
end
def JM {b:Type}(P:Program)(l:List Oper):St->(List (Option Nat)->St->b)->b:=
 List.rec (motive:=λ_=>St->(List (Option Nat)->St->b)->b) (λst k=>k [] st)
  (λo _ f st k=>Option.rec (Bool.rec (motive:=λ_=>b) (f st λc st=>k (none::c) st) (pT (st.nx+1) λnx=>f ⟨st.m,nx⟩ λc d=>k (some st.nx::c) d) (qP P o))
   (λg=>pT (st.nx+1) λnx=>pT ⟨st.m.put st.nx (some (.cells g.2 g.1 false)),nx⟩ λi=>f i λc d=>k (some st.nx::c) d) (oP P o)) l
structure vd (P:Program)(l:List Oper)(st:St)(as:List (Option Nat))(hO:St):Prop where
 len:as.length=l.length
 nx:st.nx<=hO.nx
 range:∀(i:Nat) (b:Nat),as[i]?=some (some b)->st.nx<=b/\b<hO.nx
 uniq:∀(i j:Nat) (b:Nat),as[i]?=some (some b)->as[j]?=some (some b)->i=j
 after:∀ρ w,WR ρ st w->bp ρ st w ρ hO w
 olds:∀(i:Nat) (o:Oper),l[i]?=some o->oP P o=none->qP P o=false->as[i]?=some none
 news:∀(i:Nat) (o:Oper),l[i]?=some o->oP P o≠none\/qP P o=true->∃b,as[i]?=some (some b)
def bp.aeJ {ρ:Ren}{st:St}{w:World}(h:WR ρ st w)(blk:rU):bp ρ st w ρ (st.new blk) w:=by
 have p:ρ st.nx=none:=by
  cases hh:ρ st.nx with
  |none=>rfl
  |some x=>have:=h.fresh _ x hh;omega
 have f:∀b fp x,(st.new blk).m.g b=some fp->ρ b=some x->st.m.g b=some fp:=λb fp x d c=>by
  have q:b≠st.nx:=λe=>by rw[e,p]at c;cases c
  simpa[St.new,PT.du _ _ _ _ q]using d
 refine⟨⟨λb fp r sz d c=>h.at' b fp r sz (f b fp _ d c) c,λb l k k' r s s' d c j i=>h.inj b l k k' r s s' (f b k _ d j) (f l k' _ c i) j i,λb x n=>?_⟩,λ_ _ h=>h,λ_ _ h=>h,?_,
  λb fp r sz d c=>.inl ⟨b,fp,sz,f b fp _ d c,c⟩,λ_ _ _=>rfl,aHK _,rfl,rfl⟩
 .show b<(st.nx+1);have:=h.fresh b x n;omega
 .show st.nx<=(st.nx+1);omega
def bp.skip {ρ:Ren}{st:St}{w:World}(h:WR ρ st w):bp ρ st w ρ ⟨st.m,(st.nx+1)⟩ w:=
 ⟨⟨h.at',h.inj,λb x c=>by show b<(st.nx+1);have:=h.fresh b x c;omega⟩,λ_ _ h=>h,λ_ _ h=>h,by show st.nx<=(st.nx+1);omega,
   λb g r sz f d=>.inl ⟨b,g,sz,f,d⟩,λ_ _ _=>rfl,aHK _,rfl,rfl⟩
def vd.cons {P:Program}{l:List Oper}{st f:St}{n:List (Option Nat)}(d:oP P o≠none\/qP P o=true){mem:PT rU}(c:vd P l ⟨mem,(st.nx+1)⟩ n f)(r:∀ρ w,WR ρ st w->bp ρ st w ρ ⟨mem,(st.nx+1)⟩ w):vd P (o::l) st (some st.nx::n) f:=by
 have u:((st.nx+1))=st.nx+1:=rfl
 have m:∀(i:Nat) (b:Nat),n[i]?=some (some b)->st.nx+1<=b/\b<f.nx:=λi b h=>by
  have:=c.range i b h;have e:(St.mk mem (st.nx+1)).nx=st.nx+1:=u;omega
 have x:st.nx+1<=f.nx:=by have:=c.nx;have e:(St.mk mem (st.nx+1)).nx=st.nx+1:=u;omega
 refine⟨by simp[c.len],uM,λi b h=>?_,λi j b h g=>?_,λρ w p=>(r ρ w p).trans (c.after ρ w (r ρ w p).wr),λi k h hh q=>?_,λi k h hh=>?_⟩
 .cases i with
  |zero=>simp at h;subst h;omega
  |succ i=>have:=m i b TK;omega
 .cases i with
  |zero=>
   cases j with
   |zero=>rfl
   |succ j=>simp at h;subst h;have:=m j _ (by simpa using g);omega
  |succ i=>cases j with
   |zero=>simp at g;subst g;have:=m i _ TK;omega
   |succ j=>rw[c.uniq i j b TK (by simpa using g)]
 .cases i with
  |zero=>simp at h;subst h;rcases d with d|d;exact absurd hh d;rw[q]at d;cases d
  |succ i=>exact c.olds i k TK hh q
 .cases i with
  |zero=>exact⟨_,rfl⟩
  |succ i=>exact c.news i k TK hh
def Lw {P:Program}:∀(l:List Oper) (st:St),∃c hO,vd P l st c hO/\∀(f:Type) (k:List (Option Nat)->St->f),JM P l st k=k c hO:=by
 intro l
 induction l with
 |nil=>intro st;exact⟨[],st,⟨rfl,aHK _,λi b h=>aap,λi j b h=>aap,λρ w h=>bp.refl h,λi o h=>aap,λi o h=>aap⟩,λf k=>rfl⟩
 |cons o l q=>
  intro st
  have e:∀(f:Type) (k:List (Option Nat)->St->f),JM P (o::l) st k=Option.rec (Bool.rec (motive:=λ_=>f) (JM P l st λc st=>k (none::c) st) (pT (st.nx+1) λnx=>JM P l ⟨st.m,nx⟩ λc n=>k (some st.nx::c) n) (qP P o))
   (λg=>pT (st.nx+1) λnx=>pT ⟨st.m.put st.nx (some (.cells g.2 g.1 false)),nx⟩ λhO=>JM P l hO λc n=>k (some st.nx::c) n) (oP P o):=λf k=>rfl
  cases hn:oP P o with
  |none=>
   cases hb:qP P o with
   |false=>
    obtain⟨c,hO,d,p⟩:=q st;refine⟨none::c,hO,⟨by simp[d.len],d.nx,λi b h=>?_,λi j b h u=>?_,d.after,λi o h hh x=>by cases i with|zero=>rfl|succ i=>exact d.olds i o TK hh x,λi o h hh=>by cases i with|zero=>(simp at h;subst h;rcases hh with hh|hh;exact absurd hn hh;rw[hb]at hh;cases hh)|succ i=>exact d.news i o TK hh⟩,λf k=>by rw[e,hn,hb];exact p _ _⟩
    .cases i with
     |zero=>simp at h
     |succ i=>exact d.range i b TK
    .cases i with
     |zero=>simp at h
     |succ i=>cases j with
      |zero=>simp at u
      |succ j=>rw[d.uniq i j b TK (by simpa using u)]
   |true=>
    obtain⟨c,n,d,p⟩:=q ⟨st.m,(st.nx+1)⟩;exact⟨some st.nx::c,n,d.cons (.inr hb) λρ w r=>bp.skip r,λf k=>by rw[e,hn,hb];show pT (st.nx+1) _=_;rw[dH];exact p _ _⟩
  |some g=>
   obtain⟨c,n,d,p⟩:=q (st.new (.cells g.2 g.1 false))
   exact⟨some st.nx::c,n,vd.cons (mem:=st.m.put st.nx (some (.cells g.2 g.1 false))) (.inl (by rw[hn];simp)) d λρ w r=>bp.aeJ r (.cells g.2 g.1 false),λf k=>by
    rw[e,hn];show pT (st.nx+1) _=_;rw[dH];rw[dH];exact p _ _⟩
end
section
variable {α:Type}{l:List Oper}{p:α->Bool}{o:Oper}{fr fr':Fr}{st:St}{ab:Option Nat}{v:CV}{k:Nat}
def FG {α:Type}(l:List α)(p:α->Bool):Bool:=List.rec false (λx _ r=>Bool.or (p x) r) l
def CC {α:Type}(l:List α)(p:α->Bool):Bool:=List.rec true (λx _ r=>Bool.and (p x) r) l
def Bs {l:List α}:FG l p=true↔∃x∈l,p x=true:=by
 induction l with
 |nil=>simp[FG]
 |cons x l a=>
  have e:FG (x::l) p=Bool.or (p x) (FG l p):=rfl;rw[e];simp only[aIK,a,aHJ,exists_eq_or_imp]
def pj {l:List α}:CC l p=true↔∀x∈l,p x=true:=by
 induction l with
 |nil=>simp[CC]
 |cons x l a=>
  have e:CC (x::l) p=Bool.and (p x) (CC l p):=rfl;rw[e];simp only[aIf,a,aHJ,forall_eq_or_imp]
def NL {α:Type}(l:List α):Nat->List (Nat×α):=List.rec (motive:=λ_=>Nat->List (Nat×α)) (λ_=>[]) (λx _ a i=>(i,x)::a (Nat.succ i)) l
def wX :∀{l:List α} {i:Nat} {k:Nat} {x:α},l[k]?=some x->(i+k,x)∈NL l i:=by
 intro l
 induction l with
 |nil=>intro i k x h;simp at h
 |cons y l a=>
  intro i k x h;have e:NL (y::l) i=(i,y)::NL l (i+1):=rfl;rw[e];cases k with
  |zero=>simp at h;subst h;simp
  |succ k=>
   simp at h;have:=a (i:=i+1) h;rw[show i+(k+1)=i+1+k from uM];exact aIH _ this
def rD (P:Program)(ops:Array Oper)(o:Oper):List eX:=
 (match mI P o.op with|some op=>op.args|none=>[])++
 (match o.guard with|some (g,_)=>(match (ops[g]?).bind (·.dst)with|some d=>[eX.tmp (d)]|none=>[])|none=>[])
def fM (ops:Array Oper)(f:Nat):Nat->Nat->Bool:=
 Nat.rec (motive:=λ_=>Nat->Nat->Bool) (λ_ _=>false) (λ_ a i j=>match ops[i]? with
  |none=>false
  |some o=>FG o.after.toList λe=>Bool.and (Region.binds .any e) (pT e.on λk=>Bool.or (Nat.beq k j) (a k j))) f
section
variable {P:Program} {call:gu} {ops:Array Oper}
def Gq (h:∀x∈rD P ops o,ev fr x=ev fr' x):mR P call ops o fr st=mR P call ops o fr' st:=by
 have c:fN ops fr o=fN ops fr' o:=by
  unfold fN;unfold rD at h;cases hg:o.guard with
  |none=>rfl
  |some f=>
   obtain⟨g,b⟩:=f;dsimp only;rw[hg]at h;dsimp only at h;cases hd:(ops[g]?).bind (·.dst)with
   |none=>rfl
   |some d=>
    rw[hd]at h;have e:fH fr (d)=fH fr' (d):=h (.tmp (d)) wb;dsimp only;rw[e]
 unfold mR;rw[c]
 split
 .cases ho:mI P o.op with
  |none=>rfl
  |some op=>
   dsimp only;refine GD λx a=>h x ?_;unfold rD;rw[ho];simp[a]
 .rfl
 .rfl
def pG (h:∀x∈rD P ops o,ev fr x=ev fr' x):ig P call ops ab o fr st=ig P call ops ab o fr' st:=by
 have c:=BS λg b d f i=>
  h (.tmp (d)) (by unfold rD;rw[f];dsimp only;rw[i];simp)
 unfold ig;rw[Gq h,c];cases oP P o with
 |some j=>cases ab<;>rfl
 |none=>
  cases ab with
  |none=>rfl
  |some b=>
   dsimp only;cases hl:lE P o with
   |none=>rfl
   |some x=>
    obtain⟨e,len,z,ps⟩:=x;dsimp only;have hc:=Kb hl;rw[DC (fr:=fr) (fr':=fr')];intro y a;refine h y ?_;unfold rD;rw[hc];exact aJz _ a
def QK (h:qP P o=false):lE P o=none:=by
 unfold qP at h;cases hl:lE P o with
 |none=>rfl
 |some x=>rw[hl]at h;cases h
def AR (h:qP P o=true):∃x,lE P o=some x:=by
 unfold qP at h;cases hl:lE P o with
 |none=>rw[hl]at h;cases h
 |some x=>exact⟨x,rfl⟩
def UZ (h:qP P o=true):oP P o=none:=by
 obtain⟨x,a⟩:=AR h;cases hn:oP P o with
 |none=>rfl
 |some b=>have:=yf (P:=P) (o:=o) (by rw[hn];simp);rw[a]at this;cases this
def EY (h:qP P o=true):ni P o=false:=by
 obtain⟨x,a⟩:=AR h;unfold ni;rw[UZ h,a]
def sH {st':St}(a:ni P o=false)(b:qP P o=false)(h:ig P call ops ab o fr st=.ok v st'):st'=st:=by
 have hl:=QK b;unfold ig at h;unfold ni at a;rw[hl]at a h
 split at h
 .rename_i hn;rw[hn]at a;dsimp only at a;unfold mR at h
  split at h
  .split at h
   .rename_i op c;rw[c]at a;exact(sN (by simpa using a)).eq _ _ h
   .cases h
  .cases h;rfl
  .cases h
 .split at h
  .unfold jy at h
   split at h
   .split at h
    .cases h;rfl
    .cases h
   .cases h
  .cases h;rfl
  .cases h
 .cases h
 .cases h
def qZ (a:Array Bool)(i:Nat):Prop:=a.getD i false=true
def Ws (ops:Array Oper)(a:Array Bool)(i:Nat):Prop:=∀o,ops[i]?=some o->∀e∈o.after,Region.binds .any e=true->qZ a e.on
def Bt {a:Array Bool}(b:∀i,qZ a i->Ws ops a i):∀(f i j:Nat),fM ops f i j=true->Ws ops a i->qZ a j:=by
 intro f
 induction f with
 |zero=>intro i j h;cases h
 |succ f c=>
  intro i j h d
  have e:fM ops (f+1) i j=(match ops[i]? with
   |none=>false
   |some o=>FG o.after.toList λe=>Bool.and (Region.binds .any e) (pT e.on λk=>Bool.or (Nat.beq k j) (fM ops f k j))):=rfl
  rw[e]at h
  split at h
  .cases h
  .rename_i o ho;rw[Bs]at h;obtain⟨x,hx,h⟩:=h;simp only[dH,aIf,aIK,aIs]at h;have hl:=d o ho x Yx h.1;rcases h.2 with h2|h2
   .rw[<-h2];exact hl
   .exact c _ _ h2 (b _ hl)
end
structure TR where
 i:Nat
 ab:Option Nat
 o:Oper
 w:Bool
 c:Nat
 fr:Fr
 v:CV
 s:St
 s1:St
def GQ (n:Nat)(a:Option Tmp)(v:CV)(fr:Fr):Option Fr:=
 match a with
 |none=>some fr
 |some d=>bE (Nat.ble (Nat.succ d) n) (pT (fr.put (d) (some v)) some) none
def CT {n:Nat}{a:Option Tmp}(h:GQ n a v fr=some fr'):(a=none/\fr'=fr)\/∃d,a=some d/\d<n/\fr'=fr.put (d) (some v):=by
 unfold GQ at h
 split at h
 .cases h;exact .inl ⟨rfl,rfl⟩
 .rename_i d;simp only[aO,aIr,aKD,dH]at h
  split at h
  .rename_i hd;cases h;exact .inr ⟨d,rfl,hd,rfl⟩
  .cases h
abbrev abL:=List TR×List St×Fr×St
def rZ (P:Program)(call:gu)(n:Nat)(ops:Array Oper)(l:List (Oper×Option Nat)):Nat->Nat->Fr->St->Option abL:=
 List.rec (motive:=λ_=>Nat->Nat->Fr->St->Option abL) (λ_ _ fr st=>some ([],[],fr,st)) (λo _ a i c fr st=>
  OR.rec (λv st'=>pT v λv=>pT st' λst'=>
   Option.rec none (λfr'=>bE (ni P o.1)
    (Option.rec none (λr=>some (⟨i,o.2,o.1,true,c,fr,v,st,st'⟩::r.1,st::r.2.1,r.2.2)) (a (Nat.succ i) (Nat.succ c) fr' st'))
    (Option.rec none (λr=>some (⟨i,o.2,o.1,false,c,fr,v,st,st'⟩::r.1,r.2.1,r.2.2)) (a (Nat.succ i) c fr' st'))) (GQ n o.1.dst v fr)) none (ig P call ops o.2 o.1 fr st)) l
def lP (b:List TR)(a:St)(k:Nat):St:=match b[k]? with|some t=>t.s|none=>a
def FrP (l:List Oper)(a:List TR)(L:Nat->Prop)(b f:Fr):Prop:=
 (∀j o d t,L j->l[j]?=some o->o.dst=some d->a[j]?=some t->fH f (d)=t.v)/\
 (∀p,(∀j o d,L j->l[j]?=some o->o.dst=some d->d≠p)->fH f p=fH b p)
def MQ (l:List Oper):Prop:=∀(j k:Nat) (a b:Oper) (d:Tmp),j<k->l[j]?=some a->l[k]?=some b->a.dst=some d->b.dst≠some d
def ef (P:Program)(l:List Oper)(k:Nat):Nat:=(l.take k).countP (ni P)
section
variable {P:Program} {call:gu} {n:Nat} {ops:Array Oper}
def oZ (h:l[k]?=some o):ef P l (k+1)=ef P l k+(if ni P o then 1 else 0):=by
 unfold ef;rw[List.take_add_one,h];simp[List.countP_append,List.countP_cons]
def xm :ef P (o::l) (k+1)=(if ni P o then 1 else 0)+ef P l k:=by
 unfold ef;rw[List.take_succ_cons,List.countP_cons];omega
def nh {j:Nat}(h:j<=k):ef P l j<=ef P l k:=by
 unfold ef;have:l.take j=(l.take k).take j:=by rw[aJc,aIC h]
 rw[this];exact(List.take_sublist _ _).countP_le
def xl :∀(k:Nat),k<=l.length->∀c,c<ef P l k->∃j o,j<k/\l[j]?=some o/\ni P o=true/\ef P l j=c:=by
 intro k
 induction k with
 |zero=>intro _ c h;simp[ef]at h
 |succ k b=>
  intro f c h;have a:l[k]?=some l[k]:=wb
  rw[oZ a]at h
  by_cases d:c<ef P l k
  .obtain⟨j,o,h1,h2,h3,e⟩:=b uM c d;exact⟨j,o,uM,h2,h3,e⟩
  .have hw:ni P l[k]=true:=by
    cases hh:ni P l[k]with
    |true=>rfl
    |false=>rw[hh]at h;simp at h;omega
   rw[hw]at h;simp only[aIj]at h;exact⟨k,_,uM,a,hw,uM⟩
structure IQ (L:List (Oper×Option Nat))(P:Program)(call:gu)(n:Nat)(ops:Array Oper)(i c:Nat)(fr:Fr)(st:St)(eY:List TR)(ch:List St)(Ii:Fr)(mq:St):Prop where
 len:eY.length=L.length
 at':∀k o ab,L[k]?=some (o,ab)->∃t,eY[k]?=some t/\t.i=i+k/\t.ab=ab/\t.o=o/\t.w=ni P o/\t.c=c+ef P (L.map (·.1)) k/\(∀d,o.dst=some d->d<n)/\FrP (L.map (·.1)) eY (·<k) fr t.fr/\
  ig P call ops ab o t.fr t.s=.ok t.v t.s1/\(ni P o=true->ch[ef P (L.map (·.1)) k]?=some t.s)
 fst:lP eY mq 0=st
 qY:∀k t,eY[k]?=some t->t.s1=lP eY mq (k+1)
 fin:FrP (L.map (·.1)) eY (·<L.length) fr Ii
 chl:ch.length=ef P (L.map (·.1)) L.length
def FrP.cons {q:List TR}{m:TR}{i g f:Fr}(x:MQ (o::l))(h:FrP l q (·<k) g f)(s:(o.dst=none/\g=i)\/∃d,o.dst=some d/\d<n/\g=i.put (d) (some m.v)):
 FrP (o::l) (m::q) (·<k+1) i f:=by
 constructor
 .intro j b d t c h1 a h3;cases j with
  |zero=>
   simp at h1 h3;subst h1;subst h3;rcases s with⟨e,_⟩|⟨r,e,_,rfl⟩
   .rw[a]at e;cases e
   .rw[a]at e;cases e;rw[h.2 (d),mO];intro j b r c w u e;subst e;exact x 0 (j+1) o b r uM wb (by simpa using w) a u
  |succ j=>exact h.1 j b d t (by have:=c;show j<k;omega) aal a (by simpa using h3)
 .intro p hp;rw[h.2 p λj b d c h1 a=>hp (j+1) b d (by have:j<k:=c;show j+1<k+1;omega) aal a];rcases s with⟨_,rfl⟩|⟨d,e,_,rfl⟩
  .rfl
  .rw[nf];exact λe'=>hp 0 o d (by show 0<k+1;omega) wb e e'.symm
def Gf:∀{L:List (Oper×Option Nat)} {i c:Nat} {fr:Fr} {st:St} {C:List TR} {D:List St} {F:Fr} {mq:St},rZ P call n ops L i c fr st=some (C,D,F,mq)->MQ (L.map (·.1))->IQ L P call n ops i c fr st C D F mq:=by
 intro L
 induction L with
 |nil=>
  intro i c fr st C D F mq h _;cases h;exact⟨rfl,λk o ab h=>aap,rfl,λk t h=>aap,⟨λj o d t _ h=>aap,λp _=>rfl⟩,rfl⟩
 |cons N L K=>
  obtain⟨o,ab⟩:=N;intro i c fr st C D F mq h E;rw[aIt]at E
  have e:rZ P call n ops ((o,ab)::L) i c fr st=OR.rec (motive:=λ_=>Option abL) (λv st'=>pT v λv=>pT st' λst'=>
   Option.rec none (λfr'=>bE (ni P o)
    (Option.rec none (λr=>some (⟨i,ab,o,true,c,fr,v,st,st'⟩::r.1,st::r.2.1,r.2.2)) (rZ P call n ops L (i+1) (c+1) fr' st'))
    (Option.rec none (λr=>some (⟨i,ab,o,false,c,fr,v,st,st'⟩::r.1,r.2.1,r.2.2)) (rZ P call n ops L (i+1) c fr' st'))) (GQ n o.dst v fr)) none (ig P call ops ab o fr st):=rfl
  rw[e]at h;have y:MQ (L.map (·.1)):=λj k a b d Q h1 h2=>E (j+1) (k+1) a b d uM aal abm;cases hs:ig P call ops ab o fr st with
  |bad=>rw[hs]at h;cases h
  |ok v hO=>
   rw[hs]at h;simp only[dH,dH]at h;cases hp:GQ n o.dst v fr with
   |none=>rw[hp]at h;cases h
   |some G=>
    rw[hp]at h;simp only[aO]at h;have J:=CT hp
    have Tv:∀d,o.dst=some d->d<n:=λd M=>by
     rcases J with⟨e,_⟩|⟨d',e,Y,_⟩
     .rw[M]at e;cases e
     .rw[M]at e;cases e;exact Y
    have x:∀(w:Bool) (B:List TR) (f q:List St) (z:Fr) (A:St),ni P o=w->IQ L P call n ops (i+1) (c+if w then 1 else 0) G hO B f z A->q=(if w then st::f else f)->
     IQ ((o,ab)::L) P call n ops i c fr st (⟨i,ab,o,w,c,fr,v,st,hO⟩::B) q z A:=by
     intro w B f q z A g u s;refine⟨by simp[u.len],λk O I m=>?_,rfl,λk t m=>?_,by rw[aIt];exact u.fin.cons E J,?_⟩
     .rw[aIt];cases k with
      |zero=>
       simp at m;obtain⟨rfl,rfl⟩:=m;refine⟨_,rfl,rfl,rfl,rfl,g.symm,rfl,Tv,⟨λj _ _ _ R=>absurd R (Nat.not_lt_zero _),λp _=>rfl⟩,hs,λhh=>?_⟩;rw[hh]at g;subst g;rw[s];rfl
      |succ k=>
       simp only[aHI]at m;obtain⟨t,h1,h2,H,X,W,V,U,T,S,KF⟩:=u.at' k O I m;refine⟨t,aal,uM,H,X,W,?_,U,T.cons E J,S,λZ=>?_⟩
       .rw[V,xm,g];omega
       .rw[xm,g,s];have:=KF Z;cases w
        .simpa using this
        .simp only[aIj];rw[aKL 1];simpa using this
     .cases k with
      |zero=>
       simp at m;subst m;have:=u.fst;show hO=lP _ _ _;rw[<-this];unfold lP;simp
      |succ k=>
       have:=u.qY k t (by simpa using m);rw[this];unfold lP;simp
     .rw[aIt,aIg,xm,g,s];have:=u.chl;cases w
      .simp[this]
      .simp[this];omega
    cases g:ni P o with
    |true=>
     rw[g]at h;simp only[aIj]at h;cases ht:rZ P call n ops L (i+1) (c+1) G hO with
     |none=>rw[ht]at h;cases h
     |some r=>
      obtain⟨B,f,z,A⟩:=r;rw[ht]at h;cases h;exact x true _ _ _ _ _ g (K ht y) rfl
    |false=>
     rw[g]at h;simp only[aHH,aHV]at h;cases ht:rZ P call n ops L (i+1) c G hO with
     |none=>rw[ht]at h;cases h
     |some r=>
      obtain⟨B,f,z,A⟩:=r;rw[ht]at h;cases h;exact x false _ _ _ _ _ g (K ht y) rfl
end
end
section
variable {listed:Array Bool}{i j:Nat}{t:TR}{a:Act}{c:Nat}{ρ:Ren}{s M:St}
def DE (o:Oper)(p:Nat):Bool:=match o.dst with|some d=>aiY (d) p|none=>false
def LO (ops:Array Oper)(i:Nat)(x:eX):Bool:=
 match x with| .const _=>true| .tmp p=>CC (NL ops.toList 0) λb=>bE (DE b.2 p) (bE (Nat.ble (Nat.succ b.1) i) (fM ops ops.size i b.1) (Bool.and (Nat.ble (Nat.succ i) b.1) (fM ops ops.size b.1 i))) true
def JS (P:Program)(ops:Array Oper)(i:Nat)(o:Oper)(j:Nat)(b:Oper):Bool:=
 bE (Nat.ble (Nat.succ j) i) (Bool.and (match b.dst with|some d=>Bool.not (DE o (d))|none=>true) (bE (Bool.and (ni P o) (ni P b)) (fM ops ops.size i j) true)) true
def Pw (P:Program)(ops:Array Oper):Bool:=
 CC (NL ops.toList 0) λb=>
  Bool.and (CC b.2.after.toList λe=>bE (Region.binds .any e) (Nat.ble (Nat.succ e.on) b.1) true)
  (Bool.and (CC (rD P ops b.2) λx=>LO ops b.1 x) (CC (NL ops.toList 0) λd=>JS P ops b.1 b.2 d.1 d.2))
section
variable {P:Program} {call:gu} {n:Nat} {ops:Array Oper}
structure DM (P:Program)(ops:Array Oper):Prop where
 s1:∀i o,ops.toList[i]?=some o->∀e∈o.after,Region.binds .any e=true->e.on<i
 s2:∀i o,ops.toList[i]?=some o->∀p,eX.tmp p∈rD P ops o->∀j oj d,ops.toList[j]?=some oj->oj.dst=some d->d=p->(j<i/\fM ops ops.size i j=true)\/(i<j/\fM ops ops.size j i=true)
 s3:MQ ops.toList
 s4:∀i j o oj,ops.toList[i]?=some o->ops.toList[j]?=some oj->j<i->ni P o=true->ni P oj=true->fM ops ops.size i j=true
def Jo (h:Pw P ops=true):DM P ops:=by
 unfold Pw at h;rw[pj]at h;have b:∀i o,ops.toList[i]?=some o->_:=λi o f=>h (i,o) (by have:=wX (i:=0) f;simpa using this);refine⟨λi o f e he y=>?_,λi o f p x j k d hj r m=>?_,λj i k o d u hj f r v=>?_,λi j o k f hj u w l=>?_⟩
 .have:=b i o f;simp only[aIf,pj]at this;have:=this.1 e acn;rw[y]at this
  simpa[aKD]using this
 .have:=b i o f;simp only[aIf,pj]at this;have:=this.2.1 _ x;unfold LO at this;dsimp only at this;rw[pj]at this;have:=this (j,k) acp;have g:DE k p=true:=by unfold DE;rw[r];exact ID.2 m
  simp only[g,aO,aIj,aIr,aKD]at this
  split at this
  .rename_i q;exact .inl ⟨q,this⟩
  .simp only[aIf,aIr,aKD]at this;exact .inr this
 .have:=b i o f;simp only[aIf,pj]at this;have:=this.2.2 (j,k) acp;unfold JS at this;simp only[aO,aIr,aKD,aHP u,aIf]at this;have:=this.1;rw[r]at this;have g:DE o (d)=true:=by unfold DE;rw[v];exact ID.2 rfl
  simp[g]at this
 .have:=b i o f;simp only[aIf,pj]at this;have:=this.2.2 (j,k) acp;unfold JS at this;simp only[aO,aIr,aKD,aHP u,aIf]at this;have:=this.2
  simpa[w,l]using this
def ace (P:Program)(call:gu)(ops:Array Oper)(b:List St)(eY:List TR):Prop:=∀(i:Nat) (t:TR),eY[i]?=some t->ni P t.o=false->qP P t.o=false->∀(c:Nat) (s:St),b[c]?=some s->
    (∃u∈eY,u.w=true/\u.c<c/\fM ops ops.size u.i t.i=true)\/(∃u∈eY,u.w=true/\c<=u.c/\fM ops ops.size t.i u.i=true)\/∃d,ig P call ops t.ab t.o t.fr s=.ok t.v d
def SS (P:Program)(ops:Array Oper)(as:List (Option Nat))(e:List St)(eY:List TR):Prop:=∀(j:Nat) (k:TR) (b:Nat),eY[j]?=some k->qP P k.o=true->as[j]?=some (some b)->∀(d:Nat) (f:TR),eY[d]?=some f->ni P f.o=true->
    fM ops ops.size d j=false->fM ops ops.size j d=false->(d<j->∀s,e[f.c]?=some s->s.m.g b=none)/\(j<d->∀s s',e[f.c]?=some s->e[f.c+1]?=some s'->s'.m.g b=s.m.g b)
def KU (b:DM P ops):∀(f i j:Nat),fM ops f i j=true->j<i:=by
 intro f
 induction f with
 |zero=>intro i j h;cases h
 |succ f d=>
  intro i j h
  have e:fM ops (f+1) i j=(match ops[i]? with
   |none=>false
   |some o=>FG o.after.toList λe=>Bool.and (Region.binds .any e) (pT e.on λk=>Bool.or (Nat.beq k j) (fM ops f k j))):=rfl
  rw[e]at h
  split at h
  .cases h
  .rename_i o ho;rw[Bs]at h;obtain⟨x,hx,h⟩:=h;simp only[dH,aIf,aIK,aIs]at h;have:=b.s1 i o (by simpa using ho) x Yx h.1;rcases h.2 with h2|h2
   .omega
   .have:=d _ _ h2;omega
open Classical in
def zF (s:St)(f:Nat->Option rU):∀d:List Nat,∃M:St,M.nx=s.nx/\∀q,M.m.g q=if q∈d then f q else s.m.g q:=by
 intro d
 induction d with
 |nil=>exact⟨s,rfl,λq=>wb⟩
 |cons b d k=>
  obtain⟨M,o,l⟩:=k;refine⟨⟨M.m.put b (f b),M.nx⟩,o,λq=>?_⟩;show(M.m.put b (f b)).g q=_;rw[PT.eW,l]
  by_cases e:q=b
  .subst e;simp
  .simp[e]
def unl (N:Nat)(listed:Array Bool):Nat:=(List.range N).countP λi=> !listed.getD i true
def Lf {N:Nat}(hi:i<N)(r:listed.size=N)(q:listed.getD i true=false):unl N (listed.setIfInBounds i true)<unl N listed:=by
 unfold unl
 have f:∀(l:List Nat),i∈l->l.Nodup->l.countP (λk=> !(listed.setIfInBounds i true).getD k true)<l.countP (λk=> !listed.getD k true):=by
  have b:∀k,k≠i->(listed.setIfInBounds i true).getD k true=listed.getD k true:=λk d=>by simp[aIU (aIG d)]
  have m:(listed.setIfInBounds i true).getD i true=true:=by simp[r,hi]
  intro l
  induction l with
  |nil=>intro h;simp at h
  |cons k l o=>
   intro h g;rw[aHX]at g;rw[List.countP_cons,List.countP_cons]
   by_cases d:k=i
   .subst d
    have:l.countP (λk'=> !(listed.setIfInBounds k true).getD k' true)=l.countP (λk'=> !listed.getD k' true):=by
     apply List.countP_congr;intro x p;rw[b x (λe=>g.1 (e▸p))]
    rw[this,m,q];simp
   .have hl:i∈l:=by simpa[aIG d]using h
    have:=o hl g.2;rw[b k d];omega
 exact f _ Yy List.nodup_range
def lX (hi:i<listed.size):qZ (listed.setIfInBounds i true) j↔j=i\/qZ listed j:=by
 unfold qZ
 by_cases h:j=i
 .subst h;simp[hi]
 .simp[aIU (aIG h),h]
def tP (d:listed.size=ops.size):i∈Region.ready .any ops listed↔i<ops.size/\¬qZ listed i/\Ws ops listed i:=by
 unfold Region.ready;rw[aIR,List.mem_range];constructor
 .rintro⟨h1,h2⟩;simp only[aIf,aKH]at h2;refine⟨h1,?_,?_⟩
  .unfold qZ;have:listed.getD i false=listed.getD i true:=by simp[d,h1]
   rw[this,h2.1];simp
  .intro o ho e b hb;have:=h2.2;rw[ho]at this;simp only[aIZ,aJg,Array.all_eq_true_iff_forall_mem]at this;have:=this e b;rw[hb]at this
   simpa[qZ]using this
 .rintro⟨h1,h2,h3⟩;refine⟨h1,?_⟩;simp only[aIf,aKH];constructor
  .unfold qZ at h2;have:listed.getD i false=listed.getD i true:=by simp[d,h1]
   rw[this]at h2;simpa using h2
  .have ho:ops[i]?=some ops[i]:=by simp
   rw[ho];simp only[aIZ,aJg,Array.all_eq_true_iff_forall_mem];intro e b;cases hb:Region.binds .any e with
   |false=>rfl
   |true=>have:=h3 _ ho e b hb;simpa[qZ]using this
def Bv (b:DM P ops)(g:listed.size=ops.size)(h:Region.ready .any ops listed=[]):∀i,i<ops.size->qZ listed i:=by
 intro i
 induction i using Nat.strongRecOn with
 |_ i f=>
  intro hi
  by_cases d:qZ listed i
  .exact d
  .have:=(tP g).2 ⟨hi,d,λo k e l m=>by
    have:=b.s1 i o (by simpa using k) e l m;exact f _ this uM⟩
   rw[h]at this;simp at this
structure OK (P:Program)(ops:Array Oper)(as:List (Option Nat))(eY:List TR)(listed:Array Bool)(c:Nat)(ρ:Ren)(s M:St):Prop where
 nx:M.nx=s.nx
 late:∀(j:Nat) (t:TR) (b:Nat) (x:Nat×Nat),qZ listed j->eY[j]?=some t->qP P t.o=true->as[j]?=some (some b)->ρ b=some x->t.s.m.g b=none/\(c<ef P ops.toList j->M.m.g b=t.s1.m.g b/\s.m.g b=none)
 UF:∀(q:Nat) (x:Nat×Nat),ρ q=some x->(∀(j:Nat) (t:TR),as[j]?=some (some q)->eY[j]?=some t->qP P t.o=true->¬c<ef P ops.toList j)->M.m.g q=s.m.g q
structure Inv (P:Program)(ops:Array Oper)(as:List (Option Nat))(eY:List TR)(ch:List St)(mq:St)(n:Nat)(ρ0:Ren)(BJ kL:St)(Bf:Fr)(w0:World)(listed:Array Bool)(a:Act)(w:World):Prop where
 size:listed.size=ops.size
 closed:∀i,qZ listed i->Ws ops listed i
 inner:∀i,qZ listed i->i<ops.size
 data:∃fr c ρ s M,FrP ops.toList eY (qZ listed) Bf fr/\(∀j o,ops.toList[j]?=some o->ni P o=true->(qZ listed j↔ef P ops.toList j<c))/\c<=ch.length/\(ch++[mq])[c]?=some s/\FR ρ fr a.tmps/\bp ρ0 BJ w0 ρ M w/\kL.nx<=s.nx/\(∀j b,¬qZ listed j->as[j]?=some (some b)->ρ b=none)/\OK P ops as eY listed c ρ s M
 sz:n<=a.tmps.size
 defers:a.defers=[]
variable {as:List (Option Nat)} {eY:List TR} {ch:List St} {ρ0:Ren} {BJ kL mq:St} {Bf Ii:Fr} {w0:World}
def Ys {d f:Type}{l:List d}{as:List f}(h:as.length=l.length){o:d}(e:l[j]?=some o):∃ab,(l.zip as)[j]?=some (o,ab)/\as[j]?=some ab:=by
 have b:=(aHW.1 e).1;refine⟨as[j]' uM,?_,by simp[h,b]⟩;rw[List.getElem?_zip_eq_some];exact⟨e,by simp[h,b]⟩
section
variable (dz:vd P ops.toList BJ as kL) (kI:IQ (ops.toList.zip as) P call n ops 0 0 Bf kL eY ch Ii mq)
include dz kI
def nH {o:Oper}(y:ops.toList[j]?=some o):∃t b,eY[j]?=some t/\as[j]?=some b/\t.i=j/\t.ab=b/\t.o=o/\t.w=ni P o/\t.c=ef P ops.toList j/\(∀d,o.dst=some d->d<n)/\FrP ops.toList eY (·<j) Bf t.fr/\
 ig P call ops b o t.fr t.s=.ok t.v t.s1/\(ni P o=true->(ch++[mq])[ef P ops.toList j]?=some t.s):=by
 obtain⟨b,x,g⟩:=Ys dz.len y;have z:(ops.toList.zip as).map (·.1)=ops.toList:=List.map_fst_zip ach;obtain⟨t,u,A,r,q,p,m,l,f,k,e⟩:=kI.at' j o b x;rw[z]at m f e;refine⟨t,b,u,g,uM,r,q,p,uM,l,f,k,λh=>?_⟩;have:=e h;rw[aJi (aHW.1 this).1];exact this
def yC (d:eY[j]?=some t):ops.toList[j]?=some t.o:=by
 have b:(ops.toList.zip as).length=ops.toList.length:=acL
 have e:j<ops.toList.length:=by rw[<-b,<-kI.len];exact(aHW.1 d).1
 obtain⟨k,l,f,_,_,_,g,_⟩:=nH dz kI (aHO e);rw[d]at f;cases f;rw[g,aHO e]
def DU:eY.length=ops.toList.length:=by rw[kI.len,List.length_zip,dz.len];simp
def Bo:ch.length=ef P ops.toList ops.toList.length:=by
 have d:(ops.toList.zip as).map (·.1)=ops.toList:=List.map_fst_zip ach;have b:(ops.toList.zip as).length=ops.toList.length:=acL
 have:=kI.chl;rw[d,b]at this;exact this
def gap {k:Nat}:∀{k':Nat},k<=k'->k'<=ops.toList.length->(∀j o,k<=j->j<k'->ops.toList[j]?=some o->ni P o=false)->
 (lP eY mq k').nx=(lP eY mq k).nx/\∀q,(∀j t,k<=j->j<k'->eY[j]?=some t->qP P t.o=true->as[j]?≠some (some q))->(lP eY mq k').m.g q=(lP eY mq k).m.g q:=by
 intro k'
 induction k' with
 |zero=>intro h _ _;have:k=0:=by omega
        subst this;exact⟨rfl,λ_ _=>rfl⟩
 |succ k' v=>
  intro h F p
  by_cases z:k=k'+1
  .subst z;exact⟨rfl,λ_ _=>rfl⟩
  obtain⟨w,i2⟩:=v uM uM (λj o d l=>p j o d uM);have f:ops.toList[k']?=some ops.toList[k']:=aHO uM;generalize ops.toList[k']=o at f;obtain⟨t,N,d,l,L,K,A,J,I,H,G,u,B⟩:=nH dz kI f;have E:=kI.qY k' t d;have I6:lP eY mq k'=t.s:=by unfold lP;rw[d]
  rw[<-E,<-w,I6];have D:=p k' o uM uM f;cases hb:qP P o with
  |false=>
   have:=sH D hb u;rw[this];exact⟨rfl,λq hq=>acO⟩
  |true=>
   obtain⟨x,y⟩:=AR hb;obtain⟨b,r⟩:=dz.news k' o f (.inr hb);rw[l]at r;cases r;rcases wq y u with⟨_,_,e⟩|⟨_,s,_,_,_,e⟩
   .rw[e];exact⟨rfl,λq hq=>acO⟩
   .rw[e];refine⟨rfl,λq hq=>?_⟩;have C:q≠b:=λe=>hq k' t uM uM d (by rw[A];exact hb) (by rw[l,e]);show(t.s.m.put b _).g q=_;rw[PT.du _ _ _ _ C,<-i2 q λj t g1 g2=>hq j t g1 uM,I6]
def wO:∀(m k:Nat),k+m=ops.toList.length->∃b,k<=b/\b<=ops.toList.length/\(∀j o,k<=j->j<b->ops.toList[j]?=some o->ni P o=false)/\ef P ops.toList b=ef P ops.toList k/\(ch++[mq])[ef P ops.toList k]?=some (lP eY mq b)/\
 (b=ops.toList.length\/∃o,ops.toList[b]?=some o/\ni P o=true):=by
 intro m
 induction m with
 |zero=>
  intro k v;have:k=ops.toList.length:=uM
  refine⟨k,aHK _,uM,λj o l p=>uM,rfl,?_,.inl this⟩;rw[this,<-Bo dz kI];have:lP eY mq ops.toList.length=mq:=by unfold lP;rw[aIN (by rw[DU dz kI];exact aHK _)]
  rw[this];simp
 |succ m u=>
  intro k v;have d:ops.toList[k]?=some ops.toList[k]:=aHO uM;generalize ops.toList[k]=o at d;cases hw:ni P o with
  |true=>
   obtain⟨t,K,l,p,I,H,G,F,E,D,C,L,g⟩:=nH dz kI d;refine⟨k,aHK _,uM,λj o l p=>uM,rfl,?_,.inr ⟨o,d,hw⟩⟩;rw[g hw];unfold lP;rw[l]
  |false=>
   have hc:=oZ (P:=P) d;rw[hw]at hc;simp only[aHH,aHV,aIv]at hc;obtain⟨b,J,A,z,y,x,w⟩:=u (k+1) uM;refine⟨b,uM,A,λj q B r f=>?_,by rw[y,hc],by rw[<-hc];exact x,w⟩
   by_cases e:j=k
   .subst e;rw[d]at f;cases f;exact hw
   .exact z j q uM r f
def AL {b:Nat}(d:eY[j]?=some t)(l:qP P t.o=true)(p:as[j]?=some (some b)):∃s,(ch++[mq])[ef P ops.toList j]?=some s/\s.m.g b=t.s1.m.g b:=by
 have ho:=yC dz kI d;have k:=(aHW.1 ho).1;have hc:=oZ (P:=P) ho;rw[EY l]at hc;simp only[aHH,aHV,aIv]at hc;obtain⟨x,v,u,r,D,e,C⟩:=wO dz kI (ops.toList.length-(j+1)) (j+1) uM;rw[hc]at e;refine⟨_,e,?_⟩;rw[(gap dz kI v u r).2 b λf w B A z y q=>by have:=dz.uniq j f b p q;omega,<-kI.qY j t d]
end
def Inv.done (dz:vd P ops.toList BJ as kL)(kI:IQ (ops.toList.zip as) P call n ops 0 0 Bf kL eY ch Ii mq){w:World}(h:Inv P ops as eY ch mq n ρ0 BJ kL Bf w0 listed a w)(B:∀i,i<ops.size->qZ listed i):
 qW ρ0 BJ w0 n (.norm Ii mq) .normal a w:=by
 obtain⟨fr,c,ρ,s,M,A,J,Q,v,I,H,O,N,z⟩:=h.data;have K:(ops.toList.zip as).map (·.1)=ops.toList:=List.map_fst_zip ach;have p:(ops.toList.zip as).length=ops.toList.length:=acL
 have F:c=ch.length:=by
  by_cases g:c<ch.length
  .rw[Bo dz kI]at g;obtain⟨j,o,b,f,k,R⟩:=xl (P:=P) (l:=ops.toList) ops.toList.length (aHK _) c g;have:=(J j o f k).1 (B j (by simpa using b));omega
  .omega
 subst F
 have E:s=mq:=by
  rw[aIY (aHK _)]at v;simp at v;exact v.symm
 subst E
 have G:=H.sK (λq x C=>(z.UF q x C λj t _ D L g=>by
  have ho:=yC dz kI D;have r:=(aHW.1 ho).1;have:=nh (P:=P) (l:=ops.toList) (Nat.le_of_lt r);have:=Bo dz kI;omega).symm) z.nx.symm
 refine⟨rfl,ρ,⟨λt=>?_,h.sz,h.defers,G⟩⟩
 have:fH Ii (t)=fH fr (t):=by
  have m:=kI.fin;rw[K]at m
  by_cases u:∃(j:Nat) (o:Oper) (d:Tmp),ops.toList[j]?=some o/\o.dst=some d/\d=t
  .obtain⟨j,o,d,b,f,rfl⟩:=u;have hj:=(aHW.1 b).1;obtain⟨y,_,k,_⟩:=nH dz kI b;rw[m.1 j o d y (by show j<_;rw[p];exact hj) b f k,A.1 j o d y (B j adn) b f k]
  .rw[m.2,A.2]
   .exact λj o d _ b f e=>u ⟨j,o,d,b,f,e⟩
   .exact λj o d _ b f e=>u ⟨j,o,d,b,f,e⟩
 rw[this];exact I t
def OK.sub (h:OK P ops as eY listed c ρ s M)(r:∀j b,¬qZ listed j->as[j]?=some (some b)->ρ b=none):∀q x,ρ q=some x->s.m.g q=M.m.g q\/s.m.g q=none:=by
 intro q x d
 by_cases hh:∃(j:Nat) (t:TR),as[j]?=some (some q)/\eY[j]?=some t/\qP P t.o=true/\c<ef P ops.toList j
 .obtain⟨j,t,e,l,k,f⟩:=hh
  by_cases p:qZ listed j
  .exact .inr ((h.late j t q x p l k e d).2 f).2
  .rw[r j q p e]at d;cases d
 .exact .inl (h.UF q x d λj t e l k f=>hh ⟨j,t,e,l,k,f⟩).symm
def nz (P:Program)(ops:Array Oper)(as:List (Option Nat))(eY:List TR)(listed:Array Bool)(c:Nat)(ρ:Ren)(q:Nat):Prop:=∃(j:Nat) (t:TR) (x:Nat×Nat),qZ listed j/\eY[j]?=some t/\qP P t.o=true/\as[j]?=some (some q)/\c<ef P ops.toList j/\ρ q=some x
open Classical in
def OK.step {f:Ren}{d:St}{w w':World}(h:OK P ops as eY listed c ρ s M)(D:∀j b,¬qZ listed j->as[j]?=some (some b)->ρ b=none)(B:bp ρ0 BJ w0 ρ M w)(E:bp ρ s w f d w')
 (_:∀q,nz P ops as eY listed c ρ q->d.m.g q=none):∃e,bp ρ0 BJ w0 f e w'/\e.nx=d.nx/\∀q,e.m.g q=if nz P ops as eY listed c ρ q then M.m.g q else d.m.g q:=by
 obtain⟨e,C,F⟩:=zF d (λq=>if nz P ops as eY listed c ρ q then M.m.g q else d.m.g q) (as.filterMap id)
 have r:∀q,e.m.g q=if nz P ops as eY listed c ρ q then M.m.g q else d.m.g q:=by
  intro q;rw[F]
  by_cases p:q∈as.filterMap id
  .rw[aHP p]
  .rw[aHM p,aHM];rintro⟨j,t,x,_,_,_,k,_⟩;refine p (List.mem_filterMap.2 ⟨some q,aII k,rfl⟩)
 refine⟨e,B.trans (bp.frame B.wr h.nx.symm (h.sub D) E C λq x G=>?_),C,r⟩
 by_cases l:nz P ops as eY listed c ρ q
 .right;obtain⟨j,t,y,k,A,z,v,u,o⟩:=l;have l:nz P ops as eY listed c ρ q:=⟨j,t,y,k,A,z,v,u,o⟩;exact⟨⟨y,o⟩,((h.late j t q y k A z v o).2 u).2,by rw[r,aHP l]⟩
 .left;rw[r,aHM l]
open Classical in
def Inv.step (hc:jw P call)(Y:DM P ops)(dz:vd P ops.toList BJ as kL)(kI:IQ (ops.toList.zip as) P call n ops 0 0 Bf kL eY ch Ii mq)(VB:ace P call ops (ch++[mq]) eY)(R:SS P ops as (ch++[mq]) eY){w:World}
 (h:Inv P ops as eY ch mq n ρ0 BJ kL Bf w0 listed a w)  (hi:i∈Region.ready .any ops listed) {K:Act->World->Prop} {Q:Exit->Act->World->Prop}
 (hK:∀a' w',Inv P ops as eY ch mq n ρ0 BJ kL Bf w0 (listed.setIfInBounds i true) a' w'->K a' w'):wpOp P ops Q i K a w:=by
 obtain⟨iS,HF,XM⟩:=(tP h.size).1 hi;obtain⟨fr,c,ρ,s,M,h1,h2,h3,h4,h5,h6,h7,h8,V⟩:=h.data;have ho:ops[i]?=some ops[i]:=wb
 generalize ops[i]=o at ho;have NR:ops.toList[i]?=some o:=by simpa using ho
 obtain⟨t,ab,t1,uZ,t2,ai,t3,t4,t5,t6,t7,t9,am⟩:=nH dz kI NR;have RA:∀j,fM ops ops.size i j=true->qZ listed j:=λj r=>Bt h.closed _ _ _ r XM;have HY:∀j k,fM ops ops.size k j=true->qZ listed k->qZ listed j:=λj k r hk=>Bt h.closed _ _ _ r (h.closed k hk);have HJ:i<listed.size:=by rw[h.size];exact iS
 have Mj:∀x∈rD P ops o,ev fr x=ev t.fr x:=by
  intro x H;cases x with
  |const v=>rfl
  |tmp p=>
   show fH fr p=fH t.fr p
   by_cases hd:∃(j:Nat) (A:Oper) (d:Tmp),ops.toList[j]?=some A/\A.dst=some d/\d=p
   .obtain⟨j,A,d,f,B,L⟩:=hd
    have L5:∀(O:Nat) (o':Oper) (d':Tmp),ops.toList[O]?=some o'->o'.dst=some d'->d'=p->O=j:=by
     intro O o' d' N D k3;have:d'=d:=(by rw[k3,L]);subst this;rcases aKI O j with R|heq|yo
     .exact absurd B (Y.s3 O j o' A d' R N f D)
     .exact heq
     .exact absurd D (Y.s3 j O A o' d' yo f N B)
    rcases Y.s2 i o NR p H j A d f B L with⟨J,g5⟩|⟨J,g5⟩
    .obtain⟨tj,_,g6,_⟩:=nH dz kI f;subst L;rw[h1.1 j A d tj (RA j g5) f B g6,t7.1 j A d tj J f B g6]
    .rw[h1.2,t7.2]
     .intro O o' d' k0 N D k3;have:=L5 O o' d' N D k3;have k0:=k0;omega
     .intro O o' d' k0 N D k3;have:=L5 O o' d' N D k3;subst this;exact HF (HY i O g5 k0)
   .rw[h1.2,t7.2]
    .exact λj o d _ f B e=>hd ⟨j,o,d,f,B,e⟩
    .exact λj o d _ f B e=>hd ⟨j,o,d,f,B,e⟩
 have ae:∀v' w' E c2 s2 M2,VR E t.v v'->ρ.le E->(∀j A,ops.toList[j]?=some A->ni P A=true->(j=i\/qZ listed j↔ef P ops.toList j<c2))->c2<=ch.length->(ch++[mq])[c2]?=some s2->bp ρ0 BJ w0 E M2 w'->kL.nx<=s2.nx->
  (∀j b,¬qZ (listed.setIfInBounds i true) j->as[j]?=some (some b)->E b=none)->OK P ops as eY (listed.setIfInBounds i true) c2 E s2 M2->K (a.put o.dst v') w':=by
  intro v' w' E c2 s2 M2 hv ad k4 k3 D hA k7 k8 k9
  refine hK _ _ {
   size:=by simp[h.size]
   closed:=λj r o' Tr e he hb=>by
    rw[lX HJ]at r⊢;rcases r with rfl|r
    .exact .inr (XM o' Tr e he hb)
    .exact .inr (h.closed j r o' Tr e he hb)
   inner:=λj r=>by
    rw[lX HJ]at r;rcases r with rfl|r
    .exact iS
    .exact h.inner j r
   data:=by
    cases hd:o.dst with
    |none=>
     refine⟨fr,c2,E,s2,M2,⟨λj A d tj f B L J=>?_,λp hp=>h1.2 p λj A d f=>hp j A d ((lX HJ).2 (.inr f))⟩,λj A f B=>?_,k3,D,h5.mono ad,hA,k7,k8,k9⟩
     .rcases(lX HJ).1 f with rfl|f
      .rw[NR]at B;cases B;rw[hd]at L;cases L
      .exact h1.1 j A d tj f B L J
     .rw[lX HJ];exact k4 j A f B
    |some d=>
     refine⟨fr.put (d) (some t.v),c2,E,s2,M2,⟨λj A d' tj f B L J=>?_,λp hp=>?_⟩,λj A f B=>?_,k3,D,(h5.mono ad).aeI (aId (t6 d hd) h.sz) hv,hA,k7,k8,k9⟩
     .rcases(lX HJ).1 f with rfl|f
      .rw[NR]at B;cases B;rw[hd]at L;cases L;rw[t1]at J;cases J;exact mO _ _ _
      .have ak:=f;rw[nf]
       .exact h1.1 j A d' tj f B L J
       .intro e;subst e;rcases aKI j i with R|heq|yo
        .exact Y.s3 j i A o d' R B NR L hd
        .rw[heq]at ak;exact HF ak
        .exact Y.s3 i j o A d' yo NR B hd L
     .rw[nf]
      .exact h1.2 p λj A d' f=>hp j A d' ((lX HJ).2 (.inr f))
      .exact λe=>hp i o d ((lX HJ).2 (.inl rfl)) NR hd e.symm
     .rw[lX HJ];exact k4 j A f B
   sz:=by rw[GN];exact h.sz
   defers:=by rw[Ao];exact h.defers}
 have yS:ni P o=false->∀j A,ops.toList[j]?=some A->ni P A=true->(j=i\/qZ listed j↔ef P ops.toList j<c):=λhw j A f B=>by
  rw[h2 j A f B];constructor
  .rintro(e|e)
   .subst e;rw[NR]at f;cases f;rw[hw]at B;cases B
   .exact e
  .exact .inr
 have QP:∀j b,¬qZ (listed.setIfInBounds i true) j->as[j]?=some (some b)->j≠i/\ρ b=none:=λj b r hb=>by
  rw[lX HJ]at r;exact⟨λe=>r (.inl e),h8 j b (λhh=>r (.inr hh)) hb⟩
 have uY:∀j,qZ (listed.setIfInBounds i true) j->j≠i->qZ listed j:=λj r gV=>by
  rcases(lX HJ).1 r with e|e
  .exact absurd e gV
  .exact e
 unfold wpOp;rw[ho];dsimp only
 suffices yW:(if Region.wanted o (yielded ops a.tmps)then Oper.wp P o a w K Q else K (a.put o.dst undef) w) by
  split
  .rename_i wY;rw[aHP wY]at yW;exact .inl yW
  .rename_i wY;rw[aHM wY]at yW;exact yW
 cases jU:oP P o with
 |some tz=>
  obtain⟨b,hb⟩:=dz.news i o NR (.inl (by rw[jU];simp));rw[uZ]at hb;cases hb;have hr:=dz.range i b uZ;have FX:=h8 i b HF uZ;have hw:ni P o=false:=by unfold ni;rw[jU]
  have hB:qP P o=false:=by unfold qP;rw[yf (by rw[jU];simp)]
  have ac:∀u∈eY,u.w=true->∃j A,ops.toList[j]?=some A/\ni P A=true/\u.i=j/\u.c=ef P ops.toList j:=by
   intro u hu ag;obtain⟨j,r,rfl⟩:=aIM hu;have Tr:=yC dz kI (aHO r);obtain⟨tj,_,f,_,B,_,_,L,J,_⟩:=nH dz kI Tr;rw[aHO r]at f;cases f;exact⟨j,_,Tr,by rw[<-L];exact ag,B,J⟩
  have QR:∃s1,ig P call ops (some b) o fr s=.ok t.v s1:=by
   rw[pG Mj];rcases VB i t t1 (by rw[t3];exact hw) acv c s h4 with⟨u,f,B,L,J⟩|⟨u,f,B,L,J⟩|⟨s2,g⟩
   .obtain⟨j,A,N,D,k3,k4⟩:=ac u f B;rw[t2,k3]at J;exact absurd (HY i j J ((h2 j A N D).2 uM)) HF
   .obtain⟨j,A,N,D,k3,k4⟩:=ac u f B;rw[t2,k3]at J;have:=(h2 j A N D).1 (RA j J);omega
   .rw[t3,ai]at g;exact⟨s2,g⟩
  obtain⟨sx,L6⟩:=QR;obtain⟨M2,m1,m2⟩:=zF M (λ_=>s.m.g b) [b]
  have m3:∀q x,ρ q=some x->M2.m.g q=M.m.g q:=λq x H=>by
   rw[m2,aHM (λe=>by have:=aJb.1 e;subst this;rw[FX]at H;cases H)]
  have RO:=h6.sK m3 m1;refine BV jU L6 (by rw[m2,aHP wb]) RO h5 FX (by rw[m1,V.nx];omega) uM λv' w' E hv hA ad I=>ae v' w' E c s M2 hv ad (yS hw) h3 h4 hA h7 (λj F r G=>?_) ⟨by rw[m1];exact V.nx,λj C F x r S G U H=>?_,λq x H so=>?_⟩
  .obtain⟨N,D⟩:=QP j F r G;rw[I F (λe=>N (dz.uniq j i F G adW))];exact D
  .have A5:j≠i:=λe=>by subst e;rw[t1]at S;cases S;rw[t3,hB]at G;cases G
   have gV:F≠b:=λe=>A5 (dz.uniq j i F U adW);rw[I F gV]at H;obtain⟨N,D⟩:=V.late j C F x (uY j r A5) S G U H;exact⟨N,λMt=>by rw[m3 F x H];exact D Mt⟩
  .by_cases e:q=b
   .subst e;rw[m2,aHP wb]
   .rw[I q e]at H;rw[m3 q x H];exact V.UF q x H so
 |none=>
  cases gO:lE P o with
  |some x=>
   have hB:qP P o=true:=by unfold qP;rw[gO]
   obtain⟨b,hb⟩:=dz.news i o NR (.inr hB);rw[uZ]at hb;cases hb;have hr:=dz.range i b uZ;have FX:=h8 i b HF uZ;have hw:=EY hB;rw[<-pG Mj]at t9;rcases wq gO t9 with⟨f,B,L⟩|⟨f,sx,B,L,J,g5⟩
   .rw[aHM (by rw[jt f h5];simp)];refine ae undef w ρ c s M (by rw[B];exact .undef) (λ_ _ h=>h) (yS hw) h3 h4 h6 h7 (λj F r G=>(QP j F r G).2) ⟨V.nx,λj C F y r S G U T=>?_,V.UF⟩
    by_cases A5:j=i
    .subst A5;rw[uZ]at U;cases U;rw[FX]at T;cases T
    .exact V.late j C F y (uY j r A5) S G U T
   .rw[aHP (jt f h5)];obtain⟨e,len,z,ps⟩:=x;obtain⟨l,l1,l2⟩:=Qx gO h5 B;have Ba:t.s1.m.g b=some (.cells sx e false):=by rw[g5];exact PT.dj _ _ _
    have XR:(c<ef P ops.toList i->s.m.g b=none)/\(¬c<ef P ops.toList i->s.m.g b=some (.cells sx e false)):=by
     constructor
     .intro qR;obtain⟨d,od,d1,d2,d3,d4⟩:=xl (P:=P) (l:=ops.toList) i (Nat.le_of_lt (by simpa using iS)) c qR;obtain⟨td,_,e1,_,e2,_,e3,e4,e5,_⟩:=nH dz kI d2;have Jb:¬qZ listed d:=λhh=>by have:=(h2 d od d2 d3).1 hh;omega
      have a1:fM ops ops.size d i=false:=by
       cases hh:fM ops ops.size d i with
       |false=>rfl
       |true=>have:=KU Y _ _ _ hh;omega
      have a2:fM ops ops.size i d=false:=by
       cases hh:fM ops ops.size i d with
       |false=>rfl
       |true=>exact absurd (RA d hh) Jb
      exact(R i t b t1 acv uZ d td e1 (by rw[e3];exact d3) a1 a2).1 d1 s (by rw[e5,d4];exact h4)
     .intro qR;obtain⟨sj,X,Z⟩:=AL dz kI t1 acv uZ
      have an:∀m s',ef P ops.toList i+m<=c->(ch++[mq])[ef P ops.toList i+m]?=some s'->s'.m.g b=some (.cells sx e false):=by
       intro m
       induction m with
       |zero=>intro s' _ uF;rw[aIv,X]at uF;cases uF;rw[Z,Ba]
       |succ m ih=>
        intro s' hm uF;have hlen:=(aHW.1 uF).1;obtain⟨s0,Xn⟩:∃s0,(ch++[mq])[ef P ops.toList i+m]?=some s0:=⟨_,aHO uM⟩;have au:ef P ops.toList i+m<ef P ops.toList ops.toList.length:=by rw[<-Bo dz kI];omega
        obtain⟨d,od,d1,d2,d3,d4⟩:=xl (P:=P) (l:=ops.toList) ops.toList.length (aHK _) _ au;obtain⟨td,_,e1,_,e2,_,e3,e4,e5,_⟩:=nH dz kI d2;have Jb:=(h2 d od d2 d3).2 uM
        have ap:i<d:=by
         rcases aKI i d with hh|hh|hh
         .exact hh
         .subst hh;exact absurd Jb HF
         .have:=oZ (P:=P) d2;rw[d3]at this;simp only[aIj]at this;have:=nh (P:=P) (l:=ops.toList) (show d+1<=i from uM);omega
        have a1:fM ops ops.size d i=false:=by
         cases hh:fM ops ops.size d i with
         |false=>rfl
         |true=>exact absurd (HY i d hh Jb) HF
        have a2:fM ops ops.size i d=false:=by
         cases hh:fM ops ops.size i d with
         |false=>rfl
         |true=>have:=KU Y _ _ _ hh;omega
        rw[(R i t b t1 acv uZ d td e1 (by rw[e3];exact d3) a1 a2).2 ap s0 s' (by rw[e5,d4];exact Xn) (by rw[e5,d4];exact uF)];exact ih s0 uM Xn
      have sD:=an (c-ef P ops.toList i) s uM (by rw[show ef P ops.toList i+(c-ef P ops.toList i)=c from uM];exact h4);exact sD
    obtain⟨M2,m1,m2⟩:=zF M (λ_=>some (.cells sx e false)) [b]
    have m3:∀q x,ρ q=some x->M2.m.g q=M.m.g q:=λq x H=>by
     rw[m2,aHM (λe=>by have:=aJb.1 e;subst this;rw[FX]at H;cases H)]
    have m4:M2.m.g b=some (.cells sx e false):=by rw[m2,aHP wb]
    have RO:=(h6.sK m3 m1).aiW m4 FX (by rw[m1,V.nx];omega) l1 uM;have I:∀q,q≠b->ρ.set b (w.heap.size,l.length) q=ρ q:=λq I=>Ren.dy _ _ _ _ I;unfold Oper.wp;rw[l2 w];refine ae (.slice (some ⟨w.heap.size,0,none⟩) len len) _ (ρ.set b (w.heap.size,l.length)) c s M2 (by rw[J];exact .slice _ _ _ _ _ _ (Ren.eI ρ b _)) (λq x H=>by rw[I q (λe=>by subst e;rw[FX]at H;cases H)];exact H) (yS hw) h3 h4 RO h7 (λj F r G=>?_) ⟨by rw[m1];exact V.nx,λj C F y r S G U T=>?_,λq y T so=>?_⟩
    .obtain⟨N,D⟩:=QP j F r G;rw[I F (λe=>N (dz.uniq j i F G adW))];exact D
    .by_cases A5:j=i
     .subst A5;rw[uZ]at U;cases U;rw[t1]at S;cases S;exact⟨L,λMt=>⟨by rw[m4,Ba],XR.1 Mt⟩⟩
     .have gV:F≠b:=λe=>A5 (dz.uniq j i F U adW);rw[I F gV]at T;obtain⟨N,D⟩:=V.late j C F y (uY j r A5) S G U T;exact⟨N,λMt=>by rw[m3 F y T];exact D Mt⟩
    .by_cases e':q=b
     .subst e';rw[m4,XR.2 (so i t uZ t1 acv)]
     .rw[I q e']at T;rw[m3 q y T];exact V.UF q y T so
  |none=>
   have hB:qP P o=false:=by unfold qP;rw[gO]
   have uV:=h6.wr.sub (V.sub h8) V.nx.symm;cases hw:ni P o with
   |true=>
    have ad:¬ef P ops.toList i<c:=λhh=>HF ((h2 i o NR hw).2 hh)
    have aq:c=ef P ops.toList i:=by
     by_cases R:c<ef P ops.toList i
     .have FW:i<=ops.toList.length:=by simp;omega
      obtain⟨j,A,f,B,L,J⟩:=xl (P:=P) (l:=ops.toList) i FW c R;have:=(h2 j A B L).1 (RA j (Y.s4 i j o A NR B f hw L));omega
     .omega
    subst aq;have aj:=am hw;rw[h4]at aj;cases aj;rw[<-pG Mj]at t9;obtain⟨_,ah⟩:=sJ jU gO t9;have qQ:=oZ (P:=P) NR;rw[hw]at qQ;simp only[aIj]at qQ;have FW:i<ops.toList.length:=by simpa using iS
    obtain⟨D,n1,n2,n3,n4,n5,n6⟩:=wO dz kI (ops.toList.length-(i+1)) (i+1) uM;rw[qQ]at n5;obtain⟨gn,gm⟩:=gap dz kI n1 n2 n3;have I6:=(kI.qY i t t1).symm;rw[I6]at gn gm
    have al:∀q j C x,qZ listed j->eY[j]?=some C->qP P C.o=true->as[j]?=some (some q)->ρ q=some x->D<j->(lP eY mq D).m.g q=none:=by
     intro q j C x X Z j3 j4 j5 j6;rcases n6 with e|⟨od,e1,e2⟩
     .have:=(aHW.1 Z).1;rw[DU dz kI]at this;omega
     .obtain⟨td,_,d1,_,d2,_,d3,d4,d5,_⟩:=nH dz kI e1;have Jb:¬qZ listed D:=λhh=>by have:=(h2 D od e1 e2).1 hh;omega
      have a1:fM ops ops.size D j=false:=by
       cases hh:fM ops ops.size D j with
       |false=>rfl
       |true=>have:=KU Y _ _ _ hh;omega
      have a2:fM ops ops.size j D=false:=by
       cases hh:fM ops ops.size j D with
       |false=>rfl
       |true=>exact absurd (HY D j hh X) Jb
      exact(R j C q Z j3 j4 D td d1 (by rw[d3];exact e2) a1 a2).1 j6 _ (by rw[d5,n4,qQ];exact n5)
    have Ko:∀{j:Nat} {C:TR},eY[j]?=some C->qP P C.o=true->ef P ops.toList i<ef P ops.toList j->i+1<=j:=by
     intro j C _ _ j3;rcases aIX i j with hh|hh
     .omega
     .have:=nh (P:=P) (l:=ops.toList) hh;omega
    have ar:∀{j:Nat} {C:TR},eY[j]?=some C->qP P C.o=true->j≠D:=by
     intro j C X Z e;subst e;rcases n6 with e|⟨od,e1,e2⟩
     .have:=(aHW.1 X).1;rw[DU dz kI]at this;omega
     .have:=yC dz kI X;rw[e1]at this;cases this;rw[EY Z]at e2;cases e2
    refine sI hc ah uV h5 λv' w' E hv hA=>?_
    have jD:∀q,nz P ops as eY listed (ef P ops.toList i) ρ q->t.s1.m.g q=none:=by
     rintro q ⟨j,C,x,X,Z,j3,j4,j5,j6⟩;have Ky:=Ko Z j3 j5;rcases aIX j D with ao|ao
     .have hg:=(gap dz kI (k:=i+1) (k':=j) Ky uM (λO o' W q2=>n3 O o' W uM)).2 q (λO af W q2 q3 q4 q5=>by have:=dz.uniq j O q j4 q5;omega);rw[I6]at hg;rw[<-hg];have:lP eY mq j=C.s:=by unfold lP;rw[Z]
      rw[this];exact(V.late j C q x X Z j3 j4 j6).1
     .rw[<-gm q λO af W q2 q3 q4 q5=>by have:=dz.uniq j O q j4 q5;omega];exact al q j C x X Z j3 j4 j6 (by have:=ar Z j3;omega)
    obtain⟨M1,b1,b2,b3⟩:=V.step h8 h6 hA jD;have Rp:∀q j,as[j]?=some (some q)->ρ q=none->E q=none:=λq j r I=>hA.ME q (by have:=dz.range j q r;omega) I
    have XT:∀q j x,as[j]?=some (some q)->E q=some x->∃y,ρ q=some y:=λq j x r H=>by
     cases I:ρ q with
     |some y=>exact⟨y,rfl⟩
     |none=>rw[Rp q j r I]at H;cases H
    obtain⟨M2,m1,m2⟩:=zF (lP eY mq D) (λq=>if nz P ops as eY listed (ef P ops.toList i+1) ρ q then M.m.g q else (lP eY mq D).m.g q) (as.filterMap id)
    have m3:∀q,M2.m.g q=if nz P ops as eY listed (ef P ops.toList i+1) ρ q then M.m.g q else (lP eY mq D).m.g q:=by
     intro q;rw[m2]
     by_cases I:q∈as.filterMap id
     .rw[aHP I]
     .rw[aHM I,aHM];rintro⟨j,t,x,_,_,_,N,_⟩;exact I (List.mem_filterMap.2 ⟨some q,aII N,rfl⟩)
    have RO:bp ρ0 BJ w0 E M2 w':=by
     refine b1.sK (λq x H=>?_) (by rw[m1,b2,gn]);rw[m3,b3]
     by_cases I:∃(j:Nat) (C:TR),as[j]?=some (some q)/\eY[j]?=some C/\qP P C.o=true
     .obtain⟨j,C,X,Z,j3⟩:=I;obtain⟨y,T⟩:=XT q j x X H;have Vr:=Classical.byContradiction λhh=>by rw[h8 j q hh X]at T;cases T
      have aa:∀(d:Nat),nz P ops as eY listed d ρ q↔d<ef P ops.toList j:=λd=>by
       constructor
       .rintro⟨O,af,y',_,_,_,W,q2,_⟩;rw[<-dz.uniq O j q W X];exact q2
       .exact λhd=>⟨j,C,y,Vr,Z,j3,X,hd,T⟩
      by_cases c1:ef P ops.toList i+1<ef P ops.toList j
      .rw[aHP ((aa _).2 c1),aHP ((aa _).2 uM)]
      .rw[aHM (λhh=>c1 ((aa _).1 hh))]
       by_cases c2:ef P ops.toList i<ef P ops.toList j
       .rw[aHP ((aa _).2 c2),((V.late j C q y Vr Z j3 X T).2 c2).1];obtain⟨sj,s1,s2⟩:=AL dz kI Z j3 X;rw[show ef P ops.toList j=ef P ops.toList i+1 from uM,n5]at s1;cases s1;exact s2
       .rw[aHM (λhh=>c2 ((aa _).1 hh)),gm q];intro O af W q2 q3 q4 q5;have:=dz.uniq j O q X q5;subst this;have:=nh (P:=P) (l:=ops.toList) W;omega
     .have no:∀(d:Nat),¬nz P ops as eY listed d ρ q:=λd=>by
       rintro⟨j,C,y,_,W,q2,q3,_⟩;exact I ⟨j,C,q3,W,q2⟩
      rw[aHM (no _),aHM (no _),gm q];exact λj C _ _ W q2 q3=>I ⟨j,C,q3,W,q2⟩
    refine ae v' w' E (ef P ops.toList i+1) (lP eY mq D) M2 hv hA.ext (λj A f B=>?_) ?_ n5 RO (by rw[gn];exact aIz h7 hA.nx) (λj F r G=>Rp F j G (QP j F r G).2) ⟨m1,λj C F x r S G U H=>?_,λq x H so=>?_⟩
    .by_cases A5:j=i
     .subst A5;simp
     .have gV:ef P ops.toList j≠ef P ops.toList i:=by
       rcases aIX j i with R|ov
       .have:=oZ (P:=P) f;rw[B]at this;simp only[aIj]at this;have h':=nh (P:=P) (l:=ops.toList) (show j+1<=i from uM);omega
       .have h':=nh (P:=P) (l:=ops.toList) (show i+1<=j from uM);omega
      rw[h2 j A f B];constructor
      .rintro(e|e)
       .exact absurd e A5
       .omega
      .intro e;right;omega
    .rw[Bo dz kI,<-qQ];exact nh uM
    .have A5:j≠i:=λe=>by subst e;rw[t1]at S;cases S;rw[t3,hB]at G;cases G
     obtain⟨y,T⟩:=XT F j x U H;have Vr:=uY j r A5;obtain⟨W,q2⟩:=V.late j C F y Vr S G U T;refine⟨W,λMt=>⟨?_,?_⟩⟩
     .rw[m3,aHP ⟨j,C,y,Vr,S,G,U,Mt,T⟩];exact(q2 uM).1
     .have Ky:=Ko S G uM;refine al F j C y Vr S G U T ?_;rcases aIX D j with hh|hh
      .exact hh
      .have:=nh (P:=P) (l:=ops.toList) hh;rw[n4,qQ]at this;omega
    .rw[m3,aHM];rintro⟨j,C,y,_,W,q2,q3,q4,_⟩;exact so j C q3 W q2 q4
   |false=>
    have ac:∀u∈eY,u.w=true->∃j A,ops.toList[j]?=some A/\ni P A=true/\u.i=j/\u.c=ef P ops.toList j:=by
     intro u hu ag;obtain⟨j,r,rfl⟩:=aIM hu;have Tr:=yC dz kI (aHO r);obtain⟨tj,_,f,_,B,_,_,L,J,_⟩:=nH dz kI Tr;rw[aHO r]at f;cases f;exact⟨j,_,Tr,by rw[<-L];exact ag,B,J⟩
    have QR:∃s1,ig P call ops ab o fr s=.ok t.v s1:=by
     rw[pG Mj];rcases VB i t t1 (by rw[t3];exact hw) acv c s h4 with⟨u,f,B,L,J⟩|⟨u,f,B,L,J⟩|⟨s2,g⟩
     .obtain⟨j,A,N,D,k3,k4⟩:=ac u f B;rw[t2,k3]at J;exact absurd (HY i j J ((h2 j A N D).2 uM)) HF
     .obtain⟨j,A,N,D,k3,k4⟩:=ac u f B;rw[t2,k3]at J;have:=(h2 j A N D).1 (RA j J);omega
     .rw[t3,ai]at g;exact⟨s2,g⟩
    obtain⟨sx,L6⟩:=QR;rw[sH hw hB L6]at L6;obtain⟨av,ah⟩:=sJ jU gO L6;refine sI hc ah uV h5 λv' w' E hv hA=>?_
    have jD:∀q,nz P ops as eY listed c ρ q->s.m.g q=none:=by
     rintro q ⟨j,C,x,X,Z,j3,j4,j5,j6⟩;exact((V.late j C q x X Z j3 j4 j6).2 j5).2
    obtain⟨M1,b1,b2,b3⟩:=V.step h8 h6 hA jD;have Rp:∀q j,as[j]?=some (some q)->ρ q=none->E q=none:=λq j r I=>hA.ME q (by have:=dz.range j q r;omega) I;refine ae v' w' E c s M1 hv hA.ext (yS hw) h3 h4 b1 h7 (λj F r G=>Rp F j G (QP j F r G).2) ⟨b2,λj C F x r S G U H=>?_,λq x H so=>?_⟩
    .have A5:j≠i:=λe=>by subst e;rw[t1]at S;cases S;rw[t3,hB]at G;cases G
     cases I:ρ F with
     |none=>rw[Rp F j U I]at H;cases H
     |some y=>
      have Vr:=uY j r A5;obtain⟨W,q2⟩:=V.late j C F y Vr S G U I;refine⟨W,λMt=>?_⟩;rw[b3,aHP ⟨j,C,y,Vr,S,G,U,Mt,I⟩];exact q2 Mt
    .rw[b3,aHM];rintro⟨j,C,y,_,W,q2,q3,q4,_⟩;exact so j C q3 W q2 q4
def Sh (o:jw P call)(b:DM P ops)(dz:vd P ops.toList BJ as kL)(kI:IQ (ops.toList.zip as) P call n ops 0 0 Bf kL eY ch Ii mq)(u:ace P call ops (ch++[mq]) eY)(k:SS P ops as (ch++[mq]) eY):∀(fuel:Nat) (listed:Array Bool) (a:Act) (w:World),
 Inv P ops as eY ch mq n ρ0 BJ kL Bf w0 listed a w->unl ops.size listed<=fuel->wpAny P .any ops (qW ρ0 BJ w0 n (.norm Ii mq)) fuel listed a w:=by
 intro fuel
 induction fuel with
 |zero=>
  intro listed a w h m
  have g:Region.ready .any ops listed=[]:=by
   rw[List.eq_nil_iff_forall_not_mem];intro i hi;obtain⟨f,d,p⟩:=(tP h.size).1 hi
   have:listed.getD i true=false:=by
    have e:listed.getD i false=listed.getD i true:=by simp[h.size,f]
    unfold qZ at d;rw[e]at d;simpa using d
   have:=Lf f h.size this;omega
  exact⟨g,h.done dz kI (Bv b h.size g)⟩
 |succ fuel l=>
  intro listed a w h m;refine⟨λg=>h.done dz kI (Bv b h.size g),λi hi=>h.step o b dz kI u k hi λr w' q=>l _ r w' q ?_⟩;obtain⟨f,d,p⟩:=(tP h.size).1 hi
  have:listed.getD i true=false:=by
   have e:listed.getD i false=listed.getD i true:=by simp[h.size,f]
   unfold qZ at d;rw[e]at d;simpa using d
  have:=Lf f h.size this;omega
open Classical in
def fF (P:Program):ze:=λcall n ops fr st=>JM P ops.toList st λas b=>match rZ P call n ops (ops.toList.zip as) 0 0 fr b with
 |some r=>if DM P ops/\ace P call ops (r.2.1++[r.2.2.2]) r.1/\SS P ops as (r.2.1++[r.2.2.2]) r.1 then .norm r.2.2.1 r.2.2.2 else .bad
 |none=>.bad
def sO (Q:P.follows .mixedOrders=true):uu P (fF P):=by
 intro call n T Z ops fr st ρ a w e D R O S;unfold fF at e⊢;obtain⟨as,F,dz,E⟩:=Lw (P:=P) ops.toList st;rw[E]at e;rw[E];have W:(ops.toList.zip as).map (·.1)=ops.toList:=List.map_fst_zip ach;cases ht:rZ P call n ops (ops.toList.zip as) 0 0 fr F with
 |none=>rw[ht]at e;exact absurd rfl e
 |some r=>
  obtain⟨eY,ch,Ii,mq⟩:=r;rw[ht]at e;dsimp only at e⊢
  split at e
  .rename_i u;rw[aHP u];obtain⟨k,u,y⟩:=u;have kI:=Gf ht (by rw[W];exact k.s3);have l:=dz.after ρ w D;refine wp_region_any Q ?_;refine Sh (w0:=w) T k dz kI u y _ _ _ _ ?_ ?_
   .have f:∀i,¬qZ (Array.replicate ops.size false) i:=λi hi=>by
     unfold qZ at hi;simp only[Array.getD_eq_getD_getElem?,Array.getElem?_replicate]at hi
     split at hi<;>cases hi
    have H:∀(j:Nat) (b:Nat),as[j]?=some (some b)->ρ b=none:=λj b e=>by
     have:=dz.range j b e;cases hh:ρ b with
     |none=>rfl
     |some x=>have:=D.fresh b x hh;omega
    obtain⟨v,N,L,K,Y,B,X⟩:=wO dz kI ops.toList.length 0 uM;obtain⟨A,G⟩:=gap dz kI N L K;have U:=kI.fst;rw[U]at A G;have V:ef P ops.toList 0=0:=rfl;rw[V]at B;have I:∀q x,ρ q=some x->(lP eY mq v).m.g q=F.m.g q:=λq x C=>G q λj t _ _ _ _ J=>by rw[H j q J]at C;cases C
    exact⟨wb,λi hi=>absurd hi (f i),λi hi=>absurd hi (f i),⟨fr,0,ρ,lP eY mq v,lP eY mq v,⟨λj o d t z=>absurd z (f j),λp _=>rfl⟩,λj o _ _=>⟨λhh=>absurd hh (f j),λhh=>absurd hh (Nat.not_lt_zero _)⟩,aJL _,B,R,(l.trans (bp.draw l.wr _)).sK I A,by rw[A];exact aHK _,λj b _ e=>H j b e,
     ⟨rfl,λj t b x z=>absurd z (f j),λq x _ _=>rfl⟩⟩,O,S⟩
   .unfold unl;exact aIz List.countP_le_length wb
  .exact absurd rfl e
end
end
