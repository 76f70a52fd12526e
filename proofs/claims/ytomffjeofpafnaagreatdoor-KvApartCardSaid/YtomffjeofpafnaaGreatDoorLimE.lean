import Derived.Test.YtomffjeofpafnaaGreatDoorLimD
import Derived.Orders
namespace Lim
open Go
noncomputable section
set_option linter.defProp false
section
variable {fr fr':Fr}{call:gq}{op:BinOp}{α:Type}{f:α->OR}{k:IntKind}{a:Int}
abbrev ahT (p q:Nat):Bool:=Nat.beq p q
def HP {p q:Nat}:ahT p q=true↔p=q:=by rw[aFw]
def xD (x:Option fc):List fc:=match x with|some x=>[x]|none=>[]
def Cf.args:Cf->List fc
 | .WE x| .nil x| .un _ x| .conv _ x| .Jc _ x| .iface _ x| .fieldAddr _ x| .field _ _ _ x| .extract x _| .len _ x| .clear _ x| .box _ x| .GF x| .An _ x=>[x]
 | .pick c a b=>[c,a,b]
 | .new _ _=>[]
 | .build _ ps=>ps.map (·.2.2)
 | .buildSlice _ _ _ ps=>ps.map (·.2.2)
 | .store _ a x| .bin _ _ _ a x| .vE _ _ a x| .AB _ a x| .vD a x| .vF _ _ _ a x| .lookup _ _ _ a x| .mapEntry _ _ a x| .append _ _ _ _ _ a x| .copy _ _ a x| .sK _ a x| .delete _ a x=>[a,x]
 | .func _ f c=>f++c
 | .mkMap r=>xD r
 | .mkSlice _ _ _ l c=>[l,c]
 | .nT x lo hi| .qJ _ x lo hi| .nV _ _ x lo hi=>x::(xD lo++xD hi)
 | .slice3 _ x lo hi mx=>x::hi::mx::xD lo
 | .mapUpdate _ m k x| .entryStore m k x=>[m,k,x]
 | .call _ args=>args
 | .Dh f args=>f::args
def tT :∀{l:List fc},(∀x∈l,ev fr x=ev fr' x)->LX fr l=LX fr' l:=by
 intro l
 induction l with
 |nil=>intro _;rfl
 |cons x l ih=>
  intro h;show ev fr x::LX fr l=ev fr' x::LX fr' l;rw[h x uG,ih λy hy=>h y (by simp[hy])]
def C0 :∀{l:List uW},(∀x∈l.map (·.2.2),ev fr x=ev fr' x)->NK fr l=NK fr' l:=by
 intro l
 induction l with
 |nil=>intro _;rfl
 |cons p l ih=>
  intro h;show(p.1,p.2.1,ev fr p.2.2)::NK fr l=(p.1,p.2.1,ev fr' p.2.2)::NK fr' l;rw[h p.2.2 uG,ih λy hy=>h y (by simp at hy⊢;exact .inr hy)]
def tQ {x:Option fc}(h:∀y∈xD x,ev fr y=ev fr' y):Sd fr x=Sd fr' x:=by
 cases x with
 |none=>rfl
 |some x=>show some (ev fr x)=some (ev fr' x);rw[h x (by simp[xD])]
def FZ {op:Cf}{st:St}(h:∀x∈op.args,ev fr x=ev fr' x):df call op fr st=df call op fr' st:=by
 cases op<;>simp only[Cf.args,aEP,aEY,aFy,aGt,forall_eq_or_imp,forall_eq]at h<;>simp only[df]
 all_goals first
  |rfl
  |rw[h]
  |rw[h.1,h.2]
  |rw[h.1,h.2.1,h.2.2]
  |rw[tT h]
  |rw[C0 h]
  |rw[tQ h]
  |rw[h.1,tT h.2]
  |rw[tT λx hx=>h x (.inl hx),tT λx hx=>h x (.inr hx)]
  |rw[h.1,tQ λx hx=>h.2 x (.inl hx),tQ λx hx=>h.2 x (.inr hx)]
  |rw[h.1,h.2.1,h.2.2.1,tQ h.2.2.2]
def Cf.still:Cf->Bool
 | .WE _| .pick .. | .GF _| .An .. | .nil _| .un .. | .Jc .. | .iface .. | .func .. | .nT .. | .qJ .. | .slice3 .. | .nV .. | .fieldAddr .. | .field .. =>true
 | .vE .. | .AB .. | .vD .. | .vF .. | .lookup .. | .extract .. | .len .. | .sK .. | .bin .. | .build .. =>true
 | .conv c _=>(match c with| .bytesOf _=>false|_=>true)
 |_=>false
structure Still (st:St)(r:OR):Prop where
 eq:∀v st',r=.ok v st'->st'=st
section
variable {st:St}
def Still.bad:Still st .bad:=⟨λ_ _ h=>by cases h⟩
def Still.ok (v:CV):Still st (.ok v st):=⟨λ_ _ h=>by cases h;rfl⟩
def Still.bH {b:Bool}{x y:OR}(hx:Still st x)(hy:Still st y):Still st (bH b x y):=by cases b;exact hy;exact hx
def Still.opt {x:Option α}{n:OR}(hn:Still st n)(h:∀v,Still st (f v)):Still st (Option.rec (motive:=λ_=>OR) n f x):=by cases x;exact hn;exact h _
def Still.oJ {n:α}(h:∀v,Still st (f v)):Still st (Lim.oJ n f):=by rw[dI];exact h _
end
def Still.Zi {st:St}{b:Int}:Still st (lP op k a b st):=by
 cases op<;>simp only[lP]<;>first|exact Still.ok _|exact Still.bad|(split<;>first|exact Still.ok _|exact Still.bad)
def Still.int {st:St}{j:IntKind}{b:Int}:Still st (jX op k a j b st):=by
 cases op<;>simp only[jX]<;>split<;>first|exact Still.ok _|exact Still.bad|exact Still.Zi
def Still.str {st:St}{a b:List UInt8}:Still st (sF op a b st):=by
 cases op<;>simp only[sF]<;>first|exact Still.ok _|exact Still.bad|(split<;>first|exact Still.ok _|exact Still.bad)
def Still.bin {st:St}{d:Option kj}{Bt:Bool}{x y:CV}:Still st (ai op d Bt x y st):=by
 unfold ai
 split<;>first
  |exact Still.int
  |exact Still.str
  |exact Still.bad
  |(unfold wm;split<;>first|exact Still.bad|exact Still.bH Still.bad (Still.ok _))
  |(split
    .unfold pEq;split<;>first|exact Still.ok _|exact Still.bad
    .exact Still.bad)
def Still.of {st:St}{r:OR}(h:∀v st',r=.ok v st'->st'=st):Still st r:=⟨h⟩
def sE {op:Cf}{st:St}(h:op.still=true):Still st (df call op fr st):=by
 cases op with
 |WE x=>exact Still.ok _
 |pick c a b=>simp only[df];unfold aX;split<;>first|exact Still.bH (Still.ok _) (Still.ok _)|exact Still.bad
 |GF x=>simp only[df];unfold aC;split<;>first|(split<;>first|exact Still.opt Still.bad (λ_=>Still.ok _)|exact Still.bad)|exact Still.bad
 |An n x=>simp only[df];unfold aI;split<;>first|(split<;>first|exact Still.opt Still.bad (λ_=>Still.ok _)|exact Still.bad)|exact Still.bad
 |nil x=>simp only[df];unfold dP;split<;>first|exact Still.ok _|exact Still.bad
 |bin op d Bt x y=>exact Still.bin
 |un op x=>simp only[df];unfold kY;split<;>first|exact Still.ok _|exact Still.bad|(split<;>first|exact Still.ok _|exact Still.bad)
 |conv c x=>simp only[df];unfold cW;split<;>first|exact Still.ok _|exact Still.bad|(cases h;done)|(split<;>first|exact Still.bad|(split<;>first|exact Still.ok _|exact Still.bad))
 |Jc n x=>simp only[df];unfold oZ;split<;>first|exact Still.bH (Still.ok _) Still.bad|exact Still.bad
 |iface t x=>exact Still.ok _
 |func fn f c=>exact Still.ok _
 |nT x lo hi=>simp only[df];unfold ix;split<;>first|exact Still.bad|(split<;>first|exact Still.ok _|exact Still.bad)
 |qJ size x lo hi=>
  simp only[df];unfold aQ;split
  .split<;>first|exact Still.ok _|exact Still.bad
  .refine Still.bH ?_ Still.bad
   split
   .exact Still.bH (Still.ok _) (Still.bH (Still.ok _) Still.bad)
   .exact Still.bad
  .exact Still.bad
 |slice3 size x lo hi mx=>
  simp only[df];unfold iU;split
  .split
   .split
    .exact Still.bH (Still.bH (Still.ok _) (Still.ok _)) Still.bad
    .exact Still.bad
   .exact Still.bad
  .split
   .split<;>first|exact Still.ok _|exact Still.bad
   .exact Still.bad
  .exact Still.bad
 |nV n size x lo hi=>simp only[df];unfold bY;split<;>first|exact Still.bad|(split<;>first|exact Still.bad|exact Still.bH (Still.ok _) (Still.ok _))
 |fieldAddr off x=>simp only[df];unfold an;split<;>first|exact Still.ok _|exact Still.bad
 |field agg off size x=>simp only[df];unfold Ai;split<;>first|exact Still.opt Still.bad (λ_=>Still.ok _)|exact Still.bad
 |vE n size x i=>simp only[df];unfold fV;split<;>first|exact Still.bH (Still.ok _) Still.bad|exact Still.bad
 |AB size x i=>simp only[df];unfold cc;split<;>first|exact Still.bH (Still.ok _) Still.bad|exact Still.bad
 |vD x i=>simp only[df];unfold ph;split<;>first|exact Still.bad|(split<;>first|exact Still.ok _|exact Still.bad)
 |vF n size agg x i=>simp only[df];unfold wj;split<;>first|exact Still.bH (Still.opt Still.bad (λ_=>Still.ok _)) Still.bad|exact Still.bad
 |lookup d z ok x k=>
  simp only[df];unfold gN;refine Still.bH ?_ Still.bad
  split
  .unfold wi;split<;>first|exact Still.bad|(split<;>exact Still.bH (Still.ok _) (Still.ok _))
  .split
   .split<;>first|exact Still.bad|exact Still.bH (Still.ok _) (Still.ok _)
   .exact Still.bad
 |extract x i=>simp only[df];unfold av;split<;>first|exact Still.opt Still.bad (λ_=>Still.ok _)|exact Still.bad
 |len k x=>simp only[df];unfold bo;split<;>first|exact Still.ok _|exact Still.bad|exact Still.bH (Still.ok _) (Still.ok _)|(split<;>first|exact Still.ok _|exact Still.bad)
 |sK mx x y=>simp only[df];unfold Cz;split<;>first|exact Still.bH (Still.ok _) Still.bad|exact Still.bad
 |build z parts=>simp only[df];unfold bk;exact Still.opt Still.bad (λ_=>Still.ok _)
 |_=>cases h
end
section
variable {o:Oper}{e:Nat}{z:List CV}{ps:List uW}{ρ0:Ren}{kK M:St}{w0:World}{s:List CV}{t:TypeId}{ops:Array Oper}
def og (P:Program)(o:Oper):Option (TypeId×List CV):=
 match o.op with
 | .alloc t=>(match P.info? t with|some i=>(match zu i with|some z=>some (t,z)|none=>none)|none=>none)
 |_=>none
def lb (P:Program)(o:Oper):Option (Nat×Nat×List CV×List uW):=
 match o.op with
 | .buildSlice t len parts=>(match P.underlying t with
   |some (.slice e)=>(match P.info? e with
    |some i=>bH (Nat.ble (Nat.mul len i.size) 16777216) (match zu i,tm (mS i.size) parts.toList with|some z,some ps=>some (e,len,z,ps)|_,_=>none) none
    |none=>none)
   |_=>none)
 |_=>none
def qj (P:Program)(o:Oper):Bool:=Option.rec (motive:=λ_=>Bool) false (λ_=>true) (lb P o)
def fG (b:Nat)(e len:Nat)(z:List CV)(parts:List uB)(st:St):OR:=
 Option.rec (motive:=λ_=>OR) (Option.rec .bad (λs=>.ok (.slice b 0 len len 0) ⟨st.m.put b (some (.cells s e false)),st.nx⟩) (gC parts z)) (λ_=>.bad) (st.m.g b)
open Classical in
def jq (b:Nat)(z:List CV)(t:TypeId)(st:St):OR:=match st.m.g b with|some (.cells s u _)=>if s=z/\u=t then .ok (.ptr b 0) st else .bad|_=>.bad
def gX (P:Program)(call:gq)(ops:Array Oper)(ab:Option Nat)(o:Oper)(fr:Fr)(st:St):OR:=
 match og P o,ab with
 |none,none=>mE P call ops o fr st
 |some tz,some b=>(match fU ops fr o with|some true=>jq b tz.2 tz.1 st|some false=>.ok .undef st|none=>.bad)
 |none,some b=>(match lb P o with
  |some x=>(match fU ops fr o with|some true=>fG b x.1 x.2.1 (cM x.2.1 x.2.2.1) (NK fr x.2.2.2) st|some false=>.ok .undef st|none=>.bad)
  |none=>.bad)
 |_,_=>.bad
def mN (P:Program)(o:Oper):Bool:=match og P o with|some _=>false|none=>(match lb P o with|some _=>false|none=>(match mj P o.op with|some op=>Bool.not op.still|none=>false))
def JH {P:Program}{len:Nat}(h:lb P o=some (e,len,z,ps)):mj P o.op=some (.buildSlice e len z ps):=by
 unfold lb at h;unfold mj
 split at h
 .rename_i t l parts ho;rw[ho];dsimp only
  split at h
  .rename_i e' hu;rw[hu];dsimp only
   split at h
   .rename_i i hi;rw[hi];dsimp only;rw[aP]at h⊢
    split at h
    .rename_i hb;rw[aEW hb]
     split at h
     .rename_i z' pF hz hp;cases h;rw[hz,hp]
     .cases h
    .cases h
   .cases h
  .cases h
 .cases h
def xF {P:Program}(h:og P o≠none):lb P o=none:=by
 unfold og at h;unfold lb
 split at h
 .rename_i t ho;rw[ho]
 .exact absurd rfl h
section
variable {P:Program} {ρ:Ren} {st st':St} {w:World} {v:CV} {fr:Fr} {a:Act} {call:gq}
def br.sy {M2:St}(h:br ρ0 kK w0 ρ M w)(hm:∀q x,ρ q=some x->M2.m.g q=M.m.g q)(hn:M2.nx=M.nx):br ρ0 kK w0 ρ M2 w where
 wr:=⟨λb blk r sz h1 h2=>h.wr.at' b blk r sz (by rw[<-hm b _ h2];exact h1) h2,λb b' k k' r s s' h1 h2 h3 h4=>h.wr.inj b b' k k' r s s' (by rw[<-hm b _ h3];exact h1) (by rw[<-hm b' _ h4];exact h2) h3 h4,λb x hx=>by rw[hn];exact h.wr.fresh b x hx⟩
 ext:=h.ext
 L0:=h.L0
 nx:=by rw[hn];exact h.nx
 origin:=λb blk r sz h1 h2=>h.origin b blk r sz (by rw[<-hm b _ h2];exact h1) h2
 kept:=h.kept
 size:=h.size
 os:=h.os
 output:=h.output
def WR.sub {s:St}(h:WR ρ M w)(hm:∀q x,ρ q=some x->s.m.g q=M.m.g q\/s.m.g q=none)(hn:s.nx=M.nx):WR ρ s w:=by
 have key:∀b blk x,s.m.g b=some blk->ρ b=some x->M.m.g b=some blk:=λb blk x h1 h2=>by
  rcases hm b x h2 with e|e
  .rw[<-e];exact h1
  .rw[e]at h1;cases h1
 exact⟨λb blk r sz h1 h2=>h.at' b blk r sz (key b blk _ h1 h2) h2,λb b' k k' r z z' h1 h2 h3 h4=>h.inj b b' k k' r z z' (key b k _ h1 h3) (key b' k' _ h2 h4) h3 h4,λb x hx=>by rw[hn];exact h.fresh b x hx⟩
def br.frame {M' s s':St}{ρ':Ren}{w':World}(h:WR ρ M w)(hn:s.nx=M.nx)(hm:∀q x,ρ q=some x->s.m.g q=M.m.g q\/s.m.g q=none)(hA:br ρ s w ρ' s' w')(hn':M'.nx=s'.nx)
 (AK:∀q x,ρ' q=some x->M'.m.g q=s'.m.g q\/((∃y,ρ q=some y)/\s.m.g q=none/\M'.m.g q=M.m.g q)):br ρ M w ρ' M' w':=by
 have low:∀q blk r sz,M.m.g q=some blk->ρ q=some (r,sz)->r<w.heap.size:=λq blk r sz h1 h2=>by
  obtain⟨o,e2,_⟩:=h.at' q blk r sz h1 h2;exact(aFB.1 e2).1
 have up:∀q blk x,s.m.g q=some blk->ρ q=some x->M.m.g q=some blk:=λq blk x h1 h2=>by
  rcases hm q x h2 with e|e
  .rw[<-e];exact h1
  .rw[e]at h1;cases h1
 have mix:∀b blk r sz,s'.m.g b=some blk->ρ' b=some (r,sz)->∀q fq Pq,s.m.g q=none->M.m.g q=some fq->ρ q=some (r,Pq)->False:=by
  intro b blk r sz h1 h2 q fq Pq h3 h4 h5;rcases hA.origin b blk r sz h1 h2 with⟨b0,blk0,DC,g1,g2⟩|g
  .have:=h.inj b0 q blk0 fq r DC Pq (up b0 blk0 _ g1 g2) h4 g2 h5;subst this;rw[h3]at g1;cases g1
  .have:=low q fq r Pq h4 h5;omega
 have hor:∀b blk r sz,M'.m.g b=some blk->ρ' b=some (r,sz)->(∃b0 blk0 DC,M.m.g b0=some blk0/\ρ b0=some (r,DC))\/w.heap.size<=r:=λb blk r sz h1 h2=>by
  rcases AK b _ h2 with e|⟨⟨y,e2⟩,e3,e4⟩
  .rcases hA.origin b blk r sz acf h2 with⟨b0,blk0,DC,g1,g2⟩|g
   .exact .inl ⟨b0,blk0,DC,up b0 blk0 _ g1 g2,g2⟩
   .exact .inr g
  .have:=hA.ext b y e2;rw[h2]at this;cases this;exact .inl ⟨b,blk,sz,acI,e2⟩
 have BW:∀r:Nat,r<w.heap.size->(∀b blk sz,M.m.g b=some blk->ρ b≠some (r,sz))->w'.heap[r]?=w.heap[r]?:=λr hr hk=>hA.kept r hr λb blk sz g1 g2=>hk b blk sz (up b blk _ g1 g2) g2;refine⟨⟨λb blk r sz h1 h2=>?_,λb b' k k' r z z' h1 h2 h3 h4=>?_,λb x hx=>by rw[hn'];exact hA.wr.fresh b x hx⟩,hA.ext,λq hq hr=>hA.L0 q (by rw[hn];exact hq) hr,by rw[hn',<-hn];exact hA.nx,λb blk r sz h1 h2=>?_,λr hr hk=>hA.kept r hr λb blk sz g1 g2=>hk b blk sz (up b blk _ g1 g2) g2,hA.size,hA.os,hA.output⟩
 .rcases AK b _ h2 with e|⟨⟨y,e2⟩,e3,e4⟩
  .exact hA.wr.at' b blk r sz acf h2
  .have:=hA.ext b y e2;rw[h2]at this;cases this;rw[e4]at h1;obtain⟨o,g1,g2⟩:=h.at' b blk r sz h1 e2;refine⟨o,?_,g2.mono hA.ext⟩;rw[hA.kept r (low b blk r sz h1 e2)]
   .exact g1
   .intro b' fq Pq g3 g4;have:=h.inj b' b fq blk r Pq sz (up b' fq _ g3 g4) h1 g4 e2;subst this;rw[e3]at g3;cases g3
 .rcases AK b _ h3 with e|⟨⟨y,e2⟩,e3,e4⟩
  .rcases AK b' _ h4 with f|⟨⟨y',f2⟩,f3,f4⟩
   .exact hA.wr.inj b b' k k' r z z' acf (by rw[<-f];exact h2) h3 h4
   .have:=hA.ext b' y' f2;rw[h4]at this;cases this;exact absurd (mix b k r z acf h3 b' k' z' f3 (by rw[<-f4];exact h2) f2) id
  .have:=hA.ext b y e2;rw[h3]at this;cases this;rcases AK b' _ h4 with f|⟨⟨y',f2⟩,f3,f4⟩
   .exact absurd (mix b' k' r z' (by rw[<-f];exact h2) h4 b k z e3 acI e2) id
   .have:=hA.ext b' y' f2;rw[h4]at this;cases this;exact h.inj b b' k k' r z z' acI (by rw[<-f4];exact h2) e2 f2
 .rcases AK b _ h2 with e|⟨⟨y,e2⟩,e3,e4⟩
  .rcases hA.origin b blk r sz acf h2 with⟨b0,blk0,DC,g1,g2⟩|g
   .exact .inl ⟨b0,blk0,DC,up b0 blk0 _ g1 g2,g2⟩
   .exact .inr g
  .have:=hA.ext b y e2;rw[h2]at this;cases this;exact .inl ⟨b,blk,sz,acI,e2⟩
def br.ahR {b:Nat}{g:Bool}{l:List Value}(hA:br ρ0 kK w0 ρ M w)(hm:M.m.g b=some (.cells s t g))(hb:ρ b=none)(hlt:b<M.nx)(hl:eK ρ s l)(hN:kK.nx<=b):
 br ρ0 kK w0 (ρ.set b (w.heap.size,l.length)) M {w with heap:=w.heap.push (.cells l.toArray t)}:=by
 have hw:=hA.wr
 have hle:ρ.le (ρ.set b (w.heap.size,l.length)):=λq x hx=>by
  rw[Ren.dA _ _ _ _ (λe=>by subst e;rw[hb]at hx;cases hx)];exact hx
 have afD:∀q blk r s,M.m.g q=some blk->ρ q=some (r,s)->r<w.heap.size:=λq blk r s h1 h2=>by
  obtain⟨o,e2,_⟩:=hw.at' q blk r s h1 h2;exact(aFB.1 e2).1
 have wL:WR (ρ.set b (w.heap.size,l.length)) M {w with heap:=w.heap.push (.cells l.toArray t)}:=by
  refine⟨λq blk r sz h1 h2=>?_,λq q' blk fq r sz Pq h1 h2 h3 h4=>?_,λq x hx=>?_⟩
  .by_cases e:q=b
   .subst e;rw[Ren.eN]at h2;cases h2;rw[hm]at h1;cases h1;have hlen:s.length=l.length:=by rw[hl.len]
    refine⟨.cells l.toArray t,uG,?_⟩;have TF:=BR.cells (ρ:=ρ.set q (w.heap.size,l.length)) s t g l.toArray 0 0 (by simp[hlen]) (by rw[hlen];simpa using hl.mono hle) qE (by intros;omega)
    simpa using TF
   .rw[Ren.dA _ _ _ _ e]at h2;obtain⟨o,e2,e3⟩:=hw.at' q blk r sz h1 h2;refine⟨o,?_,e3.mono hle⟩;have:=(aFB.1 e2).1;show(w.heap.push _)[r]?=_;rw[aHm,aET qE];exact e2
  .by_cases e:q=b
   .by_cases e':q'=b
    .rw[e,e']
    .rw[e,Ren.eN]at h3;cases h3;rw[Ren.dA _ _ _ _ e']at h4;have:=afD q' fq _ _ h2 h4;omega
   .by_cases e':q'=b
    .rw[e',Ren.eN]at h4;cases h4;rw[Ren.dA _ _ _ _ e]at h3;have:=afD q blk _ _ h1 h3;omega
    .rw[Ren.dA _ _ _ _ e]at h3;rw[Ren.dA _ _ _ _ e']at h4;exact hw.inj q q' blk fq r sz Pq h1 h2 h3 h4
  .by_cases e:q=b
   .subst e;exact hlt
   .rw[Ren.dA _ _ _ _ e]at hx;exact hw.fresh q x hx
 refine⟨wL,λq x hx=>hle q x (hA.ext q x hx),λq hq hn=>?_,hA.nx,λq blk r sz h1 h2=>?_,λr hr hn=>?_,?_,hA.os,hA.output⟩
 .rw[Ren.dA _ _ _ _ (λe=>by subst e;omega)];exact hA.L0 q hq hn
 .by_cases e:q=b
  .subst e;rw[Ren.eN]at h2;cases h2;exact .inr hA.size
  .rw[Ren.dA _ _ _ _ e]at h2;exact hA.origin q blk r sz h1 h2
 .show(w.heap.push _)[r]?=_;have:=hA.size;rw[aHm,aET qE];exact hA.kept r hr hn
 .show w0.heap.size<=(w.heap.push _).size;have:=hA.size;rw[Array.size_push];omega
def M3 (h:og P o=some (t,z)):∃l:List Value,(∀ρ,eK ρ z l)/\
 ∀(f:Operand->Value) (w:World),(execOp f o).run P w=.ok (.value (.pointer (some ⟨w.heap.size,0,none⟩))) {w with heap:=w.heap.push (.cells l.toArray t)}:=by
 unfold og at h
 split at h
 .rename_i t' ho
  split at h
  .rename_i i hi
   split at h
   .rename_i z' hz;cases h;obtain⟨zv,z1,z2,z3⟩:=jV hz;refine⟨zv.cells.toList,z3,λf w=>?_⟩;unfold execOp;rw[ho];simp[Instr.alloc,zeroValue,typeInfo,hi,z1,newVar]
    rfl
   .cases h
  .cases h
 .cases h
def NJ {i:TypeInfo}{len:Nat}{z':Value}{parts:List uB}{parts':Array (Nat×Value)}(hf:gC parts (cM len z)=some s)(hsz:z'.cells.size=i.size)(xp:∀ρ,eK ρ z z'.cells.toList)(hp:ry ρ (mS i.size) parts parts'.toList):
 ∃kQ,Instr.fill (mS i.size) ((Array.range (len*i.size)).map (z'.cells[·%z'.cells.size]!)) parts'.toList=some kQ/\eK ρ s kQ.toList:=by
 have gG:(List.replicate len z'.cells.toList).flatten=((Array.range (len*i.size)).map (z'.cells[·%z'.cells.size]!)).toList:=by
  rw[<-hsz,aGw,aHq];exact(pT z'.cells len).symm
 have hvz:eK ρ (cM len z) ((Array.range (len*i.size)).map (z'.cells[·%z'.cells.size]!)).toList:=by
  rw[<-gG];exact(xp ρ).flatten len
 exact rm hp hf hvz
def Qy {len:Nat}(h:lb P o=some (e,len,z,ps))(hf:FR ρ fr a.tmps)(hs:gC (NK fr ps) (cM len z)=some s):
 ∃l:List Value,eK ρ s l/\∀w,(execOp a.eval o).run P w=.ok (.value (.slice (some ⟨w.heap.size,0,none⟩) len len)) {w with heap:=w.heap.push (.cells l.toArray e)}:=by
 unfold lb at h
 split at h
 .rename_i t l parts ho
  split at h
  .rename_i e' hu
   split at h
   .rename_i i hi;simp only[aP,aFs]at h
    split at h
    .rename_i hle
     split at h
     .rename_i z' pF hz hp;cases h;obtain⟨zv,z1,z2,z3⟩:=jV hz;have Xj:=nH hp hf;obtain⟨kQ,f1,f2⟩:=NJ (parts':=parts.map λp=>(p.1,a.eval p.2)) hs z2 z3 acW;refine⟨kQ.toList,f2,λw=>?_⟩;have hn:¬(len*i.size>2^24):=by have Z4:len*i.size<=16777216:=hle;show¬(len*i.size>16777216);omega
      have h1:∀c:Array Value,(newRow e c).run P w=.ok ⟨w.heap.size,0,none⟩ {w with heap:=w.heap.push (.cells c e)}:=λc=>rfl
      have he:execOp a.eval o=(do let v<-Instr.buildSlice t len (parts.map λp=>(p.1,a.eval p.2));pure (.value v)):=by
       unfold execOp;rw[ho]
      have JR:(λk=>some (k*i.size,i.size))=mS i.size:=rfl;rw[he,aGs];simp only[Instr.buildSlice,Sem.run_bind,aEZ hu,Result.andThen_ok,Go.sizeOf,typeInfo,run_program,hi,Sem.run_pure,aET hn]
      by_cases h0:len*i.size=0
      .have hz0:((Array.range (len*i.size)).map (zv.cells[·%zv.cells.size]!))=((Array.range (len*i.size)).map ((#[]:Array Value)[·%(#[]:Array Value).size]!)):=by
        rw[h0,Array.range_zero'];simp
       rw[hz0]at f1;rw[aEW h0]
       show Result.andThen (Sem.run P (do
        let some cells:=Instr.fill (mS i.size) ((Array.range (len*i.size)).map ((#[]:Array Value)[·%(#[]:Array Value).size]!)) (parts.map λp=>(p.1,a.eval p.2)).toList|stuck "buildSlice: a part of the wrong size"
        pure (Value.slice (some (<-newRow e cells)) len len)) w) _=_
       rw[f1];simp only[Sem.run_bind,h1,Result.andThen_ok,Sem.run_pure]
      .rw[aET h0];simp only[zeroValue,typeInfo,Sem.run_bind,run_program,Result.andThen_ok,hi,z1,Sem.run_pure];rw[JR,f1];simp only[Sem.run_bind,h1,Result.andThen_ok,Sem.run_pure]
     .cases h
    .cases h
   .cases h
  .cases h
 .cases h
def By {b:Nat}{tz:TypeId×List CV}(hnf:og P o=some tz)(h:gX P call ops (some b) o fr st=.ok v st')(hm:M.m.g b=st.m.g b)(hA:br ρ0 kK w0 ρ M w)(hf:FR ρ fr a.tmps)(hb:ρ b=none)(hlt:b<M.nx)(hN:kK.nx<=b)
 {next:Act->World->Prop} {Q:Exit->Act->World->Prop} (hn:∀v' w' ρ',VR ρ' v v'->br ρ0 kK w0 ρ' M w'->ρ.le ρ'->(∀q,q≠b->ρ' q=ρ q)->next (a.put o.dst v') w'):
 if Region.wanted o (yielded ops a.tmps)then o.wp P a w next Q else next (a.put o.dst undef) w:=by
 obtain⟨t,z⟩:=tz;unfold gX at h;rw[hnf]at h;dsimp only at h
 split at h
 .rename_i hwt;rw[aEW (jk hwt hf)];unfold jq at h
  split at h
  .rename_i s u g uQ
   split at h
   .rename_i hh;obtain⟨rfl,rfl⟩:=hh;cases h;obtain⟨l,hl,jZ⟩:=M3 hnf;unfold Oper.wp;rw[jZ];exact hn _ _ _ (.ptr b 0 _ _ (Ren.eN ρ b _)) (hA.ahR (by rw[hm];exact uQ) hb hlt (hl ρ) hN) (λq x hx=>by rw[Ren.dA _ _ _ _ (λe=>by subst e;rw[hb]at hx;cases hx)];exact hx) (λq hq=>Ren.dA _ _ _ _ hq)
   .cases h
  .cases h
 .rename_i hwt;rw[aET (by rw[jk hwt hf];simp)];cases h;exact hn _ w ρ .undef hA (λ_ _ h=>h) λ_ _=>rfl
 .cases h
def vZ {b:Nat}{x:Nat×Nat×List CV×List uW}(hl:lb P o=some x)(h:gX P call ops (some b) o fr st=.ok v st'):
 (fU ops fr o=some false/\v=.undef/\st'=st)\/
 (fU ops fr o=some true/\∃s,gC (NK fr x.2.2.2) (cM x.2.1 x.2.2.1)=some s/\st.m.g b=none/\v=.slice b 0 x.2.1 x.2.1 0/\st'=⟨st.m.put b (some (.cells s x.1 false)),st.nx⟩):=by
 have hn:og P o=none:=by
  cases hh:og P o with
  |none=>rfl
  |some tz=>have:=xF (P:=P) (o:=o) (by rw[hh];simp);rw[hl]at this;cases this
 unfold gX at h;rw[hn,hl]at h;dsimp only at h
 split at h
 .rename_i hwt;unfold fG at h;cases hg:st.m.g b with
  |some _=>rw[hg]at h;cases h
  |none=>
   rw[hg]at h;cases hf:gC (NK fr x.2.2.2) (cM x.2.1 x.2.2.1)with
   |none=>rw[hf]at h;cases h
   |some s=>
    rw[hf]at h;dsimp only at h;cases h;exact .inr ⟨hwt,s,rfl,rfl,rfl,rfl⟩
 .rename_i hwt;cases h;exact .inl ⟨hwt,rfl,rfl⟩
 .cases h
def sv {ab:Option Nat}(hn:og P o=none)(hl:lb P o=none)(h:gX P call ops ab o fr st=.ok v st'):ab=none/\mE P call ops o fr st=.ok v st':=by
 unfold gX at h;rw[hn]at h;cases ab with
 |none=>exact⟨rfl,h⟩
 |some b=>dsimp only at h;rw[hl]at h;cases h
def Bv {fr':Fr}(h:∀g b d,o.guard=some (g,b)->(ops[g]?).bind (·.dst)=some d->fK fr (d)=fK fr' (d)):fU ops fr o=fU ops fr' o:=by
 unfold fU;cases hg:o.guard with
 |none=>rfl
 |some gb=>
  obtain⟨g,b⟩:=gb;dsimp only;cases hd:(ops[g]?).bind (·.dst)with
  |none=>rfl
  |some d=>dsimp only;rw[h g b d hg hd]
end
def Jo {β:Type}(P:Program)(l:List Oper):St->(List (Option Nat)->St->β)->β:=
 List.rec (motive:=λ_=>St->(List (Option Nat)->St->β)->β) (λst k=>k [] st)
  (λo _ ih st k=>Option.rec (Bool.rec (motive:=λ_=>β) (ih st λas st=>k (none::as) st) (oJ (st.nx+1) λnx=>ih ⟨st.m,nx⟩ λas vf=>k (some st.nx::as) vf) (qj P o))
   (λtz=>oJ (st.nx+1) λnx=>oJ ⟨st.m.put st.nx (some (.cells tz.2 tz.1 false)),nx⟩ λgD=>ih gD λas vf=>k (some st.nx::as) vf) (og P o)) l
structure uV (P:Program)(l:List Oper)(st:St)(as:List (Option Nat))(gD:St):Prop where
 len:as.length=l.length
 nx:st.nx<=gD.nx
 range:∀(i:Nat) (b:Nat),as[i]?=some (some b)->st.nx<=b/\b<gD.nx
 uniq:∀(i j:Nat) (b:Nat),as[i]?=some (some b)->as[j]?=some (some b)->i=j
 after:∀ρ w,WR ρ st w->br ρ st w ρ gD w
 olds:∀(i:Nat) (o:Oper),l[i]?=some o->og P o=none->qj P o=false->as[i]?=some none
 news:∀(i:Nat) (o:Oper),l[i]?=some o->og P o≠none\/qj P o=true->∃b,as[i]?=some (some b)
def br.adQ {ρ:Ren}{st:St}{w:World}(h:WR ρ st w)(blk:qB):br ρ st w ρ (st.new blk) w:=by
 have hn:ρ st.nx=none:=by
  cases hh:ρ st.nx with
  |none=>rfl
  |some x=>have:=h.fresh _ x hh;omega
 have iL:∀b fq x,(st.new blk).m.g b=some fq->ρ b=some x->st.m.g b=some fq:=λb fq x h1 h2=>by
  have hb:b≠st.nx:=λe=>by rw[e,hn]at h2;cases h2
  simpa[St.new,PT.dv _ _ _ _ hb]using h1
 refine⟨⟨λb fq r sz h1 h2=>h.at' b fq r sz (iL b fq _ h1 h2) h2,λb b' k k' r s s' h1 h2 h3 h4=>h.inj b b' k k' r s s' (iL b k _ h1 h3) (iL b' k' _ h2 h4) h3 h4,λb x hx=>?_⟩,λ_ _ h=>h,λ_ _ h=>h,?_,
  λb fq r sz h1 h2=>.inl ⟨b,fq,sz,iL b fq _ h1 h2,h2⟩,λ_ _ _=>rfl,aEQ _,rfl,rfl⟩
 .show b<(st.nx+1);have:=h.fresh b x hx;omega
 .show st.nx<=(st.nx+1);omega
def br.skip {ρ:Ren}{st:St}{w:World}(h:WR ρ st w):br ρ st w ρ ⟨st.m,(st.nx+1)⟩ w:=
 ⟨⟨h.at',h.inj,λb x hx=>by show b<(st.nx+1);have:=h.fresh b x hx;omega⟩,λ_ _ h=>h,λ_ _ h=>h,by show st.nx<=(st.nx+1);omega,
   λb fq r sz h1 h2=>.inl ⟨b,fq,sz,h1,h2⟩,λ_ _ _=>rfl,aEQ _,rfl,rfl⟩
def uV.cons {P:Program}{l:List Oper}{st vf:St}{as:List (Option Nat)}(hg:og P o≠none\/qj P o=true){mem:PT qB}(h1:uV P l ⟨mem,(st.nx+1)⟩ as vf)(ha:∀ρ w,WR ρ st w->br ρ st w ρ ⟨mem,(st.nx+1)⟩ w):uV P (o::l) st (some st.nx::as) vf:=by
 have BT:((st.nx+1))=st.nx+1:=rfl
 have hr:∀(i:Nat) (b:Nat),as[i]?=some (some b)->st.nx+1<=b/\b<vf.nx:=λi b h=>by
  have:=h1.range i b h;have e:(St.mk mem (st.nx+1)).nx=st.nx+1:=BT;omega
 have hx:st.nx+1<=vf.nx:=by have:=h1.nx;have e:(St.mk mem (st.nx+1)).nx=st.nx+1:=BT;omega
 refine⟨by simp[h1.len],qE,λi b h=>?_,λi j b h h'=>?_,λρ w hw=>(ha ρ w hw).trans (h1.after ρ w (ha ρ w hw).wr),λi o' h hh hb=>?_,λi o' h hh=>?_⟩
 .cases i with
  |zero=>simp at h;subst h;omega
  |succ i=>have:=hr i b OY;omega
 .cases i with
  |zero=>
   cases j with
   |zero=>rfl
   |succ j=>simp at h;subst h;have:=hr j _ (by simpa using h');omega
  |succ i=>cases j with
   |zero=>simp at h';subst h';have:=hr i _ OY;omega
   |succ j=>rw[h1.uniq i j b OY (by simpa using h')]
 .cases i with
  |zero=>simp at h;subst h;rcases hg with hg|hg;exact absurd hh hg;rw[hb]at hg;cases hg
  |succ i=>exact h1.olds i o' OY hh hb
 .cases i with
  |zero=>exact⟨_,rfl⟩
  |succ i=>exact h1.news i o' OY hh
def KM {P:Program}:∀(l:List Oper) (st:St),∃as gD,uV P l st as gD/\∀(β:Type) (k:List (Option Nat)->St->β),Jo P l st k=k as gD:=by
 intro l
 induction l with
 |nil=>intro st;exact⟨[],st,⟨rfl,aEQ _,λi b h=>Pa,λi j b h=>Pa,λρ w h=>br.refl h,λi o h=>Pa,λi o h=>Pa⟩,λβ k=>rfl⟩
 |cons o l ih=>
  intro st
  have e:∀(β:Type) (k:List (Option Nat)->St->β),Jo P (o::l) st k=Option.rec (Bool.rec (motive:=λ_=>β) (Jo P l st λas st=>k (none::as) st) (oJ (st.nx+1) λnx=>Jo P l ⟨st.m,nx⟩ λas vf=>k (some st.nx::as) vf) (qj P o))
   (λtz=>oJ (st.nx+1) λnx=>oJ ⟨st.m.put st.nx (some (.cells tz.2 tz.1 false)),nx⟩ λgD=>Jo P l gD λas vf=>k (some st.nx::as) vf) (og P o):=λβ k=>rfl
  cases hn:og P o with
  |none=>
   cases hb:qj P o with
   |false=>
    obtain⟨as,gD,h1,h2⟩:=ih st;refine⟨none::as,gD,⟨by simp[h1.len],h1.nx,λi b h=>?_,λi j b h h'=>?_,h1.after,λi o h hh XM=>by cases i with|zero=>rfl|succ i=>exact h1.olds i o OY hh XM,λi o h hh=>by cases i with|zero=>(simp at h;subst h;rcases hh with hh|hh;exact absurd hn hh;rw[hb]at hh;cases hh)|succ i=>exact h1.news i o OY hh⟩,λβ k=>by rw[e,hn,hb];exact h2 _ _⟩
    .cases i with
     |zero=>simp at h
     |succ i=>exact h1.range i b OY
    .cases i with
     |zero=>simp at h
     |succ i=>cases j with
      |zero=>simp at h'
      |succ j=>rw[h1.uniq i j b OY (by simpa using h')]
   |true=>
    obtain⟨as,vf,h1,h2⟩:=ih ⟨st.m,(st.nx+1)⟩;exact⟨some st.nx::as,vf,h1.cons (.inr hb) λρ w hw=>br.skip hw,λβ k=>by rw[e,hn,hb];show oJ (st.nx+1) _=_;rw[dI];exact h2 _ _⟩
  |some tz=>
   obtain⟨as,vf,h1,h2⟩:=ih (st.new (.cells tz.2 tz.1 false))
   exact⟨some st.nx::as,vf,uV.cons (mem:=st.m.put st.nx (some (.cells tz.2 tz.1 false))) (.inl (by rw[hn];simp)) h1 λρ w hw=>br.adQ hw (.cells tz.2 tz.1 false),λβ k=>by
    rw[e,hn];show oJ (st.nx+1) _=_;rw[dI];rw[dI];exact h2 _ _⟩
end
section
variable {α:Type}{l:List Oper}{p:α->Bool}{o:Oper}{fr fr':Fr}{st:St}{ab:Option Nat}{v:CV}{k:Nat}
def E5 {α:Type}(l:List α)(p:α->Bool):Bool:=List.rec false (λx _ r=>Bool.or (p x) r) l
def Cd {α:Type}(l:List α)(p:α->Bool):Bool:=List.rec true (λx _ r=>Bool.and (p x) r) l
def Ba {l:List α}:E5 l p=true↔∃x∈l,p x=true:=by
 induction l with
 |nil=>simp[E5]
 |cons x l ih=>
  have e:E5 (x::l) p=Bool.or (p x) (E5 l p):=rfl;rw[e];simp only[aFO,ih,aEP,exists_eq_or_imp]
def oD {l:List α}:Cd l p=true↔∀x∈l,p x=true:=by
 induction l with
 |nil=>simp[Cd]
 |cons x l ih=>
  have e:Cd (x::l) p=Bool.and (p x) (Cd l p):=rfl;rw[e];simp only[aFl,ih,aEP,forall_eq_or_imp]
def Nf {α:Type}(l:List α):Nat->List (Nat×α):=List.rec (motive:=λ_=>Nat->List (Nat×α)) (λ_=>[]) (λx _ ih i=>(i,x)::ih (Nat.succ i)) l
def wK :∀{l:List α} {i:Nat} {k:Nat} {x:α},l[k]?=some x->(i+k,x)∈Nf l i:=by
 intro l
 induction l with
 |nil=>intro i k x h;simp at h
 |cons y l ih=>
  intro i k x h;have e:Nf (y::l) i=(i,y)::Nf l (i+1):=rfl;rw[e];cases k with
  |zero=>simp at h;subst h;simp
  |succ k=>
   simp at h;have:=ih (i:=i+1) h;rw[show i+(k+1)=i+1+k from qE];exact aFE _ this
def re (P:Program)(ops:Array Oper)(o:Oper):List fc:=
 (match mj P o.op with|some op=>op.args|none=>[])++
 (match o.guard with|some (g,_)=>(match (ops[g]?).bind (·.dst)with|some d=>[fc.tmp (d)]|none=>[])|none=>[])
def fT (ops:Array Oper)(f:Nat):Nat->Nat->Bool:=
 Nat.rec (motive:=λ_=>Nat->Nat->Bool) (λ_ _=>false) (λ_ ih i j=>match ops[i]? with
  |none=>false
  |some o=>E5 o.after.toList λe=>Bool.and (Region.binds .any e) (oJ e.on λk=>Bool.or (Nat.beq k j) (ih k j))) f
section
variable {P:Program} {call:gq} {ops:Array Oper}
def FJ (h:∀x∈re P ops o,ev fr x=ev fr' x):mE P call ops o fr st=mE P call ops o fr' st:=by
 have hw:fU ops fr o=fU ops fr' o:=by
  unfold fU;unfold re at h;cases hg:o.guard with
  |none=>rfl
  |some gb=>
   obtain⟨g,b⟩:=gb;dsimp only;rw[hg]at h;dsimp only at h;cases hd:(ops[g]?).bind (·.dst)with
   |none=>rfl
   |some d=>
    rw[hd]at h;have h1:fK fr (d)=fK fr' (d):=h (.tmp (d)) uG;dsimp only;rw[h1]
 unfold mE;rw[hw]
 split
 .cases ho:mj P o.op with
  |none=>rfl
  |some op=>
   dsimp only;refine FZ λx hx=>h x ?_;unfold re;rw[ho];simp[hx]
 .rfl
 .rfl
def oU (h:∀x∈re P ops o,ev fr x=ev fr' x):gX P call ops ab o fr st=gX P call ops ab o fr' st:=by
 have hw:=Bv λg b d hg hd=>
  h (.tmp (d)) (by unfold re;rw[hg];dsimp only;rw[hd];simp)
 unfold gX;rw[FJ h,hw];cases og P o with
 |some tz=>cases ab<;>rfl
 |none=>
  cases ab with
  |none=>rfl
  |some b=>
   dsimp only;cases hl:lb P o with
   |none=>rfl
   |some x=>
    obtain⟨e,len,z,ps⟩:=x;dsimp only;have hc:=JH hl;rw[C0 (fr:=fr) (fr':=fr')];intro y hy;refine h y ?_;unfold re;rw[hc];exact aGO _ hy
def QI (h:qj P o=false):lb P o=none:=by
 unfold qj at h;cases hl:lb P o with
 |none=>rfl
 |some x=>rw[hl]at h;cases h
def Ax (h:qj P o=true):∃x,lb P o=some x:=by
 unfold qj at h;cases hl:lb P o with
 |none=>rw[hl]at h;cases h
 |some x=>exact⟨x,rfl⟩
def U2 (h:qj P o=true):og P o=none:=by
 obtain⟨x,hx⟩:=Ax h;cases hn:og P o with
 |none=>rfl
 |some tz=>have:=xF (P:=P) (o:=o) (by rw[hn];simp);rw[hx]at this;cases this
def Eu (h:qj P o=true):mN P o=false:=by
 obtain⟨x,hx⟩:=Ax h;unfold mN;rw[U2 h,hx]
def sq {st':St}(hw:mN P o=false)(hb:qj P o=false)(h:gX P call ops ab o fr st=.ok v st'):st'=st:=by
 have hl:=QI hb;unfold gX at h;unfold mN at hw;rw[hl]at hw h
 split at h
 .rename_i hn;rw[hn]at hw;dsimp only at hw;unfold mE at h
  split at h
  .split at h
   .rename_i op EC;rw[EC]at hw;exact(sE (by simpa using hw)).eq _ _ h
   .cases h
  .cases h;rfl
  .cases h
 .split at h
  .unfold jq at h
   split at h
   .split at h
    .cases h;rfl
    .cases h
   .cases h
  .cases h;rfl
  .cases h
 .cases h
 .cases h
def qA (listed:Array Bool)(i:Nat):Prop:=listed.getD i false=true
def Wn (ops:Array Oper)(listed:Array Bool)(i:Nat):Prop:=∀o,ops[i]?=some o->∀e∈o.after,Region.binds .any e=true->qA listed e.on
def Bb {listed:Array Bool}(oO:∀i,qA listed i->Wn ops listed i):∀(f i j:Nat),fT ops f i j=true->Wn ops listed i->qA listed j:=by
 intro f
 induction f with
 |zero=>intro i j h;cases h
 |succ f ih=>
  intro i j h hd
  have e:fT ops (f+1) i j=(match ops[i]? with
   |none=>false
   |some o=>E5 o.after.toList λe=>Bool.and (Region.binds .any e) (oJ e.on λk=>Bool.or (Nat.beq k j) (fT ops f k j))):=rfl
  rw[e]at h
  split at h
  .cases h
  .rename_i o ho;rw[Ba]at h;obtain⟨x,hx,h⟩:=h;simp only[dI,aFl,aFO,aFw]at h;have hl:=hd o ho x O5 h.1;rcases h.2 with h2|h2
   .rw[<-h2];exact hl
   .exact ih _ _ h2 (oO _ hl)
end
structure TR where
 i:Nat
 ab:Option Nat
 o:Oper
 w:Bool
 c:Nat
 fr:Fr
 v:CV
 s:St
 s1:St
def Ge (n:Nat)(dst:Option Tmp)(v:CV)(fr:Fr):Option Fr:=
 match dst with
 |none=>some fr
 |some d=>bH (Nat.ble (Nat.succ d) n) (oJ (fr.put (d) (some v)) some) none
def Cu {n:Nat}{dst:Option Tmp}(h:Ge n dst v fr=some fr'):(dst=none/\fr'=fr)\/∃d,dst=some d/\d<n/\fr'=fr.put (d) (some v):=by
 unfold Ge at h
 split at h
 .cases h;exact .inl ⟨rfl,rfl⟩
 .rename_i d;simp only[aP,aFs,aHv,dI]at h
  split at h
  .rename_i hd;cases h;exact .inr ⟨d,rfl,hd,rfl⟩
  .cases h
abbrev abt:=List TR×List St×Fr×St
def rE (P:Program)(call:gq)(n:Nat)(ops:Array Oper)(l:List (Oper×Option Nat)):Nat->Nat->Fr->St->Option abt:=
 List.rec (motive:=λ_=>Nat->Nat->Fr->St->Option abt) (λ_ _ fr st=>some ([],[],fr,st)) (λo _ ih i c fr st=>
  OR.rec (λv st'=>oJ v λv=>oJ st' λst'=>
   Option.rec none (λfr'=>bH (mN P o.1)
    (Option.rec none (λr=>some (⟨i,o.2,o.1,true,c,fr,v,st,st'⟩::r.1,st::r.2.1,r.2.2)) (ih (Nat.succ i) (Nat.succ c) fr' st'))
    (Option.rec none (λr=>some (⟨i,o.2,o.1,false,c,fr,v,st,st'⟩::r.1,r.2.1,r.2.2)) (ih (Nat.succ i) c fr' st'))) (Ge n o.1.dst v fr)) none (gX P call ops o.2 o.1 fr st)) l
def ln (fe:List TR)(lX:St)(k:Nat):St:=match fe[k]? with|some t=>t.s|none=>lX
def FrP (l:List Oper)(fe:List TR)(L:Nat->Prop)(AU f:Fr):Prop:=
 (∀j o d t,L j->l[j]?=some o->o.dst=some d->fe[j]?=some t->fK f (d)=t.v)/\
 (∀p,(∀j o d,L j->l[j]?=some o->o.dst=some d->d≠p)->fK f p=fK AU p)
def Ml (l:List Oper):Prop:=∀(j k:Nat) (a b:Oper) (d:Tmp),j<k->l[j]?=some a->l[k]?=some b->a.dst=some d->b.dst≠some d
def jC (P:Program)(l:List Oper)(k:Nat):Nat:=(l.take k).countP (mN P)
section
variable {P:Program} {call:gq} {n:Nat} {ops:Array Oper}
def ow (h:l[k]?=some o):jC P l (k+1)=jC P l k+(if mN P o then 1 else 0):=by
 unfold jC;rw[List.take_add_one,h];simp[List.countP_append,List.countP_cons]
def wY :jC P (o::l) (k+1)=(if mN P o then 1 else 0)+jC P l k:=by
 unfold jC;rw[List.take_succ_cons,List.countP_cons];omega
def mM {j:Nat}(h:j<=k):jC P l j<=jC P l k:=by
 unfold jC;have:l.take j=(l.take k).take j:=by rw[aGf,aFG h]
 rw[this];exact(List.take_sublist _ _).countP_le
def wX :∀(k:Nat),k<=l.length->∀c,c<jC P l k->∃j o,j<k/\l[j]?=some o/\mN P o=true/\jC P l j=c:=by
 intro k
 induction k with
 |zero=>intro _ c h;simp[jC]at h
 |succ k ih=>
  intro hk c h;have AL:l[k]?=some l[k]:=uG
  rw[ow AL]at h
  by_cases hc:c<jC P l k
  .obtain⟨j,o,h1,h2,h3,h4⟩:=ih qE c hc;exact⟨j,o,qE,h2,h3,h4⟩
  .have hw:mN P l[k]=true:=by
    cases hh:mN P l[k]with
    |true=>rfl
    |false=>rw[hh]at h;simp at h;omega
   rw[hw]at h;simp only[aFm]at h;exact⟨k,_,qE,AL,hw,qE⟩
structure H0 (L:List (Oper×Option Nat))(P:Program)(call:gq)(n:Nat)(ops:Array Oper)(i c:Nat)(fr:Fr)(st:St)(fe:List TR)(ch:List St)(Hv:Fr)(lX:St):Prop where
 len:fe.length=L.length
 at':∀k o ab,L[k]?=some (o,ab)->∃t,fe[k]?=some t/\t.i=i+k/\t.ab=ab/\t.o=o/\t.w=mN P o/\t.c=c+jC P (L.map (·.1)) k/\(∀d,o.dst=some d->d<n)/\FrP (L.map (·.1)) fe (·<k) fr t.fr/\
  gX P call ops ab o t.fr t.s=.ok t.v t.s1/\(mN P o=true->ch[jC P (L.map (·.1)) k]?=some t.s)
 fst:ln fe lX 0=st
 qU:∀k t,fe[k]?=some t->t.s1=ln fe lX (k+1)
 fin:FrP (L.map (·.1)) fe (·<L.length) fr Hv
 chl:ch.length=jC P (L.map (·.1)) L.length
def FrP.cons {fe:List TR}{t0:TR}{AU lM f:Fr}(hap:Ml (o::l))(h:FrP l fe (·<k) lM f)(AH:(o.dst=none/\lM=AU)\/∃d,o.dst=some d/\d<n/\lM=AU.put (d) (some t0.v)):
 FrP (o::l) (t0::fe) (·<k+1) AU f:=by
 constructor
 .intro j oj d t hj h1 h2 h3;cases j with
  |zero=>
   simp at h1 h3;subst h1;subst h3;rcases AH with⟨e,_⟩|⟨d',e,_,rfl⟩
   .rw[h2]at e;cases e
   .rw[h2]at e;cases e;rw[h.2 (d),mw];intro j oj d' hj h4 h5 e;subst e;exact hap 0 (j+1) o oj d' qE uG (by simpa using h4) h2 h5
  |succ j=>exact h.1 j oj d t (by have:=hj;show j<k;omega) O8 h2 (by simpa using h3)
 .intro p hp;rw[h.2 p λj oj d hj h1 h2=>hp (j+1) oj d (by have:j<k:=hj;show j+1<k+1;omega) O8 h2];rcases AH with⟨_,rfl⟩|⟨d,e,_,rfl⟩
  .rfl
  .rw[mK];exact λe'=>hp 0 o d (by show 0<k+1;omega) uG e e'.symm
def FC:∀{L:List (Oper×Option Nat)} {i c:Nat} {fr:Fr} {st:St} {fe:List TR} {ch:List St} {Hv:Fr} {lX:St},rE P call n ops L i c fr st=some (fe,ch,Hv,lX)->Ml (L.map (·.1))->H0 L P call n ops i c fr st fe ch Hv lX:=by
 intro L
 induction L with
 |nil=>
  intro i c fr st fe ch Hv lX h _;cases h;exact⟨rfl,λk o ab h=>Pa,rfl,λk t h=>Pa,⟨λj o d t _ h=>Pa,λp _=>rfl⟩,rfl⟩
 |cons oa L ih=>
  obtain⟨o,ab⟩:=oa;intro i c fr st fe ch Hv lX h hap;rw[aFv]at hap
  have e:rE P call n ops ((o,ab)::L) i c fr st=OR.rec (motive:=λ_=>Option abt) (λv st'=>oJ v λv=>oJ st' λst'=>
   Option.rec none (λfr'=>bH (mN P o)
    (Option.rec none (λr=>some (⟨i,ab,o,true,c,fr,v,st,st'⟩::r.1,st::r.2.1,r.2.2)) (rE P call n ops L (i+1) (c+1) fr' st'))
    (Option.rec none (λr=>some (⟨i,ab,o,false,c,fr,v,st,st'⟩::r.1,r.2.1,r.2.2)) (rE P call n ops L (i+1) c fr' st'))) (Ge n o.dst v fr)) none (gX P call ops ab o fr st):=rfl
  rw[e]at h;have agK:Ml (L.map (·.1)):=λj k a b d hjk h1 h2=>hap (j+1) (k+1) a b d qE O8 TV;cases hs:gX P call ops ab o fr st with
  |bad=>rw[hs]at h;cases h
  |ok v gD=>
   rw[hs]at h;simp only[dI,dI]at h;cases hp:Ge n o.dst v fr with
   |none=>rw[hp]at h;cases h
   |some lM=>
    rw[hp]at h;simp only[aP]at h;have AH:=Cu hp
    have TC:∀d,o.dst=some d->d<n:=λd hd=>by
     rcases AH with⟨e,_⟩|⟨d',e,h',_⟩
     .rw[hd]at e;cases e
     .rw[hd]at e;cases e;exact h'
    have key:∀(w:Bool) (Ph:List TR) (ch' chx:List St) (R5:Fr) (Pr:St),mN P o=w->H0 L P call n ops (i+1) (c+if w then 1 else 0) lM gD Ph ch' R5 Pr->chx=(if w then st::ch' else ch')->
     H0 ((o,ab)::L) P call n ops i c fr st (⟨i,ab,o,w,c,fr,v,st,gD⟩::Ph) chx R5 Pr:=by
     intro w Ph ch' chx R5 Pr hw IH aas;refine⟨by simp[IH.len],λk o' ab' hk=>?_,rfl,λk t hk=>?_,by rw[aFv];exact IH.fin.cons hap AH,?_⟩
     .rw[aFv];cases k with
      |zero=>
       simp at hk;obtain⟨rfl,rfl⟩:=hk;refine⟨_,rfl,rfl,rfl,rfl,hw.symm,rfl,TC,⟨λj _ _ _ hj=>absurd hj (Nat.not_lt_zero _),λp _=>rfl⟩,hs,λhh=>?_⟩;rw[hh]at hw;subst hw;rw[aas];rfl
      |succ k=>
       simp only[aEN]at hk;obtain⟨t,h1,h2,h2',h3,h4,h5,h6,h7,h9,Kd⟩:=IH.at' k o' ab' hk;refine⟨t,O8,qE,h2',h3,h4,?_,h6,h7.cons hap AH,h9,λZq=>?_⟩
       .rw[h5,wY,hw];omega
       .rw[wY,hw,aas];have:=Kd Zq;cases w
        .simpa using this
        .simp only[aFm];rw[aHE 1];simpa using this
     .cases k with
      |zero=>
       simp at hk;subst hk;have:=IH.fst;show gD=ln _ _ _;rw[<-this];unfold ln;simp
      |succ k=>
       have:=IH.qU k t (by simpa using hk);rw[this];unfold ln;simp
     .rw[aFv,aFp,wY,hw,aas];have:=IH.chl;cases w
      .simp[this]
      .simp[this];omega
    cases hw:mN P o with
    |true=>
     rw[hw]at h;simp only[aFm]at h;cases ht:rE P call n ops L (i+1) (c+1) lM gD with
     |none=>rw[ht]at h;cases h
     |some r=>
      obtain⟨Ph,ch',R5,Pr⟩:=r;rw[ht]at h;cases h;exact key true _ _ _ _ _ hw (ih ht agK) rfl
    |false=>
     rw[hw]at h;simp only[aEM,aFa]at h;cases ht:rE P call n ops L (i+1) c lM gD with
     |none=>rw[ht]at h;cases h
     |some r=>
      obtain⟨Ph,ch',R5,Pr⟩:=r;rw[ht]at h;cases h;exact key false _ _ _ _ _ hw (ih ht agK) rfl
end
end
section
variable {listed:Array Bool}{i j:Nat}{t:TR}{a:Act}{c:Nat}{ρ:Ren}{s M:St}
def Db (o:Oper)(p:Nat):Bool:=match o.dst with|some d=>ahT (d) p|none=>false
def Lc (ops:Array Oper)(i:Nat)(x:fc):Bool:=
 match x with| .const _=>true| .tmp p=>Cd (Nf ops.toList 0) λjo=>bH (Db jo.2 p) (bH (Nat.ble (Nat.succ jo.1) i) (fT ops ops.size i jo.1) (Bool.and (Nat.ble (Nat.succ i) jo.1) (fT ops ops.size jo.1 i))) true
def Jt (P:Program)(ops:Array Oper)(i:Nat)(o:Oper)(j:Nat)(oj:Oper):Bool:=
 bH (Nat.ble (Nat.succ j) i) (Bool.and (match oj.dst with|some d=>Bool.not (Db o (d))|none=>true) (bH (Bool.and (mN P o) (mN P oj)) (fT ops ops.size i j) true)) true
def Pt (P:Program)(ops:Array Oper):Bool:=
 Cd (Nf ops.toList 0) λio=>
  Bool.and (Cd io.2.after.toList λe=>bH (Region.binds .any e) (Nat.ble (Nat.succ e.on) io.1) true)
  (Bool.and (Cd (re P ops io.2) λx=>Lc ops io.1 x) (Cd (Nf ops.toList 0) λjo=>Jt P ops io.1 io.2 jo.1 jo.2))
section
variable {P:Program} {call:gq} {n:Nat} {ops:Array Oper}
structure Dp (P:Program)(ops:Array Oper):Prop where
 s1:∀i o,ops.toList[i]?=some o->∀e∈o.after,Region.binds .any e=true->e.on<i
 s2:∀i o,ops.toList[i]?=some o->∀p,fc.tmp p∈re P ops o->∀j oj d,ops.toList[j]?=some oj->oj.dst=some d->d=p->(j<i/\fT ops ops.size i j=true)\/(i<j/\fT ops ops.size j i=true)
 s3:Ml ops.toList
 s4:∀i j o oj,ops.toList[i]?=some o->ops.toList[j]?=some oj->j<i->mN P o=true->mN P oj=true->fT ops ops.size i j=true
def I2 (h:Pt P ops=true):Dp P ops:=by
 unfold Pt at h;rw[oD]at h;have key:∀i o,ops.toList[i]?=some o->_:=λi o ho=>h (i,o) (by have:=wK (i:=0) ho;simpa using this);refine⟨λi o ho e he hb=>?_,λi o ho p hp j oj d hj hd hpe=>?_,λj i oj o d AN hj ho hd Fh=>?_,λi j o oj ho hj AN hw hwj=>?_⟩
 .have:=key i o ho;simp only[aFl,oD]at this;have:=this.1 e aaT;rw[hb]at this
  simpa[aHv]using this
 .have:=key i o ho;simp only[aFl,oD]at this;have:=this.2.1 _ hp;unfold Lc at this;dsimp only at this;rw[oD]at this;have:=this (j,oj) aaY;have hds:Db oj p=true:=by unfold Db;rw[hd];exact HP.2 hpe
  simp only[hds,aP,aFm,aFs,aHv]at this
  split at this
  .rename_i hlt;exact .inl ⟨hlt,this⟩
  .simp only[aFl,aFs,aHv]at this;exact .inr this
 .have:=key i o ho;simp only[aFl,oD]at this;have:=this.2.2 (j,oj) aaY;unfold Jt at this;simp only[aP,aFs,aHv,aEW AN,aFl]at this;have:=this.1;rw[hd]at this;have hds:Db o (d)=true:=by unfold Db;rw[Fh];exact HP.2 rfl
  simp[hds]at this
 .have:=key i o ho;simp only[aFl,oD]at this;have:=this.2.2 (j,oj) aaY;unfold Jt at this;simp only[aP,aFs,aHv,aEW AN,aFl]at this;have:=this.2
  simpa[hw,hwj]using this
def abH (P:Program)(call:gq)(ops:Array Oper)(chain:List St)(fe:List TR):Prop:=∀(i:Nat) (t:TR),fe[i]?=some t->mN P t.o=false->qj P t.o=false->∀(c:Nat) (s:St),chain[c]?=some s->
    (∃u∈fe,u.w=true/\u.c<c/\fT ops ops.size u.i t.i=true)\/(∃u∈fe,u.w=true/\c<=u.c/\fT ops ops.size t.i u.i=true)\/∃s1,gX P call ops t.ab t.o t.fr s=.ok t.v s1
def SZ (P:Program)(ops:Array Oper)(as:List (Option Nat))(chain:List St)(fe:List TR):Prop:=∀(j:Nat) (tj:TR) (b:Nat),fe[j]?=some tj->qj P tj.o=true->as[j]?=some (some b)->∀(d:Nat) (td:TR),fe[d]?=some td->mN P td.o=true->
    fT ops ops.size d j=false->fT ops ops.size j d=false->(d<j->∀s,chain[td.c]?=some s->s.m.g b=none)/\(j<d->∀s s',chain[td.c]?=some s->chain[td.c+1]?=some s'->s'.m.g b=s.m.g b)
def Kr (hst:Dp P ops):∀(f i j:Nat),fT ops f i j=true->j<i:=by
 intro f
 induction f with
 |zero=>intro i j h;cases h
 |succ f ih=>
  intro i j h
  have e:fT ops (f+1) i j=(match ops[i]? with
   |none=>false
   |some o=>E5 o.after.toList λe=>Bool.and (Region.binds .any e) (oJ e.on λk=>Bool.or (Nat.beq k j) (fT ops f k j))):=rfl
  rw[e]at h
  split at h
  .cases h
  .rename_i o ho;rw[Ba]at h;obtain⟨x,hx,h⟩:=h;simp only[dI,aFl,aFO,aFw]at h;have:=hst.s1 i o (by simpa using ho) x O5 h.1;rcases h.2 with h2|h2
   .omega
   .have:=ih _ _ h2;omega
open Classical in
def zl (s:St)(f:Nat->Option qB):∀names:List Nat,∃M:St,M.nx=s.nx/\∀q,M.m.g q=if q∈names then f q else s.m.g q:=by
 intro names
 induction names with
 |nil=>exact⟨s,rfl,λq=>uG⟩
 |cons b names ih=>
  obtain⟨M,h1,h2⟩:=ih;refine⟨⟨M.m.put b (f b),M.nx⟩,h1,λq=>?_⟩;show(M.m.put b (f b)).g q=_;rw[PT.eZ,h2]
  by_cases e:q=b
  .subst e;simp
  .simp[e]
def unl (N:Nat)(listed:Array Bool):Nat:=(List.range N).countP λi=> !listed.getD i true
def Kz {N:Nat}(hi:i<N)(hs:listed.size=N)(hu:listed.getD i true=false):unl N (listed.setIfInBounds i true)<unl N listed:=by
 unfold unl
 have key:∀(l:List Nat),i∈l->l.Nodup->l.countP (λk=> !(listed.setIfInBounds i true).getD k true)<l.countP (λk=> !listed.getD k true):=by
  have same:∀k,k≠i->(listed.setIfInBounds i true).getD k true=listed.getD k true:=λk hk=>by simp[aFV (aFL hk)]
  have asf:(listed.setIfInBounds i true).getD i true=true:=by simp[hs,hi]
  intro l
  induction l with
  |nil=>intro h;simp at h
  |cons k l ih=>
   intro h hn;rw[aFd]at hn;rw[List.countP_cons,List.countP_cons]
   by_cases hk:k=i
   .subst hk
    have:l.countP (λk'=> !(listed.setIfInBounds k true).getD k' true)=l.countP (λk'=> !listed.getD k' true):=by
     apply List.countP_congr;intro x hx;rw[same x (λe=>hn.1 (e▸hx))]
    rw[this,asf,hu];simp
   .have hl:i∈l:=by simpa[aFL hk]using h
    have:=ih hl hn.2;rw[same k hk];omega
 exact key _ O1 List.nodup_range
def lG (hi:i<listed.size):qA (listed.setIfInBounds i true) j↔j=i\/qA listed j:=by
 unfold qA
 by_cases h:j=i
 .subst h;simp[hi]
 .simp[aFV (aFL h),h]
def tH (hs:listed.size=ops.size):i∈Region.ready .any ops listed↔i<ops.size/\¬qA listed i/\Wn ops listed i:=by
 unfold Region.ready;rw[aGm,List.mem_range];constructor
 .rintro⟨h1,h2⟩;simp only[aFl,aHA]at h2;refine⟨h1,?_,?_⟩
  .unfold qA;have:listed.getD i false=listed.getD i true:=by simp[hs,h1]
   rw[this,h2.1];simp
  .intro o ho e he hb;have:=h2.2;rw[ho]at this;simp only[aGc,aGi,Array.all_eq_true_iff_forall_mem]at this;have:=this e he;rw[hb]at this
   simpa[qA]using this
 .rintro⟨h1,h2,h3⟩;refine⟨h1,?_⟩;simp only[aFl,aHA];constructor
  .unfold qA at h2;have:listed.getD i false=listed.getD i true:=by simp[hs,h1]
   rw[this]at h2;simpa using h2
  .have ho:ops[i]?=some ops[i]:=by simp
   rw[ho];simp only[aGc,aGi,Array.all_eq_true_iff_forall_mem];intro e he;cases hb:Region.binds .any e with
   |false=>rfl
   |true=>have:=h3 _ ho e he hb;simpa[qA]using this
def Bd (hst:Dp P ops)(hs:listed.size=ops.size)(h:Region.ready .any ops listed=[]):∀i,i<ops.size->qA listed i:=by
 intro i
 induction i using Nat.strongRecOn with
 |_ i ih=>
  intro hi
  by_cases hl:qA listed i
  .exact hl
  .have:=(tH hs).2 ⟨hi,hl,λo ho e he hb=>by
    have:=hst.s1 i o (by simpa using ho) e he hb;exact ih _ this qE⟩
   rw[h]at this;simp at this
structure Og (P:Program)(ops:Array Oper)(as:List (Option Nat))(fe:List TR)(listed:Array Bool)(c:Nat)(ρ:Ren)(s M:St):Prop where
 nx:M.nx=s.nx
 late:∀(j:Nat) (t:TR) (b:Nat) (x:Nat×Nat),qA listed j->fe[j]?=some t->qj P t.o=true->as[j]?=some (some b)->ρ b=some x->t.s.m.g b=none/\(c<jC P ops.toList j->M.m.g b=t.s1.m.g b/\s.m.g b=none)
 UG:∀(q:Nat) (x:Nat×Nat),ρ q=some x->(∀(j:Nat) (t:TR),as[j]?=some (some q)->fe[j]?=some t->qj P t.o=true->¬c<jC P ops.toList j)->M.m.g q=s.m.g q
structure Inv (P:Program)(ops:Array Oper)(as:List (Option Nat))(fe:List TR)(ch:List St)(lX:St)(n:Nat)(ρ0:Ren)(Bo kK:St)(AU:Fr)(w0:World)(listed:Array Bool)(a:Act)(w:World):Prop where
 size:listed.size=ops.size
 closed:∀i,qA listed i->Wn ops listed i
 inner:∀i,qA listed i->i<ops.size
 data:∃fr c ρ s M,FrP ops.toList fe (qA listed) AU fr/\(∀j o,ops.toList[j]?=some o->mN P o=true->(qA listed j↔jC P ops.toList j<c))/\c<=ch.length/\(ch++[lX])[c]?=some s/\FR ρ fr a.tmps/\br ρ0 Bo w0 ρ M w/\kK.nx<=s.nx/\(∀j b,¬qA listed j->as[j]?=some (some b)->ρ b=none)/\Og P ops as fe listed c ρ s M
 sz:n<=a.tmps.size
 defers:a.defers=[]
variable {as:List (Option Nat)} {fe:List TR} {ch:List St} {ρ0:Ren} {Bo kK lX:St} {AU Hv:Fr} {w0:World}
def Yh {α β:Type}{l:List α}{as:List β}(h:as.length=l.length){o:α}(hj:l[j]?=some o):∃ab,(l.zip as)[j]?=some (o,ab)/\as[j]?=some ab:=by
 have hlt:=(aFb.1 hj).1;refine⟨as[j]' qE,?_,by simp[h,hlt]⟩;rw[List.getElem?_zip_eq_some];exact⟨hj,by simp[h,hlt]⟩
section
variable (dB:uV P ops.toList Bo as kK) (ki:H0 (ops.toList.zip as) P call n ops 0 0 AU kK fe ch Hv lX)
include dB ki
def nf {o:Oper}(ho:ops.toList[j]?=some o):∃t ab,fe[j]?=some t/\as[j]?=some ab/\t.i=j/\t.ab=ab/\t.o=o/\t.w=mN P o/\t.c=jC P ops.toList j/\(∀d,o.dst=some d->d<n)/\FrP ops.toList fe (·<j) AU t.fr/\
 gX P call ops ab o t.fr t.s=.ok t.v t.s1/\(mN P o=true->(ch++[lX])[jC P ops.toList j]?=some t.s):=by
 obtain⟨ab,hz,tN⟩:=Yh dB.len ho;have EF:(ops.toList.zip as).map (·.1)=ops.toList:=List.map_fst_zip aaE;obtain⟨t,t1,t2,t3,t4,t5,t6,t7,t8,t9,t10⟩:=ki.at' j o ab hz;rw[EF]at t6 t8 t10;refine⟨t,ab,t1,tN,qE,t3,t4,t5,qE,t7,t8,t9,λh=>?_⟩;have:=t10 h;rw[aGr (aFb.1 this).1];exact this
def yc (ht:fe[j]?=some t):ops.toList[j]?=some t.o:=by
 have hzl:(ops.toList.zip as).length=ops.toList.length:=abS
 have hj:j<ops.toList.length:=by rw[<-hzl,<-ki.len];exact(aFb.1 ht).1
 obtain⟨t',ab,h1,_,_,_,h2,_⟩:=nf dB ki (aES hj);rw[ht]at h1;cases h1;rw[h2,aES hj]
def Dz:fe.length=ops.toList.length:=by rw[ki.len,List.length_zip,dB.len];simp
def A5:ch.length=jC P ops.toList ops.toList.length:=by
 have EF:(ops.toList.zip as).map (·.1)=ops.toList:=List.map_fst_zip aaE;have hzl:(ops.toList.zip as).length=ops.toList.length:=abS
 have:=ki.chl;rw[EF,hzl]at this;exact this
def gap {k:Nat}:∀{k':Nat},k<=k'->k'<=ops.toList.length->(∀j o,k<=j->j<k'->ops.toList[j]?=some o->mN P o=false)->
 (ln fe lX k').nx=(ln fe lX k).nx/\∀q,(∀j t,k<=j->j<k'->fe[j]?=some t->qj P t.o=true->as[j]?≠some (some q))->(ln fe lX k').m.g q=(ln fe lX k).m.g q:=by
 intro k'
 induction k' with
 |zero=>intro h _ _;have:k=0:=by omega
        subst this;exact⟨rfl,λ_ _=>rfl⟩
 |succ k' ih=>
  intro h hl hw
  by_cases hk:k=k'+1
  .subst hk;exact⟨rfl,λ_ _=>rfl⟩
  obtain⟨i1,i2⟩:=ih qE qE (λj o h1 h2=>hw j o h1 qE);have ho:ops.toList[k']?=some ops.toList[k']:=aES qE;generalize ops.toList[k']=o at ho;obtain⟨t,ab,h1,h2,h3,h4,h5,h6,h7,h8,h9,Kd,h11⟩:=nf dB ki ho;have BT:=ki.qU k' t h1;have Ip:ln fe lX k'=t.s:=by unfold ln;rw[h1]
  rw[<-BT,<-i1,Ip];have Nn:=hw k' o qE qE ho;cases hb:qj P o with
  |false=>
   have:=sq Nn hb Kd;rw[this];exact⟨rfl,λq hq=>abU⟩
  |true=>
   obtain⟨x,hx⟩:=Ax hb;obtain⟨b,XM⟩:=dB.news k' o ho (.inr hb);rw[h2]at XM;cases XM;rcases vZ hx Kd with⟨_,_,e⟩|⟨_,s,_,_,_,e⟩
   .rw[e];exact⟨rfl,λq hq=>abU⟩
   .rw[e];refine⟨rfl,λq hq=>?_⟩;have ij:q≠b:=λe=>hq k' t qE qE h1 (by rw[h5];exact hb) (by rw[h2,e]);show(t.s.m.put b _).g q=_;rw[PT.dv _ _ _ _ ij,<-i2 q λj t g1 g2=>hq j t g1 qE,Ip]
def wA:∀(m k:Nat),k+m=ops.toList.length->∃k2,k<=k2/\k2<=ops.toList.length/\(∀j o,k<=j->j<k2->ops.toList[j]?=some o->mN P o=false)/\jC P ops.toList k2=jC P ops.toList k/\(ch++[lX])[jC P ops.toList k]?=some (ln fe lX k2)/\
 (k2=ops.toList.length\/∃o,ops.toList[k2]?=some o/\mN P o=true):=by
 intro m
 induction m with
 |zero=>
  intro k hk;have:k=ops.toList.length:=qE
  refine⟨k,aEQ _,qE,λj o h1 h2=>qE,rfl,?_,.inl this⟩;rw[this,<-A5 dB ki];have:ln fe lX ops.toList.length=lX:=by unfold ln;rw[aFQ (by rw[Dz dB ki];exact aEQ _)]
  rw[this];simp
 |succ m ih=>
  intro k hk;have ho:ops.toList[k]?=some ops.toList[k]:=aES qE;generalize ops.toList[k]=o at ho;cases hw:mN P o with
  |true=>
   obtain⟨t,ab,h1,h2,h3,h4,h5,h6,h7,h8,h9,Kd,h11⟩:=nf dB ki ho;refine⟨k,aEQ _,qE,λj o h1 h2=>qE,rfl,?_,.inr ⟨o,ho,hw⟩⟩;rw[h11 hw];unfold ln;rw[h1]
  |false=>
   have hc:=ow (P:=P) ho;rw[hw]at hc;simp only[aEM,aFa,aFC]at hc;obtain⟨k2,g1,g2,g3,g4,g5,g6⟩:=ih (k+1) qE;refine⟨k2,qE,g2,λj o' j1 j2 hj=>?_,by rw[g4,hc],by rw[<-hc];exact g5,g6⟩
   by_cases e:j=k
   .subst e;rw[ho]at hj;cases hj;exact hw
   .exact g3 j o' qE j2 hj
def Aq {b:Nat}(ht:fe[j]?=some t)(hb:qj P t.o=true)(ha:as[j]?=some (some b)):∃s,(ch++[lX])[jC P ops.toList j]?=some s/\s.m.g b=t.s1.m.g b:=by
 have ho:=yc dB ki ht;have hjl:=(aFb.1 ho).1;have hc:=ow (P:=P) ho;rw[Eu hb]at hc;simp only[aEM,aFa,aFC]at hc;obtain⟨k2,g1,g2,g3,g4,g5,g6⟩:=wA dB ki (ops.toList.length-(j+1)) (j+1) qE;rw[hc]at g5;refine⟨_,g5,?_⟩;rw[(gap dB ki g1 g2 g3).2 b λj' t' h1 h2 h3 h4 h5=>by have:=dB.uniq j j' b ha h5;omega,<-ki.qU j t ht]
end
def Inv.done (dB:uV P ops.toList Bo as kK)(ki:H0 (ops.toList.zip as) P call n ops 0 0 AU kK fe ch Hv lX){w:World}(h:Inv P ops as fe ch lX n ρ0 Bo kK AU w0 listed a w)(eU:∀i,i<ops.size->qA listed i):
 qv ρ0 Bo w0 n (.norm Hv lX) .normal a w:=by
 obtain⟨fr,c,ρ,s,M,h1,h2,h3,h4,h5,h6,h7,h8,h9⟩:=h.data;have EF:(ops.toList.zip as).map (·.1)=ops.toList:=List.map_fst_zip aaE;have hzl:(ops.toList.zip as).length=ops.toList.length:=abS
 have hc:c=ch.length:=by
  by_cases hlt:c<ch.length
  .rw[A5 dB ki]at hlt;obtain⟨j,o,g1,g2,g3,g4⟩:=wX (P:=P) (l:=ops.toList) ops.toList.length (aEQ _) c hlt;have:=(h2 j o g2 g3).1 (eU j (by simpa using g1));omega
  .omega
 subst hc
 have hs:s=lX:=by
  rw[aGe (aEQ _)]at h4;simp at h4;exact h4.symm
 subst hs
 have hA:=h6.sy (λq x hx=>(h9.UG q x hx λj t _ ht hb hlt=>by
  have ho:=yc dB ki ht;have hjl:=(aFb.1 ho).1;have:=mM (P:=P) (l:=ops.toList) (Nat.le_of_lt hjl);have:=A5 dB ki;omega).symm) h9.nx.symm
 refine⟨rfl,ρ,⟨λt=>?_,h.sz,h.defers,hA⟩⟩
 have:fK Hv (t)=fK fr (t):=by
  have JZ:=ki.fin;rw[EF]at JZ
  by_cases hd:∃(j:Nat) (o:Oper) (d:Tmp),ops.toList[j]?=some o/\o.dst=some d/\d=t
  .obtain⟨j,o,d,g1,g2,rfl⟩:=hd;have hj:=(aFb.1 g1).1;obtain⟨t',_,g3,_⟩:=nf dB ki g1;rw[JZ.1 j o d t' (by show j<_;rw[hzl];exact hj) g1 g2 g3,h1.1 j o d t' (eU j acw) g1 g2 g3]
  .rw[JZ.2,h1.2]
   .exact λj o d _ g1 g2 e=>hd ⟨j,o,d,g1,g2,e⟩
   .exact λj o d _ g1 g2 e=>hd ⟨j,o,d,g1,g2,e⟩
 rw[this];exact h5 t
def Og.sub (h:Og P ops as fe listed c ρ s M)(hp:∀j b,¬qA listed j->as[j]?=some (some b)->ρ b=none):∀q x,ρ q=some x->s.m.g q=M.m.g q\/s.m.g q=none:=by
 intro q x hx
 by_cases hh:∃(j:Nat) (t:TR),as[j]?=some (some q)/\fe[j]?=some t/\qj P t.o=true/\c<jC P ops.toList j
 .obtain⟨j,t,g1,g2,g3,g4⟩:=hh
  by_cases hl:qA listed j
  .exact .inr ((h.late j t q x hl g2 g3 g1 hx).2 g4).2
  .rw[hp j q hl g1]at hx;cases hx
 .exact .inl (h.UG q x hx λj t g1 g2 g3 g4=>hh ⟨j,t,g1,g2,g3,g4⟩).symm
def mX (P:Program)(ops:Array Oper)(as:List (Option Nat))(fe:List TR)(listed:Array Bool)(c:Nat)(ρ:Ren)(q:Nat):Prop:=∃(j:Nat) (t:TR) (x:Nat×Nat),qA listed j/\fe[j]?=some t/\qj P t.o=true/\as[j]?=some (some q)/\c<jC P ops.toList j/\ρ q=some x
open Classical in
def Og.step {ρ':Ren}{s1:St}{w w':World}(h:Og P ops as fe listed c ρ s M)(hp:∀j b,¬qA listed j->as[j]?=some (some b)->ρ b=none)(h6:br ρ0 Bo w0 ρ M w)(hA:br ρ s w ρ' s1 w')
 (_:∀q,mX P ops as fe listed c ρ q->s1.m.g q=none):∃M1,br ρ0 Bo w0 ρ' M1 w'/\M1.nx=s1.nx/\∀q,M1.m.g q=if mX P ops as fe listed c ρ q then M.m.g q else s1.m.g q:=by
 obtain⟨M1,g1,g2⟩:=zl s1 (λq=>if mX P ops as fe listed c ρ q then M.m.g q else s1.m.g q) (as.filterMap id)
 have g3:∀q,M1.m.g q=if mX P ops as fe listed c ρ q then M.m.g q else s1.m.g q:=by
  intro q;rw[g2]
  by_cases hq:q∈as.filterMap id
  .rw[aEW hq]
  .rw[aET hq,aET];rintro⟨j,t,x,_,_,_,k1,_⟩;refine hq (List.mem_filterMap.2 ⟨some q,aFJ k1,rfl⟩)
 refine⟨M1,h6.trans (br.frame h6.wr h.nx.symm (h.sub hp) hA g1 λq x hx=>?_),g1,g3⟩
 by_cases hl:mX P ops as fe listed c ρ q
 .right;obtain⟨j,t,y,k1,k2,k3,k4,k5,k6⟩:=hl;have hl:mX P ops as fe listed c ρ q:=⟨j,t,y,k1,k2,k3,k4,k5,k6⟩;exact⟨⟨y,k6⟩,((h.late j t q y k1 k2 k3 k4 k6).2 k5).2,by rw[g3,aEW hl]⟩
 .left;rw[g3,aET hl]
open Classical in
def Inv.step (hc:jm P call)(hst:Dp P ops)(dB:uV P ops.toList Bo as kK)(ki:H0 (ops.toList.zip as) P call n ops 0 0 AU kK fe ch Hv lX)(Vu:abH P call ops (ch++[lX]) fe)(hlt:SZ P ops as (ch++[lX]) fe){w:World}
 (h:Inv P ops as fe ch lX n ρ0 Bo kK AU w0 listed a w)  (hi:i∈Region.ready .any ops listed) {K:Act->World->Prop} {Q:Exit->Act->World->Prop}
 (hK:∀a' w',Inv P ops as fe ch lX n ρ0 Bo kK AU w0 (listed.setIfInBounds i true) a' w'->K a' w'):wpOp P ops Q i K a w:=by
 obtain⟨jB,GY,XJ⟩:=(tH h.size).1 hi;obtain⟨fr,c,ρ,s,M,h1,h2,h3,h4,h5,h6,h7,h8,h9⟩:=h.data;have ho:ops[i]?=some ops[i]:=uG
 generalize ops[i]=o at ho;have Nl:ops.toList[i]?=some o:=by simpa using ho
 obtain⟨t,ab,t1,tN,t2,t2',t3,t4,t5,t6,t7,t9,t10⟩:=nf dB ki Nl;have RG:∀j,fT ops ops.size i j=true->qA listed j:=λj hj=>Bb h.closed _ _ _ hj XJ;have Hn:∀j k,fT ops ops.size k j=true->qA listed k->qA listed j:=λj k hj hk=>Bb h.closed _ _ _ hj (h.closed k hk);have Ha:i<listed.size:=by rw[h.size];exact jB
 have LI:∀x∈re P ops o,ev fr x=ev t.fr x:=by
  intro x hx;cases x with
  |const v=>rfl
  |tmp p=>
   show fK fr p=fK t.fr p
   by_cases hd:∃(j:Nat) (oj:Oper) (d:Tmp),ops.toList[j]?=some oj/\oj.dst=some d/\d=p
   .obtain⟨j,oj,d,g1,g2,g3⟩:=hd
    have Lx:∀(j':Nat) (o':Oper) (d':Tmp),ops.toList[j']?=some o'->o'.dst=some d'->d'=p->j'=j:=by
     intro j' o' d' k1 k2 k3;have:d'=d:=(by rw[k3,g3]);subst this;rcases Nat.lt_trichotomy j' j with hlt|heq|Br
     .exact absurd g2 (hst.s3 j' j o' oj d' hlt k1 g1 k2)
     .exact heq
     .exact absurd k2 (hst.s3 j j' oj o' d' Br g1 k1 g2)
    rcases hst.s2 i o Nl p hx j oj d g1 g2 g3 with⟨g4,g5⟩|⟨g4,g5⟩
    .obtain⟨tj,_,g6,_⟩:=nf dB ki g1;subst g3;rw[h1.1 j oj d tj (RG j g5) g1 g2 g6,t7.1 j oj d tj g4 g1 g2 g6]
    .rw[h1.2,t7.2]
     .intro j' o' d' k0 k1 k2 k3;have:=Lx j' o' d' k1 k2 k3;have k0:=k0;omega
     .intro j' o' d' k0 k1 k2 k3;have:=Lx j' o' d' k1 k2 k3;subst this;exact GY (Hn i j' g5 k0)
   .rw[h1.2,t7.2]
    .exact λj o d _ g1 g2 e=>hd ⟨j,o,d,g1,g2,e⟩
    .exact λj o d _ g1 g2 e=>hd ⟨j,o,d,g1,g2,e⟩
 have fin:∀v' w' ρ' c2 s2 M2,VR ρ' t.v v'->ρ.le ρ'->(∀j oj,ops.toList[j]?=some oj->mN P oj=true->(j=i\/qA listed j↔jC P ops.toList j<c2))->c2<=ch.length->(ch++[lX])[c2]?=some s2->br ρ0 Bo w0 ρ' M2 w'->kK.nx<=s2.nx->
  (∀j b,¬qA (listed.setIfInBounds i true) j->as[j]?=some (some b)->ρ' b=none)->Og P ops as fe (listed.setIfInBounds i true) c2 ρ' s2 M2->K (a.put o.dst v') w':=by
  intro v' w' ρ' c2 s2 M2 hv hle k4 k3 k2 hA k7 k8 k9
  refine hK _ _ {
   size:=by simp[h.size]
   closed:=λj hj o' Ty e he hb=>by
    rw[lG Ha]at hj⊢;rcases hj with rfl|hj
    .exact .inr (XJ o' Ty e he hb)
    .exact .inr (h.closed j hj o' Ty e he hb)
   inner:=λj hj=>by
    rw[lG Ha]at hj;rcases hj with rfl|hj
    .exact jB
    .exact h.inner j hj
   data:=by
    cases hd:o.dst with
    |none=>
     refine⟨fr,c2,ρ',s2,M2,⟨λj oj d tj g1 g2 g3 g4=>?_,λp hp=>h1.2 p λj oj d g1=>hp j oj d ((lG Ha).2 (.inr g1))⟩,λj oj g1 g2=>?_,k3,k2,h5.mono hle,hA,k7,k8,k9⟩
     .rcases(lG Ha).1 g1 with rfl|g1
      .rw[Nl]at g2;cases g2;rw[hd]at g3;cases g3
      .exact h1.1 j oj d tj g1 g2 g3 g4
     .rw[lG Ha];exact k4 j oj g1 g2
    |some d=>
     refine⟨fr.put (d) (some t.v),c2,ρ',s2,M2,⟨λj oj d' tj g1 g2 g3 g4=>?_,λp hp=>?_⟩,λj oj g1 g2=>?_,k3,k2,(h5.mono hle).adP (aFg (t6 d hd) h.sz) hv,hA,k7,k8,k9⟩
     .rcases(lG Ha).1 g1 with rfl|g1
      .rw[Nl]at g2;cases g2;rw[hd]at g3;cases g3;rw[t1]at g4;cases g4;exact mw _ _ _
      .have g1':=g1;rw[mK]
       .exact h1.1 j oj d' tj g1 g2 g3 g4
       .intro e;subst e;rcases Nat.lt_trichotomy j i with hlt|heq|Br
        .exact hst.s3 j i oj o d' hlt g2 Nl g3 hd
        .rw[heq]at g1';exact GY g1'
        .exact hst.s3 i j o oj d' Br Nl g2 hd g3
     .rw[mK]
      .exact h1.2 p λj oj d' g1=>hp j oj d' ((lG Ha).2 (.inr g1))
      .exact λe=>hp i o d ((lG Ha).2 (.inl rfl)) Nl hd e.symm
     .rw[lG Ha];exact k4 j oj g1 g2
   sz:=by rw[Gc];exact h.sz
   defers:=by rw[zY];exact h.defers}
 have yw:mN P o=false->∀j oj,ops.toList[j]?=some oj->mN P oj=true->(j=i\/qA listed j↔jC P ops.toList j<c):=λhw j oj g1 g2=>by
  rw[h2 j oj g1 g2];constructor
  .rintro(e|e)
   .subst e;rw[Nl]at g1;cases g1;rw[hw]at g2;cases g2
   .exact e
  .exact .inr
 have QO:∀j b,¬qA (listed.setIfInBounds i true) j->as[j]?=some (some b)->j≠i/\ρ b=none:=λj b hj hb=>by
  rw[lG Ha]at hj;exact⟨λe=>hj (.inl e),h8 j b (λhh=>hj (.inr hh)) hb⟩
 have uS:∀j,qA (listed.setIfInBounds i true) j->j≠i->qA listed j:=λj hj ij=>by
  rcases(lG Ha).1 hj with e|e
  .exact absurd e ij
  .exact e
 unfold wpOp;rw[ho];dsimp only
 suffices Hj:(if Region.wanted o (yielded ops a.tmps)then Oper.wp P o a w K Q else K (a.put o.dst undef) w) by
  split
  .rename_i hwt;rw[aEW hwt]at Hj;exact .inl Hj
  .rename_i hwt;rw[aET hwt]at Hj;exact Hj
 cases jg:og P o with
 |some tz=>
  obtain⟨b,hb⟩:=dB.news i o Nl (.inl (by rw[jg];simp));rw[tN]at hb;cases hb;have hr:=dB.range i b tN;have Hm:=h8 i b GY tN;have hw:mN P o=false:=by unfold mN;rw[jg]
  have hB:qj P o=false:=by unfold qj;rw[xF (by rw[jg];simp)]
  have huj:∀u∈fe,u.w=true->∃j oj,ops.toList[j]?=some oj/\mN P oj=true/\u.i=j/\u.c=jC P ops.toList j:=by
   intro u hu huw;obtain⟨j,hj,rfl⟩:=aFP hu;have Ty:=yc dB ki (aES hj);obtain⟨tj,_,g1,_,g2,_,_,g3,g4,_⟩:=nf dB ki Ty;rw[aES hj]at g1;cases g1;exact⟨j,_,Ty,by rw[<-g3];exact huw,g2,g4⟩
  have QR:∃s1,gX P call ops (some b) o fr s=.ok t.v s1:=by
   rw[oU LI];rcases Vu i t t1 (by rw[t3];exact hw) abL c s h4 with⟨u,g1,g2,g3,g4⟩|⟨u,g1,g2,g3,g4⟩|⟨s2,g⟩
   .obtain⟨j,oj,k1,k2,k3,k4⟩:=huj u g1 g2;rw[t2,k3]at g4;exact absurd (Hn i j g4 ((h2 j oj k1 k2).2 qE)) GY
   .obtain⟨j,oj,k1,k2,k3,k4⟩:=huj u g1 g2;rw[t2,k3]at g4;have:=(h2 j oj k1 k2).1 (RG j g4);omega
   .rw[t3,t2']at g;exact⟨s2,g⟩
  obtain⟨sx,QQ⟩:=QR;obtain⟨M2,m1,m2⟩:=zl M (λ_=>s.m.g b) [b]
  have m3:∀q x,ρ q=some x->M2.m.g q=M.m.g q:=λq x hx=>by
   rw[m2,aET (λe=>by have:=aGd.1 e;subst this;rw[Hm]at hx;cases hx)]
  have RS:=h6.sy m3 m1;refine By jg QQ (by rw[m2,aEW uG]) RS h5 Hm (by rw[m1,h9.nx];omega) qE λv' w' ρ' hv hA hle hq=>fin v' w' ρ' c s M2 hv hle (yw hw) h3 h4 hA h7 (λj b' hj qz=>?_) ⟨by rw[m1];exact h9.nx,λj t' b' x hj AE qz ha hx=>?_,λq x hx qy=>?_⟩
  .obtain⟨k1,k2⟩:=QO j b' hj qz;rw[hq b' (λe=>k1 (dB.uniq j i b' qz adg))];exact k2
  .have AN:j≠i:=λe=>by subst e;rw[t1]at AE;cases AE;rw[t3,hB]at qz;cases qz
   have ij:b'≠b:=λe=>AN (dB.uniq j i b' ha adg);rw[hq b' ij]at hx;obtain⟨k1,k2⟩:=h9.late j t' b' x (uS j hj AN) AE qz ha hx;exact⟨k1,λJ8=>by rw[m3 b' x hx];exact k2 J8⟩
  .by_cases e:q=b
   .subst e;rw[m2,aEW uG]
   .rw[hq q e]at hx;rw[m3 q x hx];exact h9.UG q x hx qy
 |none=>
  cases fL:lb P o with
  |some x=>
   have hB:qj P o=true:=by unfold qj;rw[fL]
   obtain⟨b,hb⟩:=dB.news i o Nl (.inr hB);rw[tN]at hb;cases hb;have hr:=dB.range i b tN;have Hm:=h8 i b GY tN;have hw:=Eu hB;rw[<-oU LI]at t9;rcases vZ fL t9 with⟨g1,g2,g3⟩|⟨g1,sx,g2,g3,g4,g5⟩
   .rw[aET (by rw[jk g1 h5];simp)];refine fin undef w ρ c s M (by rw[g2];exact .undef) (λ_ _ h=>h) (yw hw) h3 h4 h6 h7 (λj b' hj qz=>(QO j b' hj qz).2) ⟨h9.nx,λj t' b' y hj AE qz ha hy=>?_,h9.UG⟩
    by_cases AN:j=i
    .subst AN;rw[tN]at ha;cases ha;rw[Hm]at hy;cases hy
    .exact h9.late j t' b' y (uS j hj AN) AE qz ha hy
   .rw[aEW (jk g1 h5)];obtain⟨e,len,z,ps⟩:=x;obtain⟨l,l1,l2⟩:=Qy fL h5 g2;have AQ:t.s1.m.g b=some (.cells sx e false):=by rw[g5];exact PT.dn _ _ _
    have XN:(c<jC P ops.toList i->s.m.g b=none)/\(¬c<jC P ops.toList i->s.m.g b=some (.cells sx e false)):=by
     constructor
     .intro oO;obtain⟨d,od,d1,d2,d3,d4⟩:=wX (P:=P) (l:=ops.toList) i (Nat.le_of_lt (by simpa using jB)) c oO;obtain⟨td,_,e1,_,e2,_,e3,e4,e5,_⟩:=nf dB ki d2;have Iv:¬qA listed d:=λhh=>by have:=(h2 d od d2 d3).1 hh;omega
      have a1:fT ops ops.size d i=false:=by
       cases hh:fT ops ops.size d i with
       |false=>rfl
       |true=>have:=Kr hst _ _ _ hh;omega
      have a2:fT ops ops.size i d=false:=by
       cases hh:fT ops ops.size i d with
       |false=>rfl
       |true=>exact absurd (RG d hh) Iv
      exact(hlt i t b t1 abL tN d td e1 (by rw[e3];exact d3) a1 a2).1 d1 s (by rw[e5,d4];exact h4)
     .intro oO;obtain⟨sj,j1,j2⟩:=Aq dB ki t1 abL tN
      have key:∀m s',jC P ops.toList i+m<=c->(ch++[lX])[jC P ops.toList i+m]?=some s'->s'.m.g b=some (.cells sx e false):=by
       intro m
       induction m with
       |zero=>intro s' _ vG;rw[aFC,j1]at vG;cases vG;rw[j2,AQ]
       |succ m ih=>
        intro s' hm vG;have hlen:=(aFb.1 vG).1;obtain⟨s0,ZE⟩:∃s0,(ch++[lX])[jC P ops.toList i+m]?=some s0:=⟨_,aES qE⟩;have aar:jC P ops.toList i+m<jC P ops.toList ops.toList.length:=by rw[<-A5 dB ki];omega
        obtain⟨d,od,d1,d2,d3,d4⟩:=wX (P:=P) (l:=ops.toList) ops.toList.length (aEQ _) _ aar;obtain⟨td,_,e1,_,e2,_,e3,e4,e5,_⟩:=nf dB ki d2;have Iv:=(h2 d od d2 d3).2 qE
        have hid:i<d:=by
         rcases Nat.lt_trichotomy i d with hh|hh|hh
         .exact hh
         .subst hh;exact absurd Iv GY
         .have:=ow (P:=P) d2;rw[d3]at this;simp only[aFm]at this;have:=mM (P:=P) (l:=ops.toList) (show d+1<=i from qE);omega
        have a1:fT ops ops.size d i=false:=by
         cases hh:fT ops ops.size d i with
         |false=>rfl
         |true=>exact absurd (Hn i d hh Iv) GY
        have a2:fT ops ops.size i d=false:=by
         cases hh:fT ops ops.size i d with
         |false=>rfl
         |true=>have:=Kr hst _ _ _ hh;omega
        rw[(hlt i t b t1 abL tN d td e1 (by rw[e3];exact d3) a1 a2).2 hid s0 s' (by rw[e5,d4];exact ZE) (by rw[e5,d4];exact vG)];exact ih s0 qE ZE
      have wR:=key (c-jC P ops.toList i) s qE (by rw[show jC P ops.toList i+(c-jC P ops.toList i)=c from qE];exact h4);exact wR
    obtain⟨M2,m1,m2⟩:=zl M (λ_=>some (.cells sx e false)) [b]
    have m3:∀q x,ρ q=some x->M2.m.g q=M.m.g q:=λq x hx=>by
     rw[m2,aET (λe=>by have:=aGd.1 e;subst this;rw[Hm]at hx;cases hx)]
    have m4:M2.m.g b=some (.cells sx e false):=by rw[m2,aEW uG]
    have RS:=(h6.sy m3 m1).ahR m4 Hm (by rw[m1,h9.nx];omega) l1 qE;have hq:∀q,q≠b->ρ.set b (w.heap.size,l.length) q=ρ q:=λq hq=>Ren.dA _ _ _ _ hq;unfold Oper.wp;rw[l2 w];refine fin (.slice (some ⟨w.heap.size,0,none⟩) len len) _ (ρ.set b (w.heap.size,l.length)) c s M2 (by rw[g4];exact .slice _ _ _ _ _ _ (Ren.eN ρ b _)) (λq x hx=>by rw[hq q (λe=>by subst e;rw[Hm]at hx;cases hx)];exact hx) (yw hw) h3 h4 RS h7 (λj b' hj qz=>?_) ⟨by rw[m1];exact h9.nx,λj t' b' y hj AE qz ha hy=>?_,λq y hy qy=>?_⟩
    .obtain⟨k1,k2⟩:=QO j b' hj qz;rw[hq b' (λe=>k1 (dB.uniq j i b' qz adg))];exact k2
    .by_cases AN:j=i
     .subst AN;rw[tN]at ha;cases ha;rw[t1]at AE;cases AE;exact⟨g3,λJ8=>⟨by rw[m4,AQ],XN.1 J8⟩⟩
     .have ij:b'≠b:=λe=>AN (dB.uniq j i b' ha adg);rw[hq b' ij]at hy;obtain⟨k1,k2⟩:=h9.late j t' b' y (uS j hj AN) AE qz ha hy;exact⟨k1,λJ8=>by rw[m3 b' y hy];exact k2 J8⟩
    .by_cases e':q=b
     .subst e';rw[m4,XN.2 (qy i t tN t1 abL)]
     .rw[hq q e']at hy;rw[m3 q y hy];exact h9.UG q y hy qy
  |none=>
   have hB:qj P o=false:=by unfold qj;rw[fL]
   have wL:=h6.wr.sub (h9.sub h8) h9.nx.symm;cases hw:mN P o with
   |true=>
    have hle:¬jC P ops.toList i<c:=λhh=>GY ((h2 i o Nl hw).2 hh)
    have hcw:c=jC P ops.toList i:=by
     by_cases hlt:c<jC P ops.toList i
     .have Ff:i<=ops.toList.length:=by simp;omega
      obtain⟨j,oj,g1,g2,g3,g4⟩:=wX (P:=P) (l:=ops.toList) i Ff c hlt;have:=(h2 j oj g2 g3).1 (RG j (hst.s4 i j o oj Nl g2 g1 hw g3));omega
     .omega
    subst hcw;have hts:=t10 hw;rw[h4]at hts;cases hts;rw[<-oU LI]at t9;obtain⟨_,hsc⟩:=sv jg fL t9;have hcs:=ow (P:=P) Nl;rw[hw]at hcs;simp only[aFm]at hcs;have Ff:i<ops.toList.length:=by simpa using jB
    obtain⟨k2,n1,n2,n3,n4,n5,n6⟩:=wA dB ki (ops.toList.length-(i+1)) (i+1) qE;rw[hcs]at n5;obtain⟨gn,gm⟩:=gap dB ki n1 n2 n3;have Ip:=(ki.qU i t t1).symm;rw[Ip]at gn gm
    have ago:∀q j t' x,qA listed j->fe[j]?=some t'->qj P t'.o=true->as[j]?=some (some q)->ρ q=some x->k2<j->(ln fe lX k2).m.g q=none:=by
     intro q j t' x j1 j2 j3 j4 j5 j6;rcases n6 with e|⟨od,e1,e2⟩
     .have:=(aFb.1 j2).1;rw[Dz dB ki]at this;omega
     .obtain⟨td,_,d1,_,d2,_,d3,d4,d5,_⟩:=nf dB ki e1;have Iv:¬qA listed k2:=λhh=>by have:=(h2 k2 od e1 e2).1 hh;omega
      have a1:fT ops ops.size k2 j=false:=by
       cases hh:fT ops ops.size k2 j with
       |false=>rfl
       |true=>have:=Kr hst _ _ _ hh;omega
      have a2:fT ops ops.size j k2=false:=by
       cases hh:fT ops ops.size j k2 with
       |false=>rfl
       |true=>exact absurd (Hn k2 j hh j1) Iv
      exact(hlt j t' q j2 j3 j4 k2 td d1 (by rw[d3];exact e2) a1 a2).1 j6 _ (by rw[d5,n4,hcs];exact n5)
    have Ni:∀{j:Nat} {t':TR},fe[j]?=some t'->qj P t'.o=true->jC P ops.toList i<jC P ops.toList j->i+1<=j:=by
     intro j t' _ _ j3;rcases aGh i j with hh|hh
     .omega
     .have:=mM (P:=P) (l:=ops.toList) hh;omega
    have aon:∀{j:Nat} {t':TR},fe[j]?=some t'->qj P t'.o=true->j≠k2:=by
     intro j t' j1 j2 e;subst e;rcases n6 with e|⟨od,e1,e2⟩
     .have:=(aFb.1 j1).1;rw[Dz dB ki]at this;omega
     .have:=yc dB ki j1;rw[e1]at this;cases this;rw[Eu j2]at e2;cases e2
    refine sr hc hsc wL h5 λv' w' ρ' hv hA=>?_
    have jx:∀q,mX P ops as fe listed (jC P ops.toList i) ρ q->t.s1.m.g q=none:=by
     rintro q ⟨j,t',x,j1,j2,j3,j4,j5,j6⟩;have JX:=Ni j2 j3 j5;rcases aGh j k2 with hjk|hjk
     .have hg:=(gap dB ki (k:=i+1) (k':=j) JX qE (λj' o' q1 q2=>n3 j' o' q1 qE)).2 q (λj' t'' q1 q2 q3 q4 q5=>by have:=dB.uniq j j' q j4 q5;omega);rw[Ip]at hg;rw[<-hg];have:ln fe lX j=t'.s:=by unfold ln;rw[j2]
      rw[this];exact(h9.late j t' q x j1 j2 j3 j4 j6).1
     .rw[<-gm q λj' t'' q1 q2 q3 q4 q5=>by have:=dB.uniq j j' q j4 q5;omega];exact ago q j t' x j1 j2 j3 j4 j6 (by have:=aon j2 j3;omega)
    obtain⟨M1,b1,b2,b3⟩:=h9.step h8 h6 hA jx;have Rw:∀q j,as[j]?=some (some q)->ρ q=none->ρ' q=none:=λq j hj hq=>hA.L0 q (by have:=dB.range j q hj;omega) hq
    have XP:∀q j x,as[j]?=some (some q)->ρ' q=some x->∃y,ρ q=some y:=λq j x hj hx=>by
     cases hq:ρ q with
     |some y=>exact⟨y,rfl⟩
     |none=>rw[Rw q j hj hq]at hx;cases hx
    obtain⟨M2,m1,m2⟩:=zl (ln fe lX k2) (λq=>if mX P ops as fe listed (jC P ops.toList i+1) ρ q then M.m.g q else (ln fe lX k2).m.g q) (as.filterMap id)
    have m3:∀q,M2.m.g q=if mX P ops as fe listed (jC P ops.toList i+1) ρ q then M.m.g q else (ln fe lX k2).m.g q:=by
     intro q;rw[m2]
     by_cases hq:q∈as.filterMap id
     .rw[aEW hq]
     .rw[aET hq,aET];rintro⟨j,t,x,_,_,_,k1,_⟩;exact hq (List.mem_filterMap.2 ⟨some q,aFJ k1,rfl⟩)
    have RS:br ρ0 Bo w0 ρ' M2 w':=by
     refine b1.sy (λq x hx=>?_) (by rw[m1,b2,gn]);rw[m3,b3]
     by_cases hq:∃(j:Nat) (t':TR),as[j]?=some (some q)/\fe[j]?=some t'/\qj P t'.o=true
     .obtain⟨j,t',j1,j2,j3⟩:=hq;obtain⟨y,hy⟩:=XP q j x j1 hx;have Vk:=Classical.byContradiction λhh=>by rw[h8 j q hh j1]at hy;cases hy
      have same:∀(d:Nat),mX P ops as fe listed d ρ q↔d<jC P ops.toList j:=λd=>by
       constructor
       .rintro⟨j',t'',y',_,_,_,q1,q2,_⟩;rw[<-dB.uniq j' j q q1 j1];exact q2
       .exact λhd=>⟨j,t',y,Vk,j2,j3,j1,hd,hy⟩
      by_cases c1:jC P ops.toList i+1<jC P ops.toList j
      .rw[aEW ((same _).2 c1),aEW ((same _).2 qE)]
      .rw[aET (λhh=>c1 ((same _).1 hh))]
       by_cases c2:jC P ops.toList i<jC P ops.toList j
       .rw[aEW ((same _).2 c2),((h9.late j t' q y Vk j2 j3 j1 hy).2 c2).1];obtain⟨sj,s1,s2⟩:=Aq dB ki j2 j3 j1;rw[show jC P ops.toList j=jC P ops.toList i+1 from qE,n5]at s1;cases s1;exact s2
       .rw[aET (λhh=>c2 ((same _).1 hh)),gm q];intro j' t'' q1 q2 q3 q4 q5;have:=dB.uniq j j' q j1 q5;subst this;have:=mM (P:=P) (l:=ops.toList) q1;omega
     .have no:∀(d:Nat),¬mX P ops as fe listed d ρ q:=λd=>by
       rintro⟨j,t',y,_,q1,q2,q3,_⟩;exact hq ⟨j,t',q3,q1,q2⟩
      rw[aET (no _),aET (no _),gm q];exact λj t' _ _ q1 q2 q3=>hq ⟨j,t',q3,q1,q2⟩
    refine fin v' w' ρ' (jC P ops.toList i+1) (ln fe lX k2) M2 hv hA.ext (λj oj g1 g2=>?_) ?_ n5 RS (by rw[gn];exact aGb h7 hA.nx) (λj b' hj qz=>Rw b' j qz (QO j b' hj qz).2) ⟨m1,λj t' b' x hj AE qz ha hx=>?_,λq x hx qy=>?_⟩
    .by_cases AN:j=i
     .subst AN;simp
     .have ij:jC P ops.toList j≠jC P ops.toList i:=by
       rcases aGh j i with hlt|oN
       .have:=ow (P:=P) g1;rw[g2]at this;simp only[aFm]at this;have h':=mM (P:=P) (l:=ops.toList) (show j+1<=i from qE);omega
       .have h':=mM (P:=P) (l:=ops.toList) (show i+1<=j from qE);omega
      rw[h2 j oj g1 g2];constructor
      .rintro(e|e)
       .exact absurd e AN
       .omega
      .intro e;right;omega
    .rw[A5 dB ki,<-hcs];exact mM qE
    .have AN:j≠i:=λe=>by subst e;rw[t1]at AE;cases AE;rw[t3,hB]at qz;cases qz
     obtain⟨y,hy⟩:=XP b' j x ha hx;have Vk:=uS j hj AN;obtain⟨q1,q2⟩:=h9.late j t' b' y Vk AE qz ha hy;refine⟨q1,λJ8=>⟨?_,?_⟩⟩
     .rw[m3,aEW ⟨j,t',y,Vk,AE,qz,ha,J8,hy⟩];exact(q2 qE).1
     .have JX:=Ni AE qz qE;refine ago b' j t' y Vk AE qz ha hy ?_;rcases aGh k2 j with hh|hh
      .exact hh
      .have:=mM (P:=P) (l:=ops.toList) hh;rw[n4,hcs]at this;omega
    .rw[m3,aET];rintro⟨j,t',y,_,q1,q2,q3,q4,_⟩;exact qy j t' q3 q1 q2 q4
   |false=>
    have huj:∀u∈fe,u.w=true->∃j oj,ops.toList[j]?=some oj/\mN P oj=true/\u.i=j/\u.c=jC P ops.toList j:=by
     intro u hu huw;obtain⟨j,hj,rfl⟩:=aFP hu;have Ty:=yc dB ki (aES hj);obtain⟨tj,_,g1,_,g2,_,_,g3,g4,_⟩:=nf dB ki Ty;rw[aES hj]at g1;cases g1;exact⟨j,_,Ty,by rw[<-g3];exact huw,g2,g4⟩
    have QR:∃s1,gX P call ops ab o fr s=.ok t.v s1:=by
     rw[oU LI];rcases Vu i t t1 (by rw[t3];exact hw) abL c s h4 with⟨u,g1,g2,g3,g4⟩|⟨u,g1,g2,g3,g4⟩|⟨s2,g⟩
     .obtain⟨j,oj,k1,k2,k3,k4⟩:=huj u g1 g2;rw[t2,k3]at g4;exact absurd (Hn i j g4 ((h2 j oj k1 k2).2 qE)) GY
     .obtain⟨j,oj,k1,k2,k3,k4⟩:=huj u g1 g2;rw[t2,k3]at g4;have:=(h2 j oj k1 k2).1 (RG j g4);omega
     .rw[t3,t2']at g;exact⟨s2,g⟩
    obtain⟨sx,QQ⟩:=QR;rw[sq hw hB QQ]at QQ;obtain⟨aAK,hsc⟩:=sv jg fL QQ;refine sr hc hsc wL h5 λv' w' ρ' hv hA=>?_
    have jx:∀q,mX P ops as fe listed c ρ q->s.m.g q=none:=by
     rintro q ⟨j,t',x,j1,j2,j3,j4,j5,j6⟩;exact((h9.late j t' q x j1 j2 j3 j4 j6).2 j5).2
    obtain⟨M1,b1,b2,b3⟩:=h9.step h8 h6 hA jx;have Rw:∀q j,as[j]?=some (some q)->ρ q=none->ρ' q=none:=λq j hj hq=>hA.L0 q (by have:=dB.range j q hj;omega) hq;refine fin v' w' ρ' c s M1 hv hA.ext (yw hw) h3 h4 b1 h7 (λj b' hj qz=>Rw b' j qz (QO j b' hj qz).2) ⟨b2,λj t' b' x hj AE qz ha hx=>?_,λq x hx qy=>?_⟩
    .have AN:j≠i:=λe=>by subst e;rw[t1]at AE;cases AE;rw[t3,hB]at qz;cases qz
     cases hq:ρ b' with
     |none=>rw[Rw b' j ha hq]at hx;cases hx
     |some y=>
      have Vk:=uS j hj AN;obtain⟨q1,q2⟩:=h9.late j t' b' y Vk AE qz ha hq;refine⟨q1,λJ8=>?_⟩;rw[b3,aEW ⟨j,t',y,Vk,AE,qz,ha,J8,hq⟩];exact q2 J8
    .rw[b3,aET];rintro⟨j,t',y,_,q1,q2,q3,q4,_⟩;exact qy j t' q3 q1 q2 q4
def Sn (hc:jm P call)(hst:Dp P ops)(dB:uV P ops.toList Bo as kK)(ki:H0 (ops.toList.zip as) P call n ops 0 0 AU kK fe ch Hv lX)(Vu:abH P call ops (ch++[lX]) fe)(hlt:SZ P ops as (ch++[lX]) fe):∀(fuel:Nat) (listed:Array Bool) (a:Act) (w:World),
 Inv P ops as fe ch lX n ρ0 Bo kK AU w0 listed a w->unl ops.size listed<=fuel->wpAny P .any ops (qv ρ0 Bo w0 n (.norm Hv lX)) fuel listed a w:=by
 intro fuel
 induction fuel with
 |zero=>
  intro listed a w h hu
  have hr:Region.ready .any ops listed=[]:=by
   rw[List.eq_nil_iff_forall_not_mem];intro i hi;obtain⟨h1,h2,h3⟩:=(tH h.size).1 hi
   have:listed.getD i true=false:=by
    have e:listed.getD i false=listed.getD i true:=by simp[h.size,h1]
    unfold qA at h2;rw[e]at h2;simpa using h2
   have:=Kz h1 h.size this;omega
  exact⟨hr,h.done dB ki (Bd hst h.size hr)⟩
 |succ fuel ih=>
  intro listed a w h hu;refine⟨λhr=>h.done dB ki (Bd hst h.size hr),λi hi=>h.step hc hst dB ki Vu hlt hi λa' w' h'=>ih _ a' w' h' ?_⟩;obtain⟨h1,h2,h3⟩:=(tH h.size).1 hi
  have:listed.getD i true=false:=by
   have e:listed.getD i false=listed.getD i true:=by simp[h.size,h1]
   unfold qA at h2;rw[e]at h2;simpa using h2
  have:=Kz h1 h.size this;omega
open Classical in
def fI (P:Program):yJ:=λcall n ops fr st=>Jo P ops.toList st λas gD=>match rE P call n ops (ops.toList.zip as) 0 0 fr gD with
 |some r=>if Dp P ops/\abH P call ops (r.2.1++[r.2.2.2]) r.1/\SZ P ops as (r.2.1++[r.2.2.2]) r.1 then .norm r.2.2.1 r.2.2.2 else .bad
 |none=>.bad
def nW (hm:P.follows .mixedOrders=true):ue P (fI P):=by
 intro call n hc id ops fr st ρ a w hb hw hf hn hd;unfold fI at hb⊢;obtain⟨as,gD,dB,hk⟩:=KM (P:=P) ops.toList st;rw[hk]at hb;rw[hk];have EF:(ops.toList.zip as).map (·.1)=ops.toList:=List.map_fst_zip aaE;cases ht:rE P call n ops (ops.toList.zip as) 0 0 fr gD with
 |none=>rw[ht]at hb;exact absurd rfl hb
 |some r=>
  obtain⟨fe,ch,Hv,lX⟩:=r;rw[ht]at hb;dsimp only at hb⊢
  split at hb
  .rename_i Vu;rw[aEW Vu];obtain⟨hst,Vu,hlt⟩:=Vu;have ki:=FC ht (by rw[EF];exact hst.s3);have Tw:=dB.after ρ w hw;refine wp_region_any hm ?_;refine Sn (w0:=w) hc hst dB ki Vu hlt _ _ _ _ ?_ ?_
   .have qy:∀i,¬qA (Array.replicate ops.size false) i:=λi hi=>by
     unfold qA at hi;simp only[Array.getD_eq_getD_getElem?,Array.getElem?_replicate]at hi
     split at hi<;>cases hi
    have Tv:∀(j:Nat) (b:Nat),as[j]?=some (some b)->ρ b=none:=λj b hb=>by
     have:=dB.range j b hb;cases hh:ρ b with
     |none=>rfl
     |some x=>have:=hw.fresh b x hh;omega
    obtain⟨k2,n1,n2,n3,n4,n5,n6⟩:=wA dB ki ops.toList.length 0 qE;obtain⟨gn,gm⟩:=gap dB ki n1 n2 n3;have XE:=ki.fst;rw[XE]at gn gm;have J9:jC P ops.toList 0=0:=rfl;rw[J9]at n5;have rO:∀q x,ρ q=some x->(ln fe lX k2).m.g q=gD.m.g q:=λq x hx=>gm q λj t _ _ _ _ q5=>by rw[Tv j q q5]at hx;cases hx
    exact⟨uG,λi hi=>absurd hi (qy i),λi hi=>absurd hi (qy i),⟨fr,0,ρ,ln fe lX k2,ln fe lX k2,⟨λj o d t hj=>absurd hj (qy j),λp _=>rfl⟩,λj o _ _=>⟨λhh=>absurd hh (qy j),λhh=>absurd hh (Nat.not_lt_zero _)⟩,aHt _,n5,hf,(Tw.trans (br.draw Tw.wr _)).sy rO gn,by rw[gn];exact aEQ _,λj b _ hb=>Tv j b hb,
     ⟨rfl,λj t b x hj=>absurd hj (qy j),λq x _ _=>rfl⟩⟩,hn,hd⟩
   .unfold unl;exact aGb List.countP_le_length uG
  .exact absurd rfl hb
end
end
