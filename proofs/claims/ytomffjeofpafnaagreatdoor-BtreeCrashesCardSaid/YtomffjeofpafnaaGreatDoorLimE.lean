import Derived.Test.YtomffjeofpafnaaGreatDoorLimD
import Derived.Orders
namespace Lim
open Go
noncomputable section
set_option linter.defProp false
section
variable {fr fr':Fr}{call:fW}{op:BinOp}{α:Type}{f:α->OR}{k:IntKind}{a:Int}
abbrev agA (p q:Nat):Bool:=Nat.beq p q
def Hd {p q:Nat}:agA p q=true↔p=q:=by rw[aDZ]
def wT (x:Option eP):List eP:=match x with|some x=>[x]|none=>[]
def Bq.args:Bq->List eP
 | .UW x| .nil x| .un _ x| .conv _ x| .Ic _ x| .iface _ x| .fieldAddr _ x| .field _ _ _ x| .extract x _| .len _ x| .clear _ x| .box _ x| .FM x| .zF _ x=>[x]
 | .pick c a b=>[c,a,b]
 | .new _ _=>[]
 | .build _ ps=>ps.map (·.2.2)
 | .buildSlice _ _ _ ps=>ps.map (·.2.2)
 | .store _ a x| .bin _ _ _ a x| .uN _ _ a x| .zO _ a x| .uM a x| .uO _ _ _ a x| .lookup _ _ _ a x| .mapEntry _ _ a x| .append _ _ _ _ _ a x| .copy _ _ a x| .rT _ a x| .delete _ a x=>[a,x]
 | .func _ f c=>f++c
 | .mkMap r=>wT r
 | .mkSlice _ _ _ l c=>[l,c]
 | .nM x lo hi| .qc _ x lo hi| .nO _ _ x lo hi=>x::(wT lo++wT hi)
 | .slice3 _ x lo hi mx=>x::hi::mx::wT lo
 | .mapUpdate _ m k x| .entryStore m k x=>[m,k,x]
 | .call _ args=>args
 | .Cu f args=>f::args
def tm :∀{l:List eP},(∀x∈l,ev fr x=ev fr' x)->KF fr l=KF fr' l:=by
 intro l
 induction l with
 |nil=>intro _;rfl
 |cons x l ih=>
  intro h;show ev fr x::KF fr l=ev fr' x::KF fr' l;rw[h x rq,ih λy hy=>h y (by simp[hy])]
def Cm :∀{l:List uq},(∀x∈l.map (·.2.2),ev fr x=ev fr' x)->Mw fr l=Mw fr' l:=by
 intro l
 induction l with
 |nil=>intro _;rfl
 |cons p l ih=>
  intro h;show(p.1,p.2.1,ev fr p.2.2)::Mw fr l=(p.1,p.2.1,ev fr' p.2.2)::Mw fr' l;rw[h p.2.2 rq,ih λy hy=>h y (by simp at hy⊢;exact .inr hy)]
def tl {x:Option eP}(h:∀y∈wT x,ev fr y=ev fr' y):Qt fr x=Qt fr' x:=by
 cases x with
 |none=>rfl
 |some x=>show some (ev fr x)=some (ev fr' x);rw[h x (by simp[wT])]
def E4 {op:Bq}{st:St}(h:∀x∈op.args,ev fr x=ev fr' x):de call op fr st=de call op fr' st:=by
 cases op<;>simp only[Bq.args,aDs,aDB,aEe,aEW,forall_eq_or_imp,forall_eq]at h<;>simp only[de]
 all_goals first
  |rfl
  |rw[h]
  |rw[h.1,h.2]
  |rw[h.1,h.2.1,h.2.2]
  |rw[tm h]
  |rw[Cm h]
  |rw[tl h]
  |rw[h.1,tm h.2]
  |rw[tm λx hx=>h x (.inl hx),tm λx hx=>h x (.inr hx)]
  |rw[h.1,tl λx hx=>h.2 x (.inl hx),tl λx hx=>h.2 x (.inr hx)]
  |rw[h.1,h.2.1,h.2.2.1,tl h.2.2.2]
def Bq.still:Bq->Bool
 | .UW _| .pick .. | .FM _| .zF .. | .nil _| .un .. | .Ic .. | .iface .. | .func .. | .nM .. | .qc .. | .slice3 .. | .nO .. | .fieldAddr .. | .field .. =>true
 | .uN .. | .zO .. | .uM .. | .uO .. | .lookup .. | .extract .. | .len .. | .rT .. | .bin .. | .build .. =>true
 | .conv c _=>(match c with| .bytesOf _=>false|_=>true)
 |_=>false
structure Still (st:St)(r:OR):Prop where
 eq:∀v st',r=.ok v st'->st'=st
section
variable {st:St}
def Still.bad:Still st .bad:=⟨λ_ _ h=>by cases h⟩
def Still.ok (v:CV):Still st (.ok v st):=⟨λ_ _ h=>by cases h;rfl⟩
def Still.bz {b:Bool}{x y:OR}(hx:Still st x)(hy:Still st y):Still st (bz b x y):=by cases b;exact hy;exact hx
def Still.opt {x:Option α}{n:OR}(hn:Still st n)(h:∀v,Still st (f v)):Still st (Option.rec (motive:=λ_=>OR) n f x):=by cases x;exact hn;exact h _
def Still.ot {n:α}(h:∀v,Still st (f v)):Still st (Lim.ot n f):=by rw[dH];exact h _
end
def Still.XV {st:St}{b:Int}:Still st (lT op k a b st):=by
 cases op<;>simp only[lT]<;>first|exact Still.ok _|exact Still.bad|(split<;>first|exact Still.ok _|exact Still.bad)
def Still.int {st:St}{j:IntKind}{b:Int}:Still st (jK op k a j b st):=by
 cases op<;>simp only[jK]<;>split<;>first|exact Still.ok _|exact Still.bad|exact Still.XV
def Still.str {st:St}{a b:List UInt8}:Still st (rK op a b st):=by
 cases op<;>simp only[rK]<;>first|exact Still.ok _|exact Still.bad|(split<;>first|exact Still.ok _|exact Still.bad)
def Still.bin {st:St}{d:Option jX}{AP:Bool}{x y:CV}:Still st (ai op d AP x y st):=by
 unfold ai
 split<;>first
  |exact Still.int
  |exact Still.str
  |exact Still.bad
  |(unfold vI;split<;>first|exact Still.bad|exact Still.bz Still.bad (Still.ok _))
  |(split
    .unfold pEq;split<;>first|exact Still.ok _|exact Still.bad
    .exact Still.bad)
def Still.of {st:St}{r:OR}(h:∀v st',r=.ok v st'->st'=st):Still st r:=⟨h⟩
def rH {op:Bq}{st:St}(h:op.still=true):Still st (de call op fr st):=by
 cases op with
 |UW x=>exact Still.ok _
 |pick c a b=>simp only[de];unfold bf;split<;>first|exact Still.bz (Still.ok _) (Still.ok _)|exact Still.bad
 |FM x=>simp only[de];unfold aB;split<;>first|(split<;>first|exact Still.opt Still.bad (λ_=>Still.ok _)|exact Still.bad)|exact Still.bad
 |zF n x=>simp only[de];unfold aK;split<;>first|(split<;>first|exact Still.opt Still.bad (λ_=>Still.ok _)|exact Still.bad)|exact Still.bad
 |nil x=>simp only[de];unfold dC;split<;>first|exact Still.ok _|exact Still.bad
 |bin op d AP x y=>exact Still.bin
 |un op x=>simp only[de];unfold kF;split<;>first|exact Still.ok _|exact Still.bad|(split<;>first|exact Still.ok _|exact Still.bad)
 |conv c x=>simp only[de];unfold dy;split<;>first|exact Still.ok _|exact Still.bad|(cases h;done)|(split<;>first|exact Still.bad|(split<;>first|exact Still.ok _|exact Still.bad))
 |Ic n x=>simp only[de];unfold oJ;split<;>first|exact Still.bz (Still.ok _) Still.bad|exact Still.bad
 |iface t x=>exact Still.ok _
 |func fn f c=>exact Still.ok _
 |nM x lo hi=>simp only[de];unfold kR;split<;>first|exact Still.bad|(split<;>first|exact Still.ok _|exact Still.bad)
 |qc size x lo hi=>
  simp only[de];unfold aN;split
  .split<;>first|exact Still.ok _|exact Still.bad
  .refine Still.bz ?_ Still.bad
   split
   .exact Still.bz (Still.ok _) (Still.bz (Still.ok _) Still.bad)
   .exact Still.bad
  .exact Still.bad
 |slice3 size x lo hi mx=>
  simp only[de];unfold iD;split
  .split
   .split
    .exact Still.bz (Still.bz (Still.ok _) (Still.ok _)) Still.bad
    .exact Still.bad
   .exact Still.bad
  .split
   .split<;>first|exact Still.ok _|exact Still.bad
   .exact Still.bad
  .exact Still.bad
 |nO n size x lo hi=>simp only[de];unfold bR;split<;>first|exact Still.bad|(split<;>first|exact Still.bad|exact Still.bz (Still.ok _) (Still.ok _))
 |fieldAddr off x=>simp only[de];unfold an;split<;>first|exact Still.ok _|exact Still.bad
 |field agg off size x=>simp only[de];unfold zz;split<;>first|exact Still.opt Still.bad (λ_=>Still.ok _)|exact Still.bad
 |uN n size x i=>simp only[de];unfold fL;split<;>first|exact Still.bz (Still.ok _) Still.bad|exact Still.bad
 |zO size x i=>simp only[de];unfold cQ;split<;>first|exact Still.bz (Still.ok _) Still.bad|exact Still.bad
 |uM x i=>simp only[de];unfold oK;split<;>first|exact Still.bad|(split<;>first|exact Still.ok _|exact Still.bad)
 |uO n size agg x i=>simp only[de];unfold vG;split<;>first|exact Still.bz (Still.opt Still.bad (λ_=>Still.ok _)) Still.bad|exact Still.bad
 |lookup d z ok x k=>
  simp only[de];unfold iE;refine Still.bz ?_ Still.bad
  split
  .unfold vE;split<;>first|exact Still.bad|(split<;>exact Still.bz (Still.ok _) (Still.ok _))
  .split
   .split<;>first|exact Still.bad|exact Still.bz (Still.ok _) (Still.ok _)
   .exact Still.bad
 |extract x i=>simp only[de];unfold av;split<;>first|exact Still.opt Still.bad (λ_=>Still.ok _)|exact Still.bad
 |len k x=>simp only[de];unfold bj;split<;>first|exact Still.ok _|exact Still.bad|exact Still.bz (Still.ok _) (Still.ok _)|(split<;>first|exact Still.ok _|exact Still.bad)
 |rT mx x y=>simp only[de];unfold BJ;split<;>first|exact Still.bz (Still.ok _) Still.bad|exact Still.bad
 |build z parts=>simp only[de];unfold bu;exact Still.opt Still.bad (λ_=>Still.ok _)
 |_=>cases h
end
section
variable {o:Oper}{e:Nat}{z:List CV}{ps:List uq}{ρ0:Ren}{jO M:St}{w0:World}{s:List CV}{t:TypeId}{ops:Array Oper}
def nT (P:Program)(o:Oper):Option (TypeId×List CV):=
 match o.op with
 | .alloc t=>(match P.info? t with|some i=>(match yL i with|some z=>some (t,z)|none=>none)|none=>none)
 |_=>none
def kS (P:Program)(o:Oper):Option (Nat×Nat×List CV×List uq):=
 match o.op with
 | .buildSlice t len parts=>(match P.underlying t with
   |some (.slice e)=>(match P.info? e with
    |some i=>bz (Nat.ble (Nat.mul len i.size) 16777216) (match yL i,sD (mP i.size) parts.toList with|some z,some ps=>some (e,len,z,ps)|_,_=>none) none
    |none=>none)
   |_=>none)
 |_=>none
def pM (P:Program)(o:Oper):Bool:=Option.rec (motive:=λ_=>Bool) false (λ_=>true) (kS P o)
def fT (b:Nat)(e len:Nat)(z:List CV)(parts:List tU)(st:St):OR:=
 Option.rec (motive:=λ_=>OR) (Option.rec .bad (λs=>.ok (.slice b 0 len len 0) ⟨st.m.put b (some (.cells s e false)),st.nx⟩) (gf parts z)) (λ_=>.bad) (st.m.g b)
open Classical in
def iW (b:Nat)(z:List CV)(t:TypeId)(st:St):OR:=match st.m.g b with|some (.cells s u _)=>if s=z/\u=t then .ok (.ptr b 0) st else .bad|_=>.bad
def gN (P:Program)(call:fW)(ops:Array Oper)(ab:Option Nat)(o:Oper)(fr:Fr)(st:St):OR:=
 match nT P o,ab with
 |none,none=>mw P call ops o fr st
 |some tz,some b=>(match fK ops fr o with|some true=>iW b tz.2 tz.1 st|some false=>.ok .undef st|none=>.bad)
 |none,some b=>(match kS P o with
  |some x=>(match fK ops fr o with|some true=>fT b x.1 x.2.1 (cJ x.2.1 x.2.2.1) (Mw fr x.2.2.2) st|some false=>.ok .undef st|none=>.bad)
  |none=>.bad)
 |_,_=>.bad
def mL (P:Program)(o:Oper):Bool:=match nT P o with|some _=>false|none=>(match kS P o with|some _=>false|none=>(match mj P o.op with|some op=>Bool.not op.still|none=>false))
def IL {P:Program}{len:Nat}(h:kS P o=some (e,len,z,ps)):mj P o.op=some (.buildSlice e len z ps):=by
 unfold kS at h;unfold mj
 split at h
 .rename_i t l parts ho;rw[ho];dsimp only
  split at h
  .rename_i e' hu;rw[hu];dsimp only
   split at h
   .rename_i i hi;rw[hi];dsimp only;rw[aO]at h⊢
    split at h
    .rename_i hb;rw[aDy hb]
     split at h
     .rename_i z' px hz hp;cases h;rw[hz,hp]
     .cases h
    .cases h
   .cases h
  .cases h
 .cases h
def wU {P:Program}(h:nT P o≠none):kS P o=none:=by
 unfold nT at h;unfold kS
 split at h
 .rename_i t ho;rw[ho]
 .exact absurd rfl h
section
variable {P:Program} {ρ:Ren} {st st':St} {w:World} {v:CV} {fr:Fr} {a:Act} {call:fW}
def bh.rE {M2:St}(h:bh ρ0 jO w0 ρ M w)(hm:∀q x,ρ q=some x->M2.m.g q=M.m.g q)(hn:M2.nx=M.nx):bh ρ0 jO w0 ρ M2 w where
 wr:=⟨λb blk r sz h1 h2=>h.wr.at' b blk r sz (by rw[<-hm b _ h2];exact h1) h2,λb b' k k' r s s' h1 h2 h3 h4=>h.wr.inj b b' k k' r s s' (by rw[<-hm b _ h3];exact h1) (by rw[<-hm b' _ h4];exact h2) h3 h4,λb x hx=>by rw[hn];exact h.wr.fresh b x hx⟩
 ext:=h.ext
 KJ:=h.KJ
 nx:=by rw[hn];exact h.nx
 origin:=λb blk r sz h1 h2=>h.origin b blk r sz (by rw[<-hm b _ h2];exact h1) h2
 kept:=h.kept
 size:=h.size
 os:=h.os
 output:=h.output
def WR.sub {s:St}(h:WR ρ M w)(hm:∀q x,ρ q=some x->s.m.g q=M.m.g q\/s.m.g q=none)(hn:s.nx=M.nx):WR ρ s w:=by
 have key:∀b blk x,s.m.g b=some blk->ρ b=some x->M.m.g b=some blk:=λb blk x h1 h2=>by
  rcases hm b x h2 with e|e
  .rw[<-e];exact h1
  .rw[e]at h1;cases h1
 exact⟨λb blk r sz h1 h2=>h.at' b blk r sz (key b blk _ h1 h2) h2,λb b' k k' r z z' h1 h2 h3 h4=>h.inj b b' k k' r z z' (key b k _ h1 h3) (key b' k' _ h2 h4) h3 h4,λb x hx=>by rw[hn];exact h.fresh b x hx⟩
def bh.frame {M' s s':St}{ρ':Ren}{w':World}(h:WR ρ M w)(hn:s.nx=M.nx)(hm:∀q x,ρ q=some x->s.m.g q=M.m.g q\/s.m.g q=none)(hA:bh ρ s w ρ' s' w')(hn':M'.nx=s'.nx)
 (yA:∀q x,ρ' q=some x->M'.m.g q=s'.m.g q\/((∃y,ρ q=some y)/\s.m.g q=none/\M'.m.g q=M.m.g q)):bh ρ M w ρ' M' w':=by
 have low:∀q blk r sz,M.m.g q=some blk->ρ q=some (r,sz)->r<w.heap.size:=λq blk r sz h1 h2=>by
  obtain⟨o,e2,_⟩:=h.at' q blk r sz h1 h2;exact(aEh.1 e2).1
 have up:∀q blk x,s.m.g q=some blk->ρ q=some x->M.m.g q=some blk:=λq blk x h1 h2=>by
  rcases hm q x h2 with e|e
  .rw[<-e];exact h1
  .rw[e]at h1;cases h1
 have mix:∀b blk r sz,s'.m.g b=some blk->ρ' b=some (r,sz)->∀q fc NQ,s.m.g q=none->M.m.g q=some fc->ρ q=some (r,NQ)->False:=by
  intro b blk r sz h1 h2 q fc NQ h3 h4 h5;rcases hA.origin b blk r sz h1 h2 with⟨b0,blk0,CL,g1,g2⟩|g
  .have:=h.inj b0 q blk0 fc r CL NQ (up b0 blk0 _ g1 g2) h4 g2 h5;subst this;rw[h3]at g1;cases g1
  .have:=low q fc r NQ h4 h5;omega
 have hor:∀b blk r sz,M'.m.g b=some blk->ρ' b=some (r,sz)->(∃b0 blk0 CL,M.m.g b0=some blk0/\ρ b0=some (r,CL))\/w.heap.size<=r:=λb blk r sz h1 h2=>by
  rcases yA b _ h2 with e|⟨⟨y,e2⟩,e3,e4⟩
  .rcases hA.origin b blk r sz aaX h2 with⟨b0,blk0,CL,g1,g2⟩|g
   .exact .inl ⟨b0,blk0,CL,up b0 blk0 _ g1 g2,g2⟩
   .exact .inr g
  .have:=hA.ext b y e2;rw[h2]at this;cases this;exact .inl ⟨b,blk,sz,abx,e2⟩
 have vY:∀r:Nat,r<w.heap.size->(∀b blk sz,M.m.g b=some blk->ρ b≠some (r,sz))->w'.heap[r]?=w.heap[r]?:=λr hr hk=>hA.kept r hr λb blk sz g1 g2=>hk b blk sz (up b blk _ g1 g2) g2;refine⟨⟨λb blk r sz h1 h2=>?_,λb b' k k' r z z' h1 h2 h3 h4=>?_,λb x hx=>by rw[hn'];exact hA.wr.fresh b x hx⟩,hA.ext,λq hq hr=>hA.KJ q (by rw[hn];exact hq) hr,by rw[hn',<-hn];exact hA.nx,λb blk r sz h1 h2=>?_,λr hr hk=>hA.kept r hr λb blk sz g1 g2=>hk b blk sz (up b blk _ g1 g2) g2,hA.size,hA.os,hA.output⟩
 .rcases yA b _ h2 with e|⟨⟨y,e2⟩,e3,e4⟩
  .exact hA.wr.at' b blk r sz aaX h2
  .have:=hA.ext b y e2;rw[h2]at this;cases this;rw[e4]at h1;obtain⟨o,g1,g2⟩:=h.at' b blk r sz h1 e2;refine⟨o,?_,g2.mono hA.ext⟩;rw[hA.kept r (low b blk r sz h1 e2)]
   .exact g1
   .intro b' fc NQ g3 g4;have:=h.inj b' b fc blk r NQ sz (up b' fc _ g3 g4) h1 g4 e2;subst this;rw[e3]at g3;cases g3
 .rcases yA b _ h3 with e|⟨⟨y,e2⟩,e3,e4⟩
  .rcases yA b' _ h4 with f|⟨⟨y',f2⟩,f3,f4⟩
   .exact hA.wr.inj b b' k k' r z z' aaX (by rw[<-f];exact h2) h3 h4
   .have:=hA.ext b' y' f2;rw[h4]at this;cases this;exact absurd (mix b k r z aaX h3 b' k' z' f3 (by rw[<-f4];exact h2) f2) id
  .have:=hA.ext b y e2;rw[h3]at this;cases this;rcases yA b' _ h4 with f|⟨⟨y',f2⟩,f3,f4⟩
   .exact absurd (mix b' k' r z' (by rw[<-f];exact h2) h4 b k z e3 abx e2) id
   .have:=hA.ext b' y' f2;rw[h4]at this;cases this;exact h.inj b b' k k' r z z' abx (by rw[<-f4];exact h2) e2 f2
 .rcases yA b _ h2 with e|⟨⟨y,e2⟩,e3,e4⟩
  .rcases hA.origin b blk r sz aaX h2 with⟨b0,blk0,CL,g1,g2⟩|g
   .exact .inl ⟨b0,blk0,CL,up b0 blk0 _ g1 g2,g2⟩
   .exact .inr g
  .have:=hA.ext b y e2;rw[h2]at this;cases this;exact .inl ⟨b,blk,sz,abx,e2⟩
def bh.agy {b:Nat}{g:Bool}{l:List Value}(hA:bh ρ0 jO w0 ρ M w)(hm:M.m.g b=some (.cells s t g))(hb:ρ b=none)(hlt:b<M.nx)(hl:eF ρ s l)(hN:jO.nx<=b):
 bh ρ0 jO w0 (ρ.set b (w.heap.size,l.length)) M {w with heap:=w.heap.push (.cells l.toArray t)}:=by
 have hw:=hA.wr
 have hle:ρ.le (ρ.set b (w.heap.size,l.length)):=λq x hx=>by
  rw[Ren.du _ _ _ _ (λe=>by subst e;rw[hb]at hx;cases hx)];exact hx
 have Pv:∀q blk r s,M.m.g q=some blk->ρ q=some (r,s)->r<w.heap.size:=λq blk r s h1 h2=>by
  obtain⟨o,e2,_⟩:=hw.at' q blk r s h1 h2;exact(aEh.1 e2).1
 have ug:WR (ρ.set b (w.heap.size,l.length)) M {w with heap:=w.heap.push (.cells l.toArray t)}:=by
  refine⟨λq blk r sz h1 h2=>?_,λq q' blk fc r sz NQ h1 h2 h3 h4=>?_,λq x hx=>?_⟩
  .by_cases e:q=b
   .subst e;rw[Ren.eA]at h2;cases h2;rw[hm]at h1;cases h1;have hlen:s.length=l.length:=by rw[hl.len]
    refine⟨.cells l.toArray t,rq,?_⟩;have RL:=BR.cells (ρ:=ρ.set q (w.heap.size,l.length)) s t g l.toArray 0 0 (by simp[hlen]) (by rw[hlen];simpa using hl.mono hle) pX (by intros;omega)
    simpa using RL
   .rw[Ren.du _ _ _ _ e]at h2;obtain⟨o,e2,e3⟩:=hw.at' q blk r sz h1 h2;refine⟨o,?_,e3.mono hle⟩;have:=(aEh.1 e2).1;show(w.heap.push _)[r]?=_;rw[aFO,aDv pX];exact e2
  .by_cases e:q=b
   .by_cases e':q'=b
    .rw[e,e']
    .rw[e,Ren.eA]at h3;cases h3;rw[Ren.du _ _ _ _ e']at h4;have:=Pv q' fc _ _ h2 h4;omega
   .by_cases e':q'=b
    .rw[e',Ren.eA]at h4;cases h4;rw[Ren.du _ _ _ _ e]at h3;have:=Pv q blk _ _ h1 h3;omega
    .rw[Ren.du _ _ _ _ e]at h3;rw[Ren.du _ _ _ _ e']at h4;exact hw.inj q q' blk fc r sz NQ h1 h2 h3 h4
  .by_cases e:q=b
   .subst e;exact hlt
   .rw[Ren.du _ _ _ _ e]at hx;exact hw.fresh q x hx
 refine⟨ug,λq x hx=>hle q x (hA.ext q x hx),λq hq hn=>?_,hA.nx,λq blk r sz h1 h2=>?_,λr hr hn=>?_,?_,hA.os,hA.output⟩
 .rw[Ren.du _ _ _ _ (λe=>by subst e;omega)];exact hA.KJ q hq hn
 .by_cases e:q=b
  .subst e;rw[Ren.eA]at h2;cases h2;exact .inr hA.size
  .rw[Ren.du _ _ _ _ e]at h2;exact hA.origin q blk r sz h1 h2
 .show(w.heap.push _)[r]?=_;have:=hA.size;rw[aFO,aDv pX];exact hA.kept r hr hn
 .show w0.heap.size<=(w.heap.push _).size;have:=hA.size;rw[Array.size_push];omega
def LQ (h:nT P o=some (t,z)):∃l:List Value,(∀ρ,eF ρ z l)/\
 ∀(f:Operand->Value) (w:World),(execOp f o).run P w=.ok (.value (.pointer (some ⟨w.heap.size,0,none⟩))) {w with heap:=w.heap.push (.cells l.toArray t)}:=by
 unfold nT at h
 split at h
 .rename_i t' ho
  split at h
  .rename_i i hi
   split at h
   .rename_i z' hz;cases h;obtain⟨zv,z1,z2,z3⟩:=jF hz;refine⟨zv.cells.toList,z3,λf w=>?_⟩;unfold execOp;rw[ho];simp[Instr.alloc,zeroValue,typeInfo,hi,z1,newVar]
    rfl
   .cases h
  .cases h
 .cases h
def Mu {i:TypeInfo}{len:Nat}{z':Value}{parts:List tU}{parts':Array (Nat×Value)}(hf:gf parts (cJ len z)=some s)(hsz:z'.cells.size=i.size)(wF:∀ρ,eF ρ z z'.cells.toList)(hp:qI ρ (mP i.size) parts parts'.toList):
 ∃kL,Instr.fill (mP i.size) ((Array.range (len*i.size)).map (z'.cells[·%z'.cells.size]!)) parts'.toList=some kL/\eF ρ s kL.toList:=by
 have jB:(List.replicate len z'.cells.toList).flatten=((Array.range (len*i.size)).map (z'.cells[·%z'.cells.size]!)).toList:=by
  rw[<-hsz,aEZ,aFT];exact(pB z'.cells len).symm
 have hvz:eF ρ (cJ len z) ((Array.range (len*i.size)).map (z'.cells[·%z'.cells.size]!)).toList:=by
  rw[<-jB];exact(wF ρ).flatten len
 exact qG hp hf hvz
def OX {len:Nat}(h:kS P o=some (e,len,z,ps))(hf:FR ρ fr a.tmps)(hs:gf (Mw fr ps) (cJ len z)=some s):
 ∃l:List Value,eF ρ s l/\∀w,(execOp a.eval o).run P w=.ok (.value (.slice (some ⟨w.heap.size,0,none⟩) len len)) {w with heap:=w.heap.push (.cells l.toArray e)}:=by
 unfold kS at h
 split at h
 .rename_i t l parts ho
  split at h
  .rename_i e' hu
   split at h
   .rename_i i hi;simp only[aO,aDW]at h
    split at h
    .rename_i hle
     split at h
     .rename_i z' px hz hp;cases h;obtain⟨zv,z1,z2,z3⟩:=jF hz;have Vo:=nv hp hf;obtain⟨kL,f1,f2⟩:=Mu (parts':=parts.map λp=>(p.1,a.eval p.2)) hs z2 z3 acg;refine⟨kL.toList,f2,λw=>?_⟩;have hn:¬(len*i.size>2^24):=by have YM:len*i.size<=16777216:=hle;show¬(len*i.size>16777216);omega
      have h1:∀c:Array Value,(newRow e c).run P w=.ok ⟨w.heap.size,0,none⟩ {w with heap:=w.heap.push (.cells c e)}:=λc=>rfl
      have he:execOp a.eval o=(do let v<-Instr.buildSlice t len (parts.map λp=>(p.1,a.eval p.2));pure (.value v)):=by
       unfold execOp;rw[ho]
      have IZ:(λk=>some (k*i.size,i.size))=mP i.size:=rfl;rw[he,aEU];simp only[Instr.buildSlice,Sem.run_bind,aDC hu,Result.andThen_ok,Go.sizeOf,typeInfo,run_program,hi,Sem.run_pure,aDv hn]
      by_cases h0:len*i.size=0
      .have hz0:((Array.range (len*i.size)).map (zv.cells[·%zv.cells.size]!))=((Array.range (len*i.size)).map ((#[]:Array Value)[·%(#[]:Array Value).size]!)):=by
        rw[h0,Array.range_zero'];simp
       rw[hz0]at f1;rw[aDy h0]
       show Result.andThen (Sem.run P (do
        let some cells:=Instr.fill (mP i.size) ((Array.range (len*i.size)).map ((#[]:Array Value)[·%(#[]:Array Value).size]!)) (parts.map λp=>(p.1,a.eval p.2)).toList|stuck "buildSlice: a part of the wrong size"
        pure (Value.slice (some (<-newRow e cells)) len len)) w) _=_
       rw[f1];simp only[Sem.run_bind,h1,Result.andThen_ok,Sem.run_pure]
      .rw[aDv h0];simp only[zeroValue,typeInfo,Sem.run_bind,run_program,Result.andThen_ok,hi,z1,Sem.run_pure];rw[IZ,f1];simp only[Sem.run_bind,h1,Result.andThen_ok,Sem.run_pure]
     .cases h
    .cases h
   .cases h
  .cases h
 .cases h
def AU {b:Nat}{tz:TypeId×List CV}(hnf:nT P o=some tz)(h:gN P call ops (some b) o fr st=.ok v st')(hm:M.m.g b=st.m.g b)(hA:bh ρ0 jO w0 ρ M w)(hf:FR ρ fr a.tmps)(hb:ρ b=none)(hlt:b<M.nx)(hN:jO.nx<=b)
 {next:Act->World->Prop} {Q:Exit->Act->World->Prop} (hn:∀v' w' ρ',VR ρ' v v'->bh ρ0 jO w0 ρ' M w'->ρ.le ρ'->(∀q,q≠b->ρ' q=ρ q)->next (a.put o.dst v') w'):
 if Region.wanted o (yielded ops a.tmps)then o.wp P a w next Q else next (a.put o.dst undef) w:=by
 obtain⟨t,z⟩:=tz;unfold gN at h;rw[hnf]at h;dsimp only at h
 split at h
 .rename_i wG;rw[aDy (iR wG hf)];unfold iW at h
  split at h
  .rename_i s u g uj
   split at h
   .rename_i hh;obtain⟨rfl,rfl⟩:=hh;cases h;obtain⟨l,hl,jM⟩:=LQ hnf;unfold Oper.wp;rw[jM];exact hn _ _ _ (.ptr b 0 _ _ (Ren.eA ρ b _)) (hA.agy (by rw[hm];exact uj) hb hlt (hl ρ) hN) (λq x hx=>by rw[Ren.du _ _ _ _ (λe=>by subst e;rw[hb]at hx;cases hx)];exact hx) (λq hq=>Ren.du _ _ _ _ hq)
   .cases h
  .cases h
 .rename_i wG;rw[aDv (by rw[iR wG hf];simp)];cases h;exact hn _ w ρ .undef hA (λ_ _ h=>h) λ_ _=>rfl
 .cases h
def vt {b:Nat}{x:Nat×Nat×List CV×List uq}(hl:kS P o=some x)(h:gN P call ops (some b) o fr st=.ok v st'):
 (fK ops fr o=some false/\v=.undef/\st'=st)\/
 (fK ops fr o=some true/\∃s,gf (Mw fr x.2.2.2) (cJ x.2.1 x.2.2.1)=some s/\st.m.g b=none/\v=.slice b 0 x.2.1 x.2.1 0/\st'=⟨st.m.put b (some (.cells s x.1 false)),st.nx⟩):=by
 have hn:nT P o=none:=by
  cases hh:nT P o with
  |none=>rfl
  |some tz=>have:=wU (P:=P) (o:=o) (by rw[hh];simp);rw[hl]at this;cases this
 unfold gN at h;rw[hn,hl]at h;dsimp only at h
 split at h
 .rename_i wG;unfold fT at h;cases hg:st.m.g b with
  |some _=>rw[hg]at h;cases h
  |none=>
   rw[hg]at h;cases hf:gf (Mw fr x.2.2.2) (cJ x.2.1 x.2.2.1)with
   |none=>rw[hf]at h;cases h
   |some s=>
    rw[hf]at h;dsimp only at h;cases h;exact .inr ⟨wG,s,rfl,rfl,rfl,rfl⟩
 .rename_i wG;cases h;exact .inl ⟨wG,rfl,rfl⟩
 .cases h
def rD {ab:Option Nat}(hn:nT P o=none)(hl:kS P o=none)(h:gN P call ops ab o fr st=.ok v st'):ab=none/\mw P call ops o fr st=.ok v st':=by
 unfold gN at h;rw[hn]at h;cases ab with
 |none=>exact⟨rfl,h⟩
 |some b=>dsimp only at h;rw[hl]at h;cases h
def AR {fr':Fr}(h:∀g b d,o.guard=some (g,b)->(ops[g]?).bind (·.dst)=some d->fC fr (d)=fC fr' (d)):fK ops fr o=fK ops fr' o:=by
 unfold fK;cases hg:o.guard with
 |none=>rfl
 |some gb=>
  obtain⟨g,b⟩:=gb;dsimp only;cases hd:(ops[g]?).bind (·.dst)with
  |none=>rfl
  |some d=>dsimp only;rw[h g b d hg hd]
end
def Ir {β:Type}(P:Program)(l:List Oper):St->(List (Option Nat)->St->β)->β:=
 List.rec (motive:=λ_=>St->(List (Option Nat)->St->β)->β) (λst k=>k [] st)
  (λo _ ih st k=>Option.rec (Bool.rec (motive:=λ_=>β) (ih st λas st=>k (none::as) st) (ot (st.nx+1) λnx=>ih ⟨st.m,nx⟩ λas ux=>k (some st.nx::as) ux) (pM P o))
   (λtz=>ot (st.nx+1) λnx=>ot ⟨st.m.put st.nx (some (.cells tz.2 tz.1 false)),nx⟩ λgF=>ih gF λas ux=>k (some st.nx::as) ux) (nT P o)) l
structure uo (P:Program)(l:List Oper)(st:St)(as:List (Option Nat))(gF:St):Prop where
 len:as.length=l.length
 nx:st.nx<=gF.nx
 range:∀(i:Nat) (b:Nat),as[i]?=some (some b)->st.nx<=b/\b<gF.nx
 uniq:∀(i j:Nat) (b:Nat),as[i]?=some (some b)->as[j]?=some (some b)->i=j
 after:∀ρ w,WR ρ st w->bh ρ st w ρ gF w
 olds:∀(i:Nat) (o:Oper),l[i]?=some o->nT P o=none->pM P o=false->as[i]?=some none
 news:∀(i:Nat) (o:Oper),l[i]?=some o->nT P o≠none\/pM P o=true->∃b,as[i]?=some (some b)
def bh.acs {ρ:Ren}{st:St}{w:World}(h:WR ρ st w)(blk:qN):bh ρ st w ρ (st.new blk) w:=by
 have hn:ρ st.nx=none:=by
  cases hh:ρ st.nx with
  |none=>rfl
  |some x=>have:=h.fresh _ x hh;omega
 have gQ:∀b fc x,(st.new blk).m.g b=some fc->ρ b=some x->st.m.g b=some fc:=λb fc x h1 h2=>by
  have hb:b≠st.nx:=λe=>by rw[e,hn]at h2;cases h2
  simpa[St.new,PT.dn _ _ _ _ hb]using h1
 refine⟨⟨λb fc r sz h1 h2=>h.at' b fc r sz (gQ b fc _ h1 h2) h2,λb b' k k' r s s' h1 h2 h3 h4=>h.inj b b' k k' r s s' (gQ b k _ h1 h3) (gQ b' k' _ h2 h4) h3 h4,λb x hx=>?_⟩,λ_ _ h=>h,λ_ _ h=>h,?_,
  λb fc r sz h1 h2=>.inl ⟨b,fc,sz,gQ b fc _ h1 h2,h2⟩,λ_ _ _=>rfl,aDt _,rfl,rfl⟩
 .show b<(st.nx+1);have:=h.fresh b x hx;omega
 .show st.nx<=(st.nx+1);omega
def bh.skip {ρ:Ren}{st:St}{w:World}(h:WR ρ st w):bh ρ st w ρ ⟨st.m,(st.nx+1)⟩ w:=
 ⟨⟨h.at',h.inj,λb x hx=>by show b<(st.nx+1);have:=h.fresh b x hx;omega⟩,λ_ _ h=>h,λ_ _ h=>h,by show st.nx<=(st.nx+1);omega,
   λb fc r sz h1 h2=>.inl ⟨b,fc,sz,h1,h2⟩,λ_ _ _=>rfl,aDt _,rfl,rfl⟩
def uo.cons {P:Program}{l:List Oper}{st ux:St}{as:List (Option Nat)}(hg:nT P o≠none\/pM P o=true){mem:PT qN}(h1:uo P l ⟨mem,(st.nx+1)⟩ as ux)(ha:∀ρ w,WR ρ st w->bh ρ st w ρ ⟨mem,(st.nx+1)⟩ w):uo P (o::l) st (some st.nx::as) ux:=by
 have Bd:((st.nx+1))=st.nx+1:=rfl
 have hr:∀(i:Nat) (b:Nat),as[i]?=some (some b)->st.nx+1<=b/\b<ux.nx:=λi b h=>by
  have:=h1.range i b h;have e:(St.mk mem (st.nx+1)).nx=st.nx+1:=Bd;omega
 have hx:st.nx+1<=ux.nx:=by have:=h1.nx;have e:(St.mk mem (st.nx+1)).nx=st.nx+1:=Bd;omega
 refine⟨by simp[h1.len],pX,λi b h=>?_,λi j b h h'=>?_,λρ w hw=>(ha ρ w hw).trans (h1.after ρ w (ha ρ w hw).wr),λi o' h hh hb=>?_,λi o' h hh=>?_⟩
 .cases i with
  |zero=>simp at h;subst h;omega
  |succ i=>have:=hr i b R5;omega
 .cases i with
  |zero=>
   cases j with
   |zero=>rfl
   |succ j=>simp at h;subst h;have:=hr j _ (by simpa using h');omega
  |succ i=>cases j with
   |zero=>simp at h';subst h';have:=hr i _ R5;omega
   |succ j=>rw[h1.uniq i j b R5 (by simpa using h')]
 .cases i with
  |zero=>simp at h;subst h;rcases hg with hg|hg;exact absurd hh hg;rw[hb]at hg;cases hg
  |succ i=>exact h1.olds i o' R5 hh hb
 .cases i with
  |zero=>exact⟨_,rfl⟩
  |succ i=>exact h1.news i o' R5 hh
def JO {P:Program}:∀(l:List Oper) (st:St),∃as gF,uo P l st as gF/\∀(β:Type) (k:List (Option Nat)->St->β),Ir P l st k=k as gF:=by
 intro l
 induction l with
 |nil=>intro st;exact⟨[],st,⟨rfl,aDt _,λi b h=>Wz,λi j b h=>Wz,λρ w h=>bh.refl h,λi o h=>Wz,λi o h=>Wz⟩,λβ k=>rfl⟩
 |cons o l ih=>
  intro st
  have e:∀(β:Type) (k:List (Option Nat)->St->β),Ir P (o::l) st k=Option.rec (Bool.rec (motive:=λ_=>β) (Ir P l st λas st=>k (none::as) st) (ot (st.nx+1) λnx=>Ir P l ⟨st.m,nx⟩ λas ux=>k (some st.nx::as) ux) (pM P o))
   (λtz=>ot (st.nx+1) λnx=>ot ⟨st.m.put st.nx (some (.cells tz.2 tz.1 false)),nx⟩ λgF=>Ir P l gF λas ux=>k (some st.nx::as) ux) (nT P o):=λβ k=>rfl
  cases hn:nT P o with
  |none=>
   cases hb:pM P o with
   |false=>
    obtain⟨as,gF,h1,h2⟩:=ih st;refine⟨none::as,gF,⟨by simp[h1.len],h1.nx,λi b h=>?_,λi j b h h'=>?_,h1.after,λi o h hh VO=>by cases i with|zero=>rfl|succ i=>exact h1.olds i o R5 hh VO,λi o h hh=>by cases i with|zero=>(simp at h;subst h;rcases hh with hh|hh;exact absurd hn hh;rw[hb]at hh;cases hh)|succ i=>exact h1.news i o R5 hh⟩,λβ k=>by rw[e,hn,hb];exact h2 _ _⟩
    .cases i with
     |zero=>simp at h
     |succ i=>exact h1.range i b R5
    .cases i with
     |zero=>simp at h
     |succ i=>cases j with
      |zero=>simp at h'
      |succ j=>rw[h1.uniq i j b R5 (by simpa using h')]
   |true=>
    obtain⟨as,ux,h1,h2⟩:=ih ⟨st.m,(st.nx+1)⟩;exact⟨some st.nx::as,ux,h1.cons (.inr hb) λρ w hw=>bh.skip hw,λβ k=>by rw[e,hn,hb];show ot (st.nx+1) _=_;rw[dH];exact h2 _ _⟩
  |some tz=>
   obtain⟨as,ux,h1,h2⟩:=ih (st.new (.cells tz.2 tz.1 false))
   exact⟨some st.nx::as,ux,uo.cons (mem:=st.m.put st.nx (some (.cells tz.2 tz.1 false))) (.inl (by rw[hn];simp)) h1 λρ w hw=>bh.acs hw (.cells tz.2 tz.1 false),λβ k=>by
    rw[e,hn];show ot (st.nx+1) _=_;rw[dH];rw[dH];exact h2 _ _⟩
end
section
variable {α:Type}{l:List Oper}{p:α->Bool}{o:Oper}{fr fr':Fr}{st:St}{ab:Option Nat}{v:CV}{k:Nat}
def Ej {α:Type}(l:List α)(p:α->Bool):Bool:=List.rec false (λx _ r=>Bool.or (p x) r) l
def Bn {α:Type}(l:List α)(p:α->Bool):Bool:=List.rec true (λx _ r=>Bool.and (p x) r) l
def Au {l:List α}:Ej l p=true↔∃x∈l,p x=true:=by
 induction l with
 |nil=>simp[Ej]
 |cons x l ih=>
  have e:Ej (x::l) p=Bool.or (p x) (Ej l p):=rfl;rw[e];simp only[aEu,ih,aDs,exists_eq_or_imp]
def oh {l:List α}:Bn l p=true↔∀x∈l,p x=true:=by
 induction l with
 |nil=>simp[Bn]
 |cons x l ih=>
  have e:Bn (x::l) p=Bool.and (p x) (Bn l p):=rfl;rw[e];simp only[aDK,ih,aDs,forall_eq_or_imp]
def L9 {α:Type}(l:List α):Nat->List (Nat×α):=List.rec (motive:=λ_=>Nat->List (Nat×α)) (λ_=>[]) (λx _ ih i=>(i,x)::ih (Nat.succ i)) l
def vW :∀{l:List α} {i:Nat} {k:Nat} {x:α},l[k]?=some x->(i+k,x)∈L9 l i:=by
 intro l
 induction l with
 |nil=>intro i k x h;simp at h
 |cons y l ih=>
  intro i k x h;have e:L9 (y::l) i=(i,y)::L9 l (i+1):=rfl;rw[e];cases k with
  |zero=>simp at h;subst h;simp
  |succ k=>
   simp at h;have:=ih (i:=i+1) h;rw[show i+(k+1)=i+1+k from pX];exact aDS _ this
def qv (P:Program)(ops:Array Oper)(o:Oper):List eP:=
 (match mj P o.op with|some op=>op.args|none=>[])++
 (match o.guard with|some (g,_)=>(match (ops[g]?).bind (·.dst)with|some d=>[eP.tmp (d)]|none=>[])|none=>[])
def fJ (ops:Array Oper)(f:Nat):Nat->Nat->Bool:=
 Nat.rec (motive:=λ_=>Nat->Nat->Bool) (λ_ _=>false) (λ_ ih i j=>match ops[i]? with
  |none=>false
  |some o=>Ej o.after.toList λe=>Bool.and (Region.binds .any e) (ot e.on λk=>Bool.or (Nat.beq k j) (ih k j))) f
section
variable {P:Program} {call:fW} {ops:Array Oper}
def EP (h:∀x∈qv P ops o,ev fr x=ev fr' x):mw P call ops o fr st=mw P call ops o fr' st:=by
 have hw:fK ops fr o=fK ops fr' o:=by
  unfold fK;unfold qv at h;cases hg:o.guard with
  |none=>rfl
  |some gb=>
   obtain⟨g,b⟩:=gb;dsimp only;rw[hg]at h;dsimp only at h;cases hd:(ops[g]?).bind (·.dst)with
   |none=>rfl
   |some d=>
    rw[hd]at h;have h1:fC fr (d)=fC fr' (d):=h (.tmp (d)) rq;dsimp only;rw[h1]
 unfold mw;rw[hw]
 split
 .cases ho:mj P o.op with
  |none=>rfl
  |some op=>
   dsimp only;refine E4 λx hx=>h x ?_;unfold qv;rw[ho];simp[hx]
 .rfl
 .rfl
def oD (h:∀x∈qv P ops o,ev fr x=ev fr' x):gN P call ops ab o fr st=gN P call ops ab o fr' st:=by
 have hw:=AR λg b d hg hd=>
  h (.tmp (d)) (by unfold qv;rw[hg];dsimp only;rw[hd];simp)
 unfold gN;rw[EP h,hw];cases nT P o with
 |some tz=>cases ab<;>rfl
 |none=>
  cases ab with
  |none=>rfl
  |some b=>
   dsimp only;cases hl:kS P o with
   |none=>rfl
   |some x=>
    obtain⟨e,len,z,ps⟩:=x;dsimp only;have hc:=IL hl;rw[Cm (fr:=fr) (fr':=fr')];intro y hy;refine h y ?_;unfold qv;rw[hc];exact aEV _ hy
def O6 (h:pM P o=false):kS P o=none:=by
 unfold pM at h;cases hl:kS P o with
 |none=>rfl
 |some x=>rw[hl]at h;cases h
def zM (h:pM P o=true):∃x,kS P o=some x:=by
 unfold pM at h;cases hl:kS P o with
 |none=>rw[hl]at h;cases h
 |some x=>exact⟨x,rfl⟩
def Tk (h:pM P o=true):nT P o=none:=by
 obtain⟨x,hx⟩:=zM h;cases hn:nT P o with
 |none=>rfl
 |some tz=>have:=wU (P:=P) (o:=o) (by rw[hn];simp);rw[hx]at this;cases this
def DJ (h:pM P o=true):mL P o=false:=by
 obtain⟨x,hx⟩:=zM h;unfold mL;rw[Tk h,hx]
def rB {st':St}(hw:mL P o=false)(hb:pM P o=false)(h:gN P call ops ab o fr st=.ok v st'):st'=st:=by
 have hl:=O6 hb;unfold gN at h;unfold mL at hw;rw[hl]at hw h
 split at h
 .rename_i hn;rw[hn]at hw;dsimp only at hw;unfold mw at h
  split at h
  .split at h
   .rename_i op DN;rw[DN]at hw;exact(rH (by simpa using hw)).eq _ _ h
   .cases h
  .cases h;rfl
  .cases h
 .split at h
  .unfold iW at h
   split at h
   .split at h
    .cases h;rfl
    .cases h
   .cases h
  .cases h;rfl
  .cases h
 .cases h
 .cases h
def pT (listed:Array Bool)(i:Nat):Prop:=listed.getD i false=true
def UI (ops:Array Oper)(listed:Array Bool)(i:Nat):Prop:=∀o,ops[i]?=some o->∀e∈o.after,Region.binds .any e=true->pT listed e.on
def Av {listed:Array Bool}(qC:∀i,pT listed i->UI ops listed i):∀(f i j:Nat),fJ ops f i j=true->UI ops listed i->pT listed j:=by
 intro f
 induction f with
 |zero=>intro i j h;cases h
 |succ f ih=>
  intro i j h hd
  have e:fJ ops (f+1) i j=(match ops[i]? with
   |none=>false
   |some o=>Ej o.after.toList λe=>Bool.and (Region.binds .any e) (ot e.on λk=>Bool.or (Nat.beq k j) (fJ ops f k j))):=rfl
  rw[e]at h
  split at h
  .cases h
  .rename_i o ho;rw[Au]at h;obtain⟨x,hx,h⟩:=h;simp only[dH,aDK,aEu,aDZ]at h;have hl:=hd o ho x WL h.1;rcases h.2 with h2|h2
   .rw[<-h2];exact hl
   .exact ih _ _ h2 (qC _ hl)
end
structure TR where
 i:Nat
 ab:Option Nat
 o:Oper
 w:Bool
 c:Nat
 fr:Fr
 v:CV
 s:St
 s1:St
def Fh (n:Nat)(dst:Option Tmp)(v:CV)(fr:Fr):Option Fr:=
 match dst with
 |none=>some fr
 |some d=>bz (Nat.ble (Nat.succ d) n) (ot (fr.put (d) (some v)) some) none
def BE {n:Nat}{dst:Option Tmp}(h:Fh n dst v fr=some fr'):(dst=none/\fr'=fr)\/∃d,dst=some d/\d<n/\fr'=fr.put (d) (some v):=by
 unfold Fh at h
 split at h
 .cases h;exact .inl ⟨rfl,rfl⟩
 .rename_i d;simp only[aO,aDW,aFX,dH]at h
  split at h
  .rename_i hd;cases h;exact .inr ⟨d,rfl,hd,rfl⟩
  .cases h
abbrev Z2:=List TR×List St×Fr×St
def qQ (P:Program)(call:fW)(n:Nat)(ops:Array Oper)(l:List (Oper×Option Nat)):Nat->Nat->Fr->St->Option Z2:=
 List.rec (motive:=λ_=>Nat->Nat->Fr->St->Option Z2) (λ_ _ fr st=>some ([],[],fr,st)) (λo _ ih i c fr st=>
  OR.rec (λv st'=>ot v λv=>ot st' λst'=>
   Option.rec none (λfr'=>bz (mL P o.1)
    (Option.rec none (λr=>some (⟨i,o.2,o.1,true,c,fr,v,st,st'⟩::r.1,st::r.2.1,r.2.2)) (ih (Nat.succ i) (Nat.succ c) fr' st'))
    (Option.rec none (λr=>some (⟨i,o.2,o.1,false,c,fr,v,st,st'⟩::r.1,r.2.1,r.2.2)) (ih (Nat.succ i) c fr' st'))) (Fh n o.1.dst v fr)) none (gN P call ops o.2 o.1 fr st)) l
def lq (eQ:List TR)(lZ:St)(k:Nat):St:=match eQ[k]? with|some t=>t.s|none=>lZ
def FrP (l:List Oper)(eQ:List TR)(L:Nat->Prop)(Ag f:Fr):Prop:=
 (∀j o d t,L j->l[j]?=some o->o.dst=some d->eQ[j]?=some t->fC f (d)=t.v)/\
 (∀p,(∀j o d,L j->l[j]?=some o->o.dst=some d->d≠p)->fC f p=fC Ag p)
def KT (l:List Oper):Prop:=∀(j k:Nat) (a b:Oper) (d:Tmp),j<k->l[j]?=some a->l[k]?=some b->a.dst=some d->b.dst≠some d
def ja (P:Program)(l:List Oper)(k:Nat):Nat:=(l.take k).countP (mL P)
section
variable {P:Program} {call:fW} {n:Nat} {ops:Array Oper}
def oe (h:l[k]?=some o):ja P l (k+1)=ja P l k+(if mL P o then 1 else 0):=by
 unfold ja;rw[List.take_add_one,h];simp[List.countP_append,List.countP_cons]
def wm :ja P (o::l) (k+1)=(if mL P o then 1 else 0)+ja P l k:=by
 unfold ja;rw[List.take_succ_cons,List.countP_cons];omega
def mI {j:Nat}(h:j<=k):ja P l j<=ja P l k:=by
 unfold ja;have:l.take j=(l.take k).take j:=by rw[aEH,aEi h]
 rw[this];exact(List.take_sublist _ _).countP_le
def wk :∀(k:Nat),k<=l.length->∀c,c<ja P l k->∃j o,j<k/\l[j]?=some o/\mL P o=true/\ja P l j=c:=by
 intro k
 induction k with
 |zero=>intro _ c h;simp[ja]at h
 |succ k ih=>
  intro hk c h;have zV:l[k]?=some l[k]:=rq
  rw[oe zV]at h
  by_cases hc:c<ja P l k
  .obtain⟨j,o,h1,h2,h3,h4⟩:=ih pX c hc;exact⟨j,o,pX,h2,h3,h4⟩
  .have hw:mL P l[k]=true:=by
    cases hh:mL P l[k]with
    |true=>rfl
    |false=>rw[hh]at h;simp at h;omega
   rw[hw]at h;simp only[aDQ]at h;exact⟨k,_,pX,zV,hw,pX⟩
structure Hn (L:List (Oper×Option Nat))(P:Program)(call:fW)(n:Nat)(ops:Array Oper)(i c:Nat)(fr:Fr)(st:St)(eQ:List TR)(ch:List St)(GL:Fr)(lZ:St):Prop where
 len:eQ.length=L.length
 at':∀k o ab,L[k]?=some (o,ab)->∃t,eQ[k]?=some t/\t.i=i+k/\t.ab=ab/\t.o=o/\t.w=mL P o/\t.c=c+ja P (L.map (·.1)) k/\(∀d,o.dst=some d->d<n)/\FrP (L.map (·.1)) eQ (·<k) fr t.fr/\
  gN P call ops ab o t.fr t.s=.ok t.v t.s1/\(mL P o=true->ch[ja P (L.map (·.1)) k]?=some t.s)
 fst:lq eQ lZ 0=st
 ql:∀k t,eQ[k]?=some t->t.s1=lq eQ lZ (k+1)
 fin:FrP (L.map (·.1)) eQ (·<L.length) fr GL
 chl:ch.length=ja P (L.map (·.1)) L.length
def FrP.cons {eQ:List TR}{t0:TR}{Ag mg f:Fr}(hap:KT (o::l))(h:FrP l eQ (·<k) mg f)(Gf:(o.dst=none/\mg=Ag)\/∃d,o.dst=some d/\d<n/\mg=Ag.put (d) (some t0.v)):
 FrP (o::l) (t0::eQ) (·<k+1) Ag f:=by
 constructor
 .intro j oj d t hj h1 h2 h3;cases j with
  |zero=>
   simp at h1 h3;subst h1;subst h3;rcases Gf with⟨e,_⟩|⟨d',e,_,rfl⟩
   .rw[h2]at e;cases e
   .rw[h2]at e;cases e;rw[h.2 (d),mq];intro j oj d' hj h4 h5 e;subst e;exact hap 0 (j+1) o oj d' pX rq (by simpa using h4) h2 h5
  |succ j=>exact h.1 j oj d t (by have:=hj;show j<k;omega) Wx h2 (by simpa using h3)
 .intro p hp;rw[h.2 p λj oj d hj h1 h2=>hp (j+1) oj d (by have:j<k:=hj;show j+1<k+1;omega) Wx h2];rcases Gf with⟨_,rfl⟩|⟨d,e,_,rfl⟩
  .rfl
  .rw[mG];exact λe'=>hp 0 o d (by show 0<k+1;omega) rq e e'.symm
def EK:∀{L:List (Oper×Option Nat)} {i c:Nat} {fr:Fr} {st:St} {eQ:List TR} {ch:List St} {GL:Fr} {lZ:St},qQ P call n ops L i c fr st=some (eQ,ch,GL,lZ)->KT (L.map (·.1))->Hn L P call n ops i c fr st eQ ch GL lZ:=by
 intro L
 induction L with
 |nil=>
  intro i c fr st eQ ch GL lZ h _;cases h;exact⟨rfl,λk o ab h=>Wz,rfl,λk t h=>Wz,⟨λj o d t _ h=>Wz,λp _=>rfl⟩,rfl⟩
 |cons oa L ih=>
  obtain⟨o,ab⟩:=oa;intro i c fr st eQ ch GL lZ h hap;rw[aEc]at hap
  have e:qQ P call n ops ((o,ab)::L) i c fr st=OR.rec (motive:=λ_=>Option Z2) (λv st'=>ot v λv=>ot st' λst'=>
   Option.rec none (λfr'=>bz (mL P o)
    (Option.rec none (λr=>some (⟨i,ab,o,true,c,fr,v,st,st'⟩::r.1,st::r.2.1,r.2.2)) (qQ P call n ops L (i+1) (c+1) fr' st'))
    (Option.rec none (λr=>some (⟨i,ab,o,false,c,fr,v,st,st'⟩::r.1,r.2.1,r.2.2)) (qQ P call n ops L (i+1) c fr' st'))) (Fh n o.dst v fr)) none (gN P call ops ab o fr st):=rfl
  rw[e]at h;have afp:KT (L.map (·.1)):=λj k a b d hjk h1 h2=>hap (j+1) (k+1) a b d pX Wx WJ;cases hs:gN P call ops ab o fr st with
  |bad=>rw[hs]at h;cases h
  |ok v gF=>
   rw[hs]at h;simp only[dH,dH]at h;cases hp:Fh n o.dst v fr with
   |none=>rw[hp]at h;cases h
   |some mg=>
    rw[hp]at h;simp only[aO]at h;have Gf:=BE hp
    have RI:∀d,o.dst=some d->d<n:=λd hd=>by
     rcases Gf with⟨e,_⟩|⟨d',e,h',_⟩
     .rw[hd]at e;cases e
     .rw[hd]at e;cases e;exact h'
    have key:∀(w:Bool) (ND:List TR) (ch' chx:List St) (Qk:Fr) (NR:St),mL P o=w->Hn L P call n ops (i+1) (c+if w then 1 else 0) mg gF ND ch' Qk NR->chx=(if w then st::ch' else ch')->
     Hn ((o,ab)::L) P call n ops i c fr st (⟨i,ab,o,w,c,fr,v,st,gF⟩::ND) chx Qk NR:=by
     intro w ND ch' chx Qk NR hw IH Ze;refine⟨by simp[IH.len],λk o' ab' hk=>?_,rfl,λk t hk=>?_,by rw[aEc];exact IH.fin.cons hap Gf,?_⟩
     .rw[aEc];cases k with
      |zero=>
       simp at hk;obtain⟨rfl,rfl⟩:=hk;refine⟨_,rfl,rfl,rfl,rfl,hw.symm,rfl,RI,⟨λj _ _ _ hj=>absurd hj (Nat.not_lt_zero _),λp _=>rfl⟩,hs,λhh=>?_⟩;rw[hh]at hw;subst hw;rw[Ze];rfl
      |succ k=>
       simp only[aDq]at hk;obtain⟨t,h1,h2,h2',h3,h4,h5,h6,h7,h9,Ji⟩:=IH.at' k o' ab' hk;refine⟨t,Wx,pX,h2',h3,h4,?_,h6,h7.cons hap Gf,h9,λX3=>?_⟩
       .rw[h5,wm,hw];omega
       .rw[wm,hw,Ze];have:=Ji X3;cases w
        .simpa using this
        .simp only[aDQ];rw[aGg 1];simpa using this
     .cases k with
      |zero=>
       simp at hk;subst hk;have:=IH.fst;show gF=lq _ _ _;rw[<-this];unfold lq;simp
      |succ k=>
       have:=IH.ql k t (by simpa using hk);rw[this];unfold lq;simp
     .rw[aEc,aDT,wm,hw,Ze];have:=IH.chl;cases w
      .simp[this]
      .simp[this];omega
    cases hw:mL P o with
    |true=>
     rw[hw]at h;simp only[aDQ]at h;cases ht:qQ P call n ops L (i+1) (c+1) mg gF with
     |none=>rw[ht]at h;cases h
     |some r=>
      obtain⟨ND,ch',Qk,NR⟩:=r;rw[ht]at h;cases h;exact key true _ _ _ _ _ hw (ih ht afp) rfl
    |false=>
     rw[hw]at h;simp only[aDp,aDE]at h;cases ht:qQ P call n ops L (i+1) c mg gF with
     |none=>rw[ht]at h;cases h
     |some r=>
      obtain⟨ND,ch',Qk,NR⟩:=r;rw[ht]at h;cases h;exact key false _ _ _ _ _ hw (ih ht afp) rfl
end
end
section
variable {listed:Array Bool}{i j:Nat}{t:TR}{a:Act}{c:Nat}{ρ:Ren}{s M:St}
def Cp (o:Oper)(p:Nat):Bool:=match o.dst with|some d=>agA (d) p|none=>false
def J0 (ops:Array Oper)(i:Nat)(x:eP):Bool:=
 match x with| .const _=>true| .tmp p=>Bn (L9 ops.toList 0) λjo=>bz (Cp jo.2 p) (bz (Nat.ble (Nat.succ jo.1) i) (fJ ops ops.size i jo.1) (Bool.and (Nat.ble (Nat.succ i) jo.1) (fJ ops ops.size jo.1 i))) true
def Iz (P:Program)(ops:Array Oper)(i:Nat)(o:Oper)(j:Nat)(oj:Oper):Bool:=
 bz (Nat.ble (Nat.succ j) i) (Bool.and (match oj.dst with|some d=>Bool.not (Cp o (d))|none=>true) (bz (Bool.and (mL P o) (mL P oj)) (fJ ops ops.size i j) true)) true
def NT (P:Program)(ops:Array Oper):Bool:=
 Bn (L9 ops.toList 0) λio=>
  Bool.and (Bn io.2.after.toList λe=>bz (Region.binds .any e) (Nat.ble (Nat.succ e.on) io.1) true)
  (Bool.and (Bn (qv P ops io.2) λx=>J0 ops io.1 x) (Bn (L9 ops.toList 0) λjo=>Iz P ops io.1 io.2 jo.1 jo.2))
section
variable {P:Program} {call:fW} {n:Nat} {ops:Array Oper}
structure Cy (P:Program)(ops:Array Oper):Prop where
 s1:∀i o,ops.toList[i]?=some o->∀e∈o.after,Region.binds .any e=true->e.on<i
 s2:∀i o,ops.toList[i]?=some o->∀p,eP.tmp p∈qv P ops o->∀j oj d,ops.toList[j]?=some oj->oj.dst=some d->d=p->(j<i/\fJ ops ops.size i j=true)\/(i<j/\fJ ops ops.size j i=true)
 s3:KT ops.toList
 s4:∀i j o oj,ops.toList[i]?=some o->ops.toList[j]?=some oj->j<i->mL P o=true->mL P oj=true->fJ ops ops.size i j=true
def HV (h:NT P ops=true):Cy P ops:=by
 unfold NT at h;rw[oh]at h;have key:∀i o,ops.toList[i]?=some o->_:=λi o ho=>h (i,o) (by have:=vW (i:=0) ho;simpa using this);refine⟨λi o ho e he hb=>?_,λi o ho p hp j oj d hj hd hpe=>?_,λj i oj o d zX hj ho hd uP=>?_,λi j o oj ho hj zX hw hwj=>?_⟩
 .have:=key i o ho;simp only[aDK,oh]at this;have:=this.1 e aar;rw[hb]at this
  simpa[aFX]using this
 .have:=key i o ho;simp only[aDK,oh]at this;have:=this.2.1 _ hp;unfold J0 at this;dsimp only at this;rw[oh]at this;have:=this (j,oj) aat;have hds:Cp oj p=true:=by unfold Cp;rw[hd];exact Hd.2 hpe
  simp only[hds,aO,aDQ,aDW,aFX]at this
  split at this
  .rename_i hlt;exact .inl ⟨hlt,this⟩
  .simp only[aDK,aDW,aFX]at this;exact .inr this
 .have:=key i o ho;simp only[aDK,oh]at this;have:=this.2.2 (j,oj) aat;unfold Iz at this;simp only[aO,aDW,aFX,aDy zX,aDK]at this;have:=this.1;rw[hd]at this;have hds:Cp o (d)=true:=by unfold Cp;rw[uP];exact Hd.2 rfl
  simp[hds]at this
 .have:=key i o ho;simp only[aDK,oh]at this;have:=this.2.2 (j,oj) aat;unfold Iz at this;simp only[aO,aDW,aFX,aDy zX,aDK]at this;have:=this.2
  simpa[hw,hwj]using this
def aai (P:Program)(call:fW)(ops:Array Oper)(chain:List St)(eQ:List TR):Prop:=∀(i:Nat) (t:TR),eQ[i]?=some t->mL P t.o=false->pM P t.o=false->∀(c:Nat) (s:St),chain[c]?=some s->
    (∃u∈eQ,u.w=true/\u.c<c/\fJ ops ops.size u.i t.i=true)\/(∃u∈eQ,u.w=true/\c<=u.c/\fJ ops ops.size t.i u.i=true)\/∃s1,gN P call ops t.ab t.o t.fr s=.ok t.v s1
def Rh (P:Program)(ops:Array Oper)(as:List (Option Nat))(chain:List St)(eQ:List TR):Prop:=∀(j:Nat) (tj:TR) (b:Nat),eQ[j]?=some tj->pM P tj.o=true->as[j]?=some (some b)->∀(d:Nat) (td:TR),eQ[d]?=some td->mL P td.o=true->
    fJ ops ops.size d j=false->fJ ops ops.size j d=false->(d<j->∀s,chain[td.c]?=some s->s.m.g b=none)/\(j<d->∀s s',chain[td.c]?=some s->chain[td.c+1]?=some s'->s'.m.g b=s.m.g b)
def Ju (hst:Cy P ops):∀(f i j:Nat),fJ ops f i j=true->j<i:=by
 intro f
 induction f with
 |zero=>intro i j h;cases h
 |succ f ih=>
  intro i j h
  have e:fJ ops (f+1) i j=(match ops[i]? with
   |none=>false
   |some o=>Ej o.after.toList λe=>Bool.and (Region.binds .any e) (ot e.on λk=>Bool.or (Nat.beq k j) (fJ ops f k j))):=rfl
  rw[e]at h
  split at h
  .cases h
  .rename_i o ho;rw[Au]at h;obtain⟨x,hx,h⟩:=h;simp only[dH,aDK,aEu,aDZ]at h;have:=hst.s1 i o (by simpa using ho) x WL h.1;rcases h.2 with h2|h2
   .omega
   .have:=ih _ _ h2;omega
open Classical in
def yx (s:St)(f:Nat->Option qN):∀names:List Nat,∃M:St,M.nx=s.nx/\∀q,M.m.g q=if q∈names then f q else s.m.g q:=by
 intro names
 induction names with
 |nil=>exact⟨s,rfl,λq=>rq⟩
 |cons b names ih=>
  obtain⟨M,h1,h2⟩:=ih;refine⟨⟨M.m.put b (f b),M.nx⟩,h1,λq=>?_⟩;show(M.m.put b (f b)).g q=_;rw[PT.eO,h2]
  by_cases e:q=b
  .subst e;simp
  .simp[e]
def unl (N:Nat)(listed:Array Bool):Nat:=(List.range N).countP λi=> !listed.getD i true
def JD {N:Nat}(hi:i<N)(hs:listed.size=N)(hu:listed.getD i true=false):unl N (listed.setIfInBounds i true)<unl N listed:=by
 unfold unl
 have key:∀(l:List Nat),i∈l->l.Nodup->l.countP (λk=> !(listed.setIfInBounds i true).getD k true)<l.countP (λk=> !listed.getD k true):=by
  have same:∀k,k≠i->(listed.setIfInBounds i true).getD k true=listed.getD k true:=λk hk=>by simp[aEy (aEr hk)]
  have aqI:(listed.setIfInBounds i true).getD i true=true:=by simp[hs,hi]
  intro l
  induction l with
  |nil=>intro h;simp at h
  |cons k l ih=>
   intro h hn;rw[aDG]at hn;rw[List.countP_cons,List.countP_cons]
   by_cases hk:k=i
   .subst hk
    have:l.countP (λk'=> !(listed.setIfInBounds k true).getD k' true)=l.countP (λk'=> !listed.getD k' true):=by
     apply List.countP_congr;intro x hx;rw[same x (λe=>hn.1 (e▸hx))]
    rw[this,aqI,hu];simp
   .have hl:i∈l:=by simpa[aEr hk]using h
    have:=ih hl hn.2;rw[same k hk];omega
 exact key _ Wv List.nodup_range
def lL (hi:i<listed.size):pT (listed.setIfInBounds i true) j↔j=i\/pT listed j:=by
 unfold pT
 by_cases h:j=i
 .subst h;simp[hi]
 .simp[aEy (aEr h),h]
def sV (hs:listed.size=ops.size):i∈Region.ready .any ops listed↔i<ops.size/\¬pT listed i/\UI ops listed i:=by
 unfold Region.ready;rw[aFk,List.mem_range];constructor
 .rintro⟨h1,h2⟩;simp only[aDK,aGc]at h2;refine⟨h1,?_,?_⟩
  .unfold pT;have:listed.getD i false=listed.getD i true:=by simp[hs,h1]
   rw[this,h2.1];simp
  .intro o ho e he hb;have:=h2.2;rw[ho]at this;simp only[aED,aFa,Array.all_eq_true_iff_forall_mem]at this;have:=this e he;rw[hb]at this
   simpa[pT]using this
 .rintro⟨h1,h2,h3⟩;refine⟨h1,?_⟩;simp only[aDK,aGc];constructor
  .unfold pT at h2;have:listed.getD i false=listed.getD i true:=by simp[hs,h1]
   rw[this]at h2;simpa using h2
  .have ho:ops[i]?=some ops[i]:=by simp
   rw[ho];simp only[aED,aFa,Array.all_eq_true_iff_forall_mem];intro e he;cases hb:Region.binds .any e with
   |false=>rfl
   |true=>have:=h3 _ ho e he hb;simpa[pT]using this
def Ax (hst:Cy P ops)(hs:listed.size=ops.size)(h:Region.ready .any ops listed=[]):∀i,i<ops.size->pT listed i:=by
 intro i
 induction i using Nat.strongRecOn with
 |_ i ih=>
  intro hi
  by_cases hl:pT listed i
  .exact hl
  .have:=(sV hs).2 ⟨hi,hl,λo ho e he hb=>by
    have:=hst.s1 i o (by simpa using ho) e he hb;exact ih _ this pX⟩
   rw[h]at this;simp at this
structure MS (P:Program)(ops:Array Oper)(as:List (Option Nat))(eQ:List TR)(listed:Array Bool)(c:Nat)(ρ:Ren)(s M:St):Prop where
 nx:M.nx=s.nx
 late:∀(j:Nat) (t:TR) (b:Nat) (x:Nat×Nat),pT listed j->eQ[j]?=some t->pM P t.o=true->as[j]?=some (some b)->ρ b=some x->t.s.m.g b=none/\(c<ja P ops.toList j->M.m.g b=t.s1.m.g b/\s.m.g b=none)
 SS:∀(q:Nat) (x:Nat×Nat),ρ q=some x->(∀(j:Nat) (t:TR),as[j]?=some (some q)->eQ[j]?=some t->pM P t.o=true->¬c<ja P ops.toList j)->M.m.g q=s.m.g q
structure Inv (P:Program)(ops:Array Oper)(as:List (Option Nat))(eQ:List TR)(ch:List St)(lZ:St)(n:Nat)(ρ0:Ren)(AJ jO:St)(Ag:Fr)(w0:World)(listed:Array Bool)(a:Act)(w:World):Prop where
 size:listed.size=ops.size
 closed:∀i,pT listed i->UI ops listed i
 inner:∀i,pT listed i->i<ops.size
 data:∃fr c ρ s M,FrP ops.toList eQ (pT listed) Ag fr/\(∀j o,ops.toList[j]?=some o->mL P o=true->(pT listed j↔ja P ops.toList j<c))/\c<=ch.length/\(ch++[lZ])[c]?=some s/\FR ρ fr a.tmps/\bh ρ0 AJ w0 ρ M w/\jO.nx<=s.nx/\(∀j b,¬pT listed j->as[j]?=some (some b)->ρ b=none)/\MS P ops as eQ listed c ρ s M
 sz:n<=a.tmps.size
 defers:a.defers=[]
variable {as:List (Option Nat)} {eQ:List TR} {ch:List St} {ρ0:Ren} {AJ jO lZ:St} {Ag GL:Fr} {w0:World}
def Wp {α β:Type}{l:List α}{as:List β}(h:as.length=l.length){o:α}(hj:l[j]?=some o):∃ab,(l.zip as)[j]?=some (o,ab)/\as[j]?=some ab:=by
 have hlt:=(aDD.1 hj).1;refine⟨as[j]' pX,?_,by simp[h,hlt]⟩;rw[List.getElem?_zip_eq_some];exact⟨hj,by simp[h,hlt]⟩
section
variable (dm:uo P ops.toList AJ as jO) (jU:Hn (ops.toList.zip as) P call n ops 0 0 Ag jO eQ ch GL lZ)
include dm jU
def mX {o:Oper}(ho:ops.toList[j]?=some o):∃t ab,eQ[j]?=some t/\as[j]?=some ab/\t.i=j/\t.ab=ab/\t.o=o/\t.w=mL P o/\t.c=ja P ops.toList j/\(∀d,o.dst=some d->d<n)/\FrP ops.toList eQ (·<j) Ag t.fr/\
 gN P call ops ab o t.fr t.s=.ok t.v t.s1/\(mL P o=true->(ch++[lZ])[ja P ops.toList j]?=some t.s):=by
 obtain⟨ab,hz,vZ⟩:=Wp dm.len ho;have DR:(ops.toList.zip as).map (·.1)=ops.toList:=List.map_fst_zip aal;obtain⟨t,t1,t2,t3,t4,t5,t6,t7,t8,t9,t10⟩:=jU.at' j o ab hz;rw[DR]at t6 t8 t10;refine⟨t,ab,t1,vZ,pX,t3,t4,t5,pX,t7,t8,t9,λh=>?_⟩;have:=t10 h;rw[aET (aDD.1 this).1];exact this
def xB (ht:eQ[j]?=some t):ops.toList[j]?=some t.o:=by
 have hzl:(ops.toList.zip as).length=ops.toList.length:=aaP
 have hj:j<ops.toList.length:=by rw[<-hzl,<-jU.len];exact(aDD.1 ht).1
 obtain⟨t',ab,h1,_,_,_,h2,_⟩:=mX dm jU (aDu hj);rw[ht]at h1;cases h1;rw[h2,aDu hj]
def CG:eQ.length=ops.toList.length:=by rw[jU.len,List.length_zip,dm.len];simp
def Ap:ch.length=ja P ops.toList ops.toList.length:=by
 have DR:(ops.toList.zip as).map (·.1)=ops.toList:=List.map_fst_zip aal;have hzl:(ops.toList.zip as).length=ops.toList.length:=aaP
 have:=jU.chl;rw[DR,hzl]at this;exact this
def gap {k:Nat}:∀{k':Nat},k<=k'->k'<=ops.toList.length->(∀j o,k<=j->j<k'->ops.toList[j]?=some o->mL P o=false)->
 (lq eQ lZ k').nx=(lq eQ lZ k).nx/\∀q,(∀j t,k<=j->j<k'->eQ[j]?=some t->pM P t.o=true->as[j]?≠some (some q))->(lq eQ lZ k').m.g q=(lq eQ lZ k).m.g q:=by
 intro k'
 induction k' with
 |zero=>intro h _ _;have:k=0:=by omega
        subst this;exact⟨rfl,λ_ _=>rfl⟩
 |succ k' ih=>
  intro h hl hw
  by_cases hk:k=k'+1
  .subst hk;exact⟨rfl,λ_ _=>rfl⟩
  obtain⟨i1,i2⟩:=ih pX pX (λj o h1 h2=>hw j o h1 pX);have ho:ops.toList[k']?=some ops.toList[k']:=aDu pX;generalize ops.toList[k']=o at ho;obtain⟨t,ab,h1,h2,h3,h4,h5,h6,h7,h8,h9,Ji,h11⟩:=mX dm jU ho;have Bd:=jU.ql k' t h1;have HC:lq eQ lZ k'=t.s:=by unfold lq;rw[h1]
  rw[<-Bd,<-i1,HC];have Pq:=hw k' o pX pX ho;cases hb:pM P o with
  |false=>
   have:=rB Pq hb Ji;rw[this];exact⟨rfl,λq hq=>aaS⟩
  |true=>
   obtain⟨x,hx⟩:=zM hb;obtain⟨b,VO⟩:=dm.news k' o ho (.inr hb);rw[h2]at VO;cases VO;rcases vt hx Ji with⟨_,_,e⟩|⟨_,s,_,_,_,e⟩
   .rw[e];exact⟨rfl,λq hq=>aaS⟩
   .rw[e];refine⟨rfl,λq hq=>?_⟩;have gq:q≠b:=λe=>hq k' t pX pX h1 (by rw[h5];exact hb) (by rw[h2,e]);show(t.s.m.put b _).g q=_;rw[PT.dn _ _ _ _ gq,<-i2 q λj t g1 g2=>hq j t g1 pX,HC]
def vP:∀(m k:Nat),k+m=ops.toList.length->∃k2,k<=k2/\k2<=ops.toList.length/\(∀j o,k<=j->j<k2->ops.toList[j]?=some o->mL P o=false)/\ja P ops.toList k2=ja P ops.toList k/\(ch++[lZ])[ja P ops.toList k]?=some (lq eQ lZ k2)/\
 (k2=ops.toList.length\/∃o,ops.toList[k2]?=some o/\mL P o=true):=by
 intro m
 induction m with
 |zero=>
  intro k hk;have:k=ops.toList.length:=pX
  refine⟨k,aDt _,pX,λj o h1 h2=>pX,rfl,?_,.inl this⟩;rw[this,<-Ap dm jU];have:lq eQ lZ ops.toList.length=lZ:=by unfold lq;rw[aEl (by rw[CG dm jU];exact aDt _)]
  rw[this];simp
 |succ m ih=>
  intro k hk;have ho:ops.toList[k]?=some ops.toList[k]:=aDu pX;generalize ops.toList[k]=o at ho;cases hw:mL P o with
  |true=>
   obtain⟨t,ab,h1,h2,h3,h4,h5,h6,h7,h8,h9,Ji,h11⟩:=mX dm jU ho;refine⟨k,aDt _,pX,λj o h1 h2=>pX,rfl,?_,.inr ⟨o,ho,hw⟩⟩;rw[h11 hw];unfold lq;rw[h1]
  |false=>
   have hc:=oe (P:=P) ho;rw[hw]at hc;simp only[aDp,aDE,aEb]at hc;obtain⟨k2,g1,g2,g3,g4,g5,g6⟩:=ih (k+1) pX;refine⟨k2,pX,g2,λj o' j1 j2 hj=>?_,by rw[g4,hc],by rw[<-hc];exact g5,g6⟩
   by_cases e:j=k
   .subst e;rw[ho]at hj;cases hj;exact hw
   .exact g3 j o' pX j2 hj
def zH {b:Nat}(ht:eQ[j]?=some t)(hb:pM P t.o=true)(ha:as[j]?=some (some b)):∃s,(ch++[lZ])[ja P ops.toList j]?=some s/\s.m.g b=t.s1.m.g b:=by
 have ho:=xB dm jU ht;have YV:=(aDD.1 ho).1;have hc:=oe (P:=P) ho;rw[DJ hb]at hc;simp only[aDp,aDE,aEb]at hc;obtain⟨k2,g1,g2,g3,g4,g5,g6⟩:=vP dm jU (ops.toList.length-(j+1)) (j+1) pX;rw[hc]at g5;refine⟨_,g5,?_⟩;rw[(gap dm jU g1 g2 g3).2 b λj' t' h1 h2 h3 h4 h5=>by have:=dm.uniq j j' b ha h5;omega,<-jU.ql j t ht]
end
def Inv.done (dm:uo P ops.toList AJ as jO)(jU:Hn (ops.toList.zip as) P call n ops 0 0 Ag jO eQ ch GL lZ){w:World}(h:Inv P ops as eQ ch lZ n ρ0 AJ jO Ag w0 listed a w)(fk:∀i,i<ops.size->pT listed i):
 pR ρ0 AJ w0 n (.norm GL lZ) .normal a w:=by
 obtain⟨fr,c,ρ,s,M,h1,h2,h3,h4,h5,h6,h7,h8,h9⟩:=h.data;have DR:(ops.toList.zip as).map (·.1)=ops.toList:=List.map_fst_zip aal;have hzl:(ops.toList.zip as).length=ops.toList.length:=aaP
 have hc:c=ch.length:=by
  by_cases hlt:c<ch.length
  .rw[Ap dm jU]at hlt;obtain⟨j,o,g1,g2,g3,g4⟩:=wk (P:=P) (l:=ops.toList) ops.toList.length (aDt _) c hlt;have:=(h2 j o g2 g3).1 (fk j (by simpa using g1));omega
  .omega
 subst hc
 have hs:s=lZ:=by
  rw[aEF (aDt _)]at h4;simp at h4;exact h4.symm
 subst hs
 have hA:=h6.rE (λq x hx=>(h9.SS q x hx λj t _ ht hb hlt=>by
  have ho:=xB dm jU ht;have YV:=(aDD.1 ho).1;have:=mI (P:=P) (l:=ops.toList) (Nat.le_of_lt YV);have:=Ap dm jU;omega).symm) h9.nx.symm
 refine⟨rfl,ρ,⟨λt=>?_,h.sz,h.defers,hA⟩⟩
 have:fC GL (t)=fC fr (t):=by
  have Ja:=jU.fin;rw[DR]at Ja
  by_cases hd:∃(j:Nat) (o:Oper) (d:Tmp),ops.toList[j]?=some o/\o.dst=some d/\d=t
  .obtain⟨j,o,d,g1,g2,rfl⟩:=hd;have hj:=(aDD.1 g1).1;obtain⟨t',_,g3,_⟩:=mX dm jU g1;rw[Ja.1 j o d t' (by show j<_;rw[hzl];exact hj) g1 g2 g3,h1.1 j o d t' (fk j abk) g1 g2 g3]
  .rw[Ja.2,h1.2]
   .exact λj o d _ g1 g2 e=>hd ⟨j,o,d,g1,g2,e⟩
   .exact λj o d _ g1 g2 e=>hd ⟨j,o,d,g1,g2,e⟩
 rw[this];exact h5 t
def MS.sub (h:MS P ops as eQ listed c ρ s M)(hp:∀j b,¬pT listed j->as[j]?=some (some b)->ρ b=none):∀q x,ρ q=some x->s.m.g q=M.m.g q\/s.m.g q=none:=by
 intro q x hx
 by_cases hh:∃(j:Nat) (t:TR),as[j]?=some (some q)/\eQ[j]?=some t/\pM P t.o=true/\c<ja P ops.toList j
 .obtain⟨j,t,g1,g2,g3,g4⟩:=hh
  by_cases hl:pT listed j
  .exact .inr ((h.late j t q x hl g2 g3 g1 hx).2 g4).2
  .rw[hp j q hl g1]at hx;cases hx
 .exact .inl (h.SS q x hx λj t g1 g2 g3 g4=>hh ⟨j,t,g1,g2,g3,g4⟩).symm
def mV (P:Program)(ops:Array Oper)(as:List (Option Nat))(eQ:List TR)(listed:Array Bool)(c:Nat)(ρ:Ren)(q:Nat):Prop:=∃(j:Nat) (t:TR) (x:Nat×Nat),pT listed j/\eQ[j]?=some t/\pM P t.o=true/\as[j]?=some (some q)/\c<ja P ops.toList j/\ρ q=some x
open Classical in
def MS.step {ρ':Ren}{s1:St}{w w':World}(h:MS P ops as eQ listed c ρ s M)(hp:∀j b,¬pT listed j->as[j]?=some (some b)->ρ b=none)(h6:bh ρ0 AJ w0 ρ M w)(hA:bh ρ s w ρ' s1 w')
 (_:∀q,mV P ops as eQ listed c ρ q->s1.m.g q=none):∃M1,bh ρ0 AJ w0 ρ' M1 w'/\M1.nx=s1.nx/\∀q,M1.m.g q=if mV P ops as eQ listed c ρ q then M.m.g q else s1.m.g q:=by
 obtain⟨M1,g1,g2⟩:=yx s1 (λq=>if mV P ops as eQ listed c ρ q then M.m.g q else s1.m.g q) (as.filterMap id)
 have g3:∀q,M1.m.g q=if mV P ops as eQ listed c ρ q then M.m.g q else s1.m.g q:=by
  intro q;rw[g2]
  by_cases hq:q∈as.filterMap id
  .rw[aDy hq]
  .rw[aDv hq,aDv];rintro⟨j,t,x,_,_,_,k1,_⟩;refine hq (List.mem_filterMap.2 ⟨some q,aEm k1,rfl⟩)
 refine⟨M1,h6.trans (bh.frame h6.wr h.nx.symm (h.sub hp) hA g1 λq x hx=>?_),g1,g3⟩
 by_cases hl:mV P ops as eQ listed c ρ q
 .right;obtain⟨j,t,y,k1,k2,k3,k4,k5,k6⟩:=hl;have hl:mV P ops as eQ listed c ρ q:=⟨j,t,y,k1,k2,k3,k4,k5,k6⟩;exact⟨⟨y,k6⟩,((h.late j t q y k1 k2 k3 k4 k6).2 k5).2,by rw[g3,aDy hl]⟩
 .left;rw[g3,aDv hl]
open Classical in
def Inv.step (hc:iV P call)(hst:Cy P ops)(dm:uo P ops.toList AJ as jO)(jU:Hn (ops.toList.zip as) P call n ops 0 0 Ag jO eQ ch GL lZ)(TQ:aai P call ops (ch++[lZ]) eQ)(hlt:Rh P ops as (ch++[lZ]) eQ){w:World}
 (h:Inv P ops as eQ ch lZ n ρ0 AJ jO Ag w0 listed a w)  (hi:i∈Region.ready .any ops listed) {K:Act->World->Prop} {Q:Exit->Act->World->Prop}
 (hK:∀a' w',Inv P ops as eQ ch lZ n ρ0 AJ jO Ag w0 (listed.setIfInBounds i true) a' w'->K a' w'):wpOp P ops Q i K a w:=by
 obtain⟨kX,Gh,VK⟩:=(sV h.size).1 hi;obtain⟨fr,c,ρ,s,M,h1,h2,h3,h4,h5,h6,h7,h8,h9⟩:=h.data;have ho:ops[i]?=some ops[i]:=rq
 generalize ops[i]=o at ho;have Md:ops.toList[i]?=some o:=by simpa using ho
 obtain⟨t,ab,t1,vZ,t2,t2',t3,t4,t5,t6,t7,t9,t10⟩:=mX dm jU Md;have PX:∀j,fJ ops ops.size i j=true->pT listed j:=λj hj=>Av h.closed _ _ _ hj VK;have GG:∀j k,fJ ops ops.size k j=true->pT listed k->pT listed j:=λj k hj hk=>Av h.closed _ _ _ hj (h.closed k hk);have Gn:i<listed.size:=by rw[h.size];exact kX
 have Ku:∀x∈qv P ops o,ev fr x=ev t.fr x:=by
  intro x hx;cases x with
  |const v=>rfl
  |tmp p=>
   show fC fr p=fC t.fr p
   by_cases hd:∃(j:Nat) (oj:Oper) (d:Tmp),ops.toList[j]?=some oj/\oj.dst=some d/\d=p
   .obtain⟨j,oj,d,g1,g2,g3⟩:=hd
    have Ki:∀(j':Nat) (o':Oper) (d':Tmp),ops.toList[j']?=some o'->o'.dst=some d'->d'=p->j'=j:=by
     intro j' o' d' k1 k2 k3;have:d'=d:=(by rw[k3,g3]);subst this;rcases aGd j' j with hlt|heq|Cg
     .exact absurd g2 (hst.s3 j' j o' oj d' hlt k1 g1 k2)
     .exact heq
     .exact absurd k2 (hst.s3 j j' oj o' d' Cg g1 k1 g2)
    rcases hst.s2 i o Md p hx j oj d g1 g2 g3 with⟨g4,g5⟩|⟨g4,g5⟩
    .obtain⟨tj,_,g6,_⟩:=mX dm jU g1;subst g3;rw[h1.1 j oj d tj (PX j g5) g1 g2 g6,t7.1 j oj d tj g4 g1 g2 g6]
    .rw[h1.2,t7.2]
     .intro j' o' d' k0 k1 k2 k3;have:=Ki j' o' d' k1 k2 k3;have k0:=k0;omega
     .intro j' o' d' k0 k1 k2 k3;have:=Ki j' o' d' k1 k2 k3;subst this;exact Gh (GG i j' g5 k0)
   .rw[h1.2,t7.2]
    .exact λj o d _ g1 g2 e=>hd ⟨j,o,d,g1,g2,e⟩
    .exact λj o d _ g1 g2 e=>hd ⟨j,o,d,g1,g2,e⟩
 have fin:∀v' w' ρ' c2 s2 M2,VR ρ' t.v v'->ρ.le ρ'->(∀j oj,ops.toList[j]?=some oj->mL P oj=true->(j=i\/pT listed j↔ja P ops.toList j<c2))->c2<=ch.length->(ch++[lZ])[c2]?=some s2->bh ρ0 AJ w0 ρ' M2 w'->jO.nx<=s2.nx->
  (∀j b,¬pT (listed.setIfInBounds i true) j->as[j]?=some (some b)->ρ' b=none)->MS P ops as eQ (listed.setIfInBounds i true) c2 ρ' s2 M2->K (a.put o.dst v') w':=by
  intro v' w' ρ' c2 s2 M2 hv hle k4 k3 k2 hA k7 k8 k9
  refine hK _ _ {
   size:=by simp[h.size]
   closed:=λj hj o' RE e he hb=>by
    rw[lL Gn]at hj⊢;rcases hj with rfl|hj
    .exact .inr (VK o' RE e he hb)
    .exact .inr (h.closed j hj o' RE e he hb)
   inner:=λj hj=>by
    rw[lL Gn]at hj;rcases hj with rfl|hj
    .exact kX
    .exact h.inner j hj
   data:=by
    cases hd:o.dst with
    |none=>
     refine⟨fr,c2,ρ',s2,M2,⟨λj oj d tj g1 g2 g3 g4=>?_,λp hp=>h1.2 p λj oj d g1=>hp j oj d ((lL Gn).2 (.inr g1))⟩,λj oj g1 g2=>?_,k3,k2,h5.mono hle,hA,k7,k8,k9⟩
     .rcases(lL Gn).1 g1 with rfl|g1
      .rw[Md]at g2;cases g2;rw[hd]at g3;cases g3
      .exact h1.1 j oj d tj g1 g2 g3 g4
     .rw[lL Gn];exact k4 j oj g1 g2
    |some d=>
     refine⟨fr.put (d) (some t.v),c2,ρ',s2,M2,⟨λj oj d' tj g1 g2 g3 g4=>?_,λp hp=>?_⟩,λj oj g1 g2=>?_,k3,k2,(h5.mono hle).acq (aDM (t6 d hd) h.sz) hv,hA,k7,k8,k9⟩
     .rcases(lL Gn).1 g1 with rfl|g1
      .rw[Md]at g2;cases g2;rw[hd]at g3;cases g3;rw[t1]at g4;cases g4;exact mq _ _ _
      .have g1':=g1;rw[mG]
       .exact h1.1 j oj d' tj g1 g2 g3 g4
       .intro e;subst e;rcases aGd j i with hlt|heq|Cg
        .exact hst.s3 j i oj o d' hlt g2 Md g3 hd
        .rw[heq]at g1';exact Gh g1'
        .exact hst.s3 i j o oj d' Cg Md g2 hd g3
     .rw[mG]
      .exact h1.2 p λj oj d' g1=>hp j oj d' ((lL Gn).2 (.inr g1))
      .exact λe=>hp i o d ((lL Gn).2 (.inl rfl)) Md hd e.symm
     .rw[lL Gn];exact k4 j oj g1 g2
   sz:=by rw[Fe];exact h.sz
   defers:=by rw[zk];exact h.defers}
 have xU:mL P o=false->∀j oj,ops.toList[j]?=some oj->mL P oj=true->(j=i\/pT listed j↔ja P ops.toList j<c):=λhw j oj g1 g2=>by
  rw[h2 j oj g1 g2];constructor
  .rintro(e|e)
   .subst e;rw[Md]at g1;cases g1;rw[hw]at g2;cases g2
   .exact e
  .exact .inr
 have Pb:∀j b,¬pT (listed.setIfInBounds i true) j->as[j]?=some (some b)->j≠i/\ρ b=none:=λj b hj hb=>by
  rw[lL Gn]at hj;exact⟨λe=>hj (.inl e),h8 j b (λhh=>hj (.inr hh)) hb⟩
 have uk:∀j,pT (listed.setIfInBounds i true) j->j≠i->pT listed j:=λj hj gq=>by
  rcases(lL Gn).1 hj with e|e
  .exact absurd e gq
  .exact e
 unfold wpOp;rw[ho];dsimp only
 suffices YX:(if Region.wanted o (yielded ops a.tmps)then Oper.wp P o a w K Q else K (a.put o.dst undef) w) by
  split
  .rename_i wG;rw[aDy wG]at YX;exact .inl YX
  .rename_i wG;rw[aDv wG]at YX;exact YX
 cases iZ:nT P o with
 |some tz=>
  obtain⟨b,hb⟩:=dm.news i o Md (.inl (by rw[iZ];simp));rw[vZ]at hb;cases hb;have hr:=dm.range i b vZ;have Ey:=h8 i b Gh vZ;have hw:mL P o=false:=by unfold mL;rw[iZ]
  have hB:pM P o=false:=by unfold pM;rw[wU (by rw[iZ];simp)]
  have huj:∀u∈eQ,u.w=true->∃j oj,ops.toList[j]?=some oj/\mL P oj=true/\u.i=j/\u.c=ja P ops.toList j:=by
   intro u hu huw;obtain⟨j,hj,rfl⟩:=aEv hu;have RE:=xB dm jU (aDu hj);obtain⟨tj,_,g1,_,g2,_,_,g3,g4,_⟩:=mX dm jU RE;rw[aDu hj]at g1;cases g1;exact⟨j,_,RE,by rw[<-g3];exact huw,g2,g4⟩
  have Pd:∃s1,gN P call ops (some b) o fr s=.ok t.v s1:=by
   rw[oD Ku];rcases TQ i t t1 (by rw[t3];exact hw) aaG c s h4 with⟨u,g1,g2,g3,g4⟩|⟨u,g1,g2,g3,g4⟩|⟨s2,g⟩
   .obtain⟨j,oj,k1,k2,k3,k4⟩:=huj u g1 g2;rw[t2,k3]at g4;exact absurd (GG i j g4 ((h2 j oj k1 k2).2 pX)) Gh
   .obtain⟨j,oj,k1,k2,k3,k4⟩:=huj u g1 g2;rw[t2,k3]at g4;have:=(h2 j oj k1 k2).1 (PX j g4);omega
   .rw[t3,t2']at g;exact⟨s2,g⟩
  obtain⟨sx,Kj⟩:=Pd;obtain⟨M2,m1,m2⟩:=yx M (λ_=>s.m.g b) [b]
  have m3:∀q x,ρ q=some x->M2.m.g q=M.m.g q:=λq x hx=>by
   rw[m2,aDv (λe=>by have:=aEE.1 e;subst this;rw[Ey]at hx;cases hx)]
  have Qb:=h6.rE m3 m1;refine AU iZ Kj (by rw[m2,aDy rq]) Qb h5 Ey (by rw[m1,h9.nx];omega) pX λv' w' ρ' hv hA hle hq=>fin v' w' ρ' c s M2 hv hle (xU hw) h3 h4 hA h7 (λj b' hj oO=>?_) ⟨by rw[m1];exact h9.nx,λj t' b' x hj wH oO ha hx=>?_,λq x hx qY=>?_⟩
  .obtain⟨k1,k2⟩:=Pb j b' hj oO;rw[hq b' (λe=>k1 (dm.uniq j i b' oO acU))];exact k2
  .have zX:j≠i:=λe=>by subst e;rw[t1]at wH;cases wH;rw[t3,hB]at oO;cases oO
   have gq:b'≠b:=λe=>zX (dm.uniq j i b' ha acU);rw[hq b' gq]at hx;obtain⟨k1,k2⟩:=h9.late j t' b' x (uk j hj zX) wH oO ha hx;exact⟨k1,λRJ=>by rw[m3 b' x hx];exact k2 RJ⟩
  .by_cases e:q=b
   .subst e;rw[m2,aDy rq]
   .rw[hq q e]at hx;rw[m3 q x hx];exact h9.SS q x hx qY
 |none=>
  cases fY:kS P o with
  |some x=>
   have hB:pM P o=true:=by unfold pM;rw[fY]
   obtain⟨b,hb⟩:=dm.news i o Md (.inr hB);rw[vZ]at hb;cases hb;have hr:=dm.range i b vZ;have Ey:=h8 i b Gh vZ;have hw:=DJ hB;rw[<-oD Ku]at t9;rcases vt fY t9 with⟨g1,g2,g3⟩|⟨g1,sx,g2,g3,g4,g5⟩
   .rw[aDv (by rw[iR g1 h5];simp)];refine fin undef w ρ c s M (by rw[g2];exact .undef) (λ_ _ h=>h) (xU hw) h3 h4 h6 h7 (λj b' hj oO=>(Pb j b' hj oO).2) ⟨h9.nx,λj t' b' y hj wH oO ha hy=>?_,h9.SS⟩
    by_cases zX:j=i
    .subst zX;rw[vZ]at ha;cases ha;rw[Ey]at hy;cases hy
    .exact h9.late j t' b' y (uk j hj zX) wH oO ha hy
   .rw[aDy (iR g1 h5)];obtain⟨e,len,z,ps⟩:=x;obtain⟨l,l1,l2⟩:=OX fY h5 g2;have Ab:t.s1.m.g b=some (.cells sx e false):=by rw[g5];exact PT.dg _ _ _
    have VP:(c<ja P ops.toList i->s.m.g b=none)/\(¬c<ja P ops.toList i->s.m.g b=some (.cells sx e false)):=by
     constructor
     .intro qC;obtain⟨d,od,d1,d2,d3,d4⟩:=wk (P:=P) (l:=ops.toList) i (Nat.le_of_lt (by simpa using kX)) c qC;obtain⟨td,_,e1,_,e2,_,e3,e4,e5,_⟩:=mX dm jU d2;have GA:¬pT listed d:=λhh=>by have:=(h2 d od d2 d3).1 hh;omega
      have a1:fJ ops ops.size d i=false:=by
       cases hh:fJ ops ops.size d i with
       |false=>rfl
       |true=>have:=Ju hst _ _ _ hh;omega
      have a2:fJ ops ops.size i d=false:=by
       cases hh:fJ ops ops.size i d with
       |false=>rfl
       |true=>exact absurd (PX d hh) GA
      exact(hlt i t b t1 aaG vZ d td e1 (by rw[e3];exact d3) a1 a2).1 d1 s (by rw[e5,d4];exact h4)
     .intro qC;obtain⟨sj,j1,j2⟩:=zH dm jU t1 aaG vZ
      have key:∀m s',ja P ops.toList i+m<=c->(ch++[lZ])[ja P ops.toList i+m]?=some s'->s'.m.g b=some (.cells sx e false):=by
       intro m
       induction m with
       |zero=>intro s' _ uh;rw[aEb,j1]at uh;cases uh;rw[j2,Ab]
       |succ m ih=>
        intro s' hm uh;have hlen:=(aDD.1 uh).1;obtain⟨s0,Yl⟩:∃s0,(ch++[lZ])[ja P ops.toList i+m]?=some s0:=⟨_,aDu pX⟩;have Zd:ja P ops.toList i+m<ja P ops.toList ops.toList.length:=by rw[<-Ap dm jU];omega
        obtain⟨d,od,d1,d2,d3,d4⟩:=wk (P:=P) (l:=ops.toList) ops.toList.length (aDt _) _ Zd;obtain⟨td,_,e1,_,e2,_,e3,e4,e5,_⟩:=mX dm jU d2;have GA:=(h2 d od d2 d3).2 pX
        have hid:i<d:=by
         rcases aGd i d with hh|hh|hh
         .exact hh
         .subst hh;exact absurd GA Gh
         .have:=oe (P:=P) d2;rw[d3]at this;simp only[aDQ]at this;have:=mI (P:=P) (l:=ops.toList) (show d+1<=i from pX);omega
        have a1:fJ ops ops.size d i=false:=by
         cases hh:fJ ops ops.size d i with
         |false=>rfl
         |true=>exact absurd (GG i d hh GA) Gh
        have a2:fJ ops ops.size i d=false:=by
         cases hh:fJ ops ops.size i d with
         |false=>rfl
         |true=>have:=Ju hst _ _ _ hh;omega
        rw[(hlt i t b t1 aaG vZ d td e1 (by rw[e3];exact d3) a1 a2).2 hid s0 s' (by rw[e5,d4];exact Yl) (by rw[e5,d4];exact uh)];exact ih s0 pX Yl
      have Ac:=key (c-ja P ops.toList i) s pX (by rw[show ja P ops.toList i+(c-ja P ops.toList i)=c from pX];exact h4);exact Ac
    obtain⟨M2,m1,m2⟩:=yx M (λ_=>some (.cells sx e false)) [b]
    have m3:∀q x,ρ q=some x->M2.m.g q=M.m.g q:=λq x hx=>by
     rw[m2,aDv (λe=>by have:=aEE.1 e;subst this;rw[Ey]at hx;cases hx)]
    have m4:M2.m.g b=some (.cells sx e false):=by rw[m2,aDy rq]
    have Qb:=(h6.rE m3 m1).agy m4 Ey (by rw[m1,h9.nx];omega) l1 pX;have hq:∀q,q≠b->ρ.set b (w.heap.size,l.length) q=ρ q:=λq hq=>Ren.du _ _ _ _ hq;unfold Oper.wp;rw[l2 w];refine fin (.slice (some ⟨w.heap.size,0,none⟩) len len) _ (ρ.set b (w.heap.size,l.length)) c s M2 (by rw[g4];exact .slice _ _ _ _ _ _ (Ren.eA ρ b _)) (λq x hx=>by rw[hq q (λe=>by subst e;rw[Ey]at hx;cases hx)];exact hx) (xU hw) h3 h4 Qb h7 (λj b' hj oO=>?_) ⟨by rw[m1];exact h9.nx,λj t' b' y hj wH oO ha hy=>?_,λq y hy qY=>?_⟩
    .obtain⟨k1,k2⟩:=Pb j b' hj oO;rw[hq b' (λe=>k1 (dm.uniq j i b' oO acU))];exact k2
    .by_cases zX:j=i
     .subst zX;rw[vZ]at ha;cases ha;rw[t1]at wH;cases wH;exact⟨g3,λRJ=>⟨by rw[m4,Ab],VP.1 RJ⟩⟩
     .have gq:b'≠b:=λe=>zX (dm.uniq j i b' ha acU);rw[hq b' gq]at hy;obtain⟨k1,k2⟩:=h9.late j t' b' y (uk j hj zX) wH oO ha hy;exact⟨k1,λRJ=>by rw[m3 b' y hy];exact k2 RJ⟩
    .by_cases e':q=b
     .subst e';rw[m4,VP.2 (qY i t vZ t1 aaG)]
     .rw[hq q e']at hy;rw[m3 q y hy];exact h9.SS q y hy qY
  |none=>
   have hB:pM P o=false:=by unfold pM;rw[fY]
   have ug:=h6.wr.sub (h9.sub h8) h9.nx.symm;cases hw:mL P o with
   |true=>
    have hle:¬ja P ops.toList i<c:=λhh=>Gh ((h2 i o Md hw).2 hh)
    have hcw:c=ja P ops.toList i:=by
     by_cases hlt:c<ja P ops.toList i
     .have Ew:i<=ops.toList.length:=by simp;omega
      obtain⟨j,oj,g1,g2,g3,g4⟩:=wk (P:=P) (l:=ops.toList) i Ew c hlt;have:=(h2 j oj g2 g3).1 (PX j (hst.s4 i j o oj Md g2 g1 hw g3));omega
     .omega
    subst hcw;have hts:=t10 hw;rw[h4]at hts;cases hts;rw[<-oD Ku]at t9;obtain⟨_,hsc⟩:=rD iZ fY t9;have uQ:=oe (P:=P) Md;rw[hw]at uQ;simp only[aDQ]at uQ;have Ew:i<ops.toList.length:=by simpa using kX
    obtain⟨k2,n1,n2,n3,n4,n5,n6⟩:=vP dm jU (ops.toList.length-(i+1)) (i+1) pX;rw[uQ]at n5;obtain⟨gn,gm⟩:=gap dm jU n1 n2 n3;have HC:=(jU.ql i t t1).symm;rw[HC]at gn gm
    have aeQ:∀q j t' x,pT listed j->eQ[j]?=some t'->pM P t'.o=true->as[j]?=some (some q)->ρ q=some x->k2<j->(lq eQ lZ k2).m.g q=none:=by
     intro q j t' x j1 j2 j3 j4 j5 j6;rcases n6 with e|⟨od,e1,e2⟩
     .have:=(aDD.1 j2).1;rw[CG dm jU]at this;omega
     .obtain⟨td,_,d1,_,d2,_,d3,d4,d5,_⟩:=mX dm jU e1;have GA:¬pT listed k2:=λhh=>by have:=(h2 k2 od e1 e2).1 hh;omega
      have a1:fJ ops ops.size k2 j=false:=by
       cases hh:fJ ops ops.size k2 j with
       |false=>rfl
       |true=>have:=Ju hst _ _ _ hh;omega
      have a2:fJ ops ops.size j k2=false:=by
       cases hh:fJ ops ops.size j k2 with
       |false=>rfl
       |true=>exact absurd (GG k2 j hh j1) GA
      exact(hlt j t' q j2 j3 j4 k2 td d1 (by rw[d3];exact e2) a1 a2).1 j6 _ (by rw[d5,n4,uQ];exact n5)
    have Pm:∀{j:Nat} {t':TR},eQ[j]?=some t'->pM P t'.o=true->ja P ops.toList i<ja P ops.toList j->i+1<=j:=by
     intro j t' _ _ j3;rcases aEG i j with hh|hh
     .omega
     .have:=mI (P:=P) (l:=ops.toList) hh;omega
    have amY:∀{j:Nat} {t':TR},eQ[j]?=some t'->pM P t'.o=true->j≠k2:=by
     intro j t' j1 j2 e;subst e;rcases n6 with e|⟨od,e1,e2⟩
     .have:=(aDD.1 j1).1;rw[CG dm jU]at this;omega
     .have:=xB dm jU j1;rw[e1]at this;cases this;rw[DJ j2]at e2;cases e2
    refine rC hc hsc ug h5 λv' w' ρ' hv hA=>?_
    have jd:∀q,mV P ops as eQ listed (ja P ops.toList i) ρ q->t.s1.m.g q=none:=by
     rintro q ⟨j,t',x,j1,j2,j3,j4,j5,j6⟩;have I8:=Pm j2 j3 j5;rcases aEG j k2 with hjk|hjk
     .have hg:=(gap dm jU (k:=i+1) (k':=j) I8 pX (λj' o' q1 q2=>n3 j' o' q1 pX)).2 q (λj' t'' q1 q2 q3 q4 q5=>by have:=dm.uniq j j' q j4 q5;omega);rw[HC]at hg;rw[<-hg];have:lq eQ lZ j=t'.s:=by unfold lq;rw[j2]
      rw[this];exact(h9.late j t' q x j1 j2 j3 j4 j6).1
     .rw[<-gm q λj' t'' q1 q2 q3 q4 q5=>by have:=dm.uniq j j' q j4 q5;omega];exact aeQ q j t' x j1 j2 j3 j4 j6 (by have:=amY j2 j3;omega)
    obtain⟨M1,b1,b2,b3⟩:=h9.step h8 h6 hA jd;have PN:∀q j,as[j]?=some (some q)->ρ q=none->ρ' q=none:=λq j hj hq=>hA.KJ q (by have:=dm.range j q hj;omega) hq
    have VS:∀q j x,as[j]?=some (some q)->ρ' q=some x->∃y,ρ q=some y:=λq j x hj hx=>by
     cases hq:ρ q with
     |some y=>exact⟨y,rfl⟩
     |none=>rw[PN q j hj hq]at hx;cases hx
    obtain⟨M2,m1,m2⟩:=yx (lq eQ lZ k2) (λq=>if mV P ops as eQ listed (ja P ops.toList i+1) ρ q then M.m.g q else (lq eQ lZ k2).m.g q) (as.filterMap id)
    have m3:∀q,M2.m.g q=if mV P ops as eQ listed (ja P ops.toList i+1) ρ q then M.m.g q else (lq eQ lZ k2).m.g q:=by
     intro q;rw[m2]
     by_cases hq:q∈as.filterMap id
     .rw[aDy hq]
     .rw[aDv hq,aDv];rintro⟨j,t,x,_,_,_,k1,_⟩;exact hq (List.mem_filterMap.2 ⟨some q,aEm k1,rfl⟩)
    have Qb:bh ρ0 AJ w0 ρ' M2 w':=by
     refine b1.rE (λq x hx=>?_) (by rw[m1,b2,gn]);rw[m3,b3]
     by_cases hq:∃(j:Nat) (t':TR),as[j]?=some (some q)/\eQ[j]?=some t'/\pM P t'.o=true
     .obtain⟨j,t',j1,j2,j3⟩:=hq;obtain⟨y,hy⟩:=VS q j x j1 hx;have TF:=Classical.byContradiction λhh=>by rw[h8 j q hh j1]at hy;cases hy
      have same:∀(d:Nat),mV P ops as eQ listed d ρ q↔d<ja P ops.toList j:=λd=>by
       constructor
       .rintro⟨j',t'',y',_,_,_,q1,q2,_⟩;rw[<-dm.uniq j' j q q1 j1];exact q2
       .exact λhd=>⟨j,t',y,TF,j2,j3,j1,hd,hy⟩
      by_cases c1:ja P ops.toList i+1<ja P ops.toList j
      .rw[aDy ((same _).2 c1),aDy ((same _).2 pX)]
      .rw[aDv (λhh=>c1 ((same _).1 hh))]
       by_cases c2:ja P ops.toList i<ja P ops.toList j
       .rw[aDy ((same _).2 c2),((h9.late j t' q y TF j2 j3 j1 hy).2 c2).1];obtain⟨sj,s1,s2⟩:=zH dm jU j2 j3 j1;rw[show ja P ops.toList j=ja P ops.toList i+1 from pX,n5]at s1;cases s1;exact s2
       .rw[aDv (λhh=>c2 ((same _).1 hh)),gm q];intro j' t'' q1 q2 q3 q4 q5;have:=dm.uniq j j' q j1 q5;subst this;have:=mI (P:=P) (l:=ops.toList) q1;omega
     .have no:∀(d:Nat),¬mV P ops as eQ listed d ρ q:=λd=>by
       rintro⟨j,t',y,_,q1,q2,q3,_⟩;exact hq ⟨j,t',q3,q1,q2⟩
      rw[aDv (no _),aDv (no _),gm q];exact λj t' _ _ q1 q2 q3=>hq ⟨j,t',q3,q1,q2⟩
    refine fin v' w' ρ' (ja P ops.toList i+1) (lq eQ lZ k2) M2 hv hA.ext (λj oj g1 g2=>?_) ?_ n5 Qb (by rw[gn];exact aEB h7 hA.nx) (λj b' hj oO=>PN b' j oO (Pb j b' hj oO).2) ⟨m1,λj t' b' x hj wH oO ha hx=>?_,λq x hx qY=>?_⟩
    .by_cases zX:j=i
     .subst zX;simp
     .have gq:ja P ops.toList j≠ja P ops.toList i:=by
       rcases aEG j i with hlt|jW
       .have:=oe (P:=P) g1;rw[g2]at this;simp only[aDQ]at this;have h':=mI (P:=P) (l:=ops.toList) (show j+1<=i from pX);omega
       .have h':=mI (P:=P) (l:=ops.toList) (show i+1<=j from pX);omega
      rw[h2 j oj g1 g2];constructor
      .rintro(e|e)
       .exact absurd e zX
       .omega
      .intro e;right;omega
    .rw[Ap dm jU,<-uQ];exact mI pX
    .have zX:j≠i:=λe=>by subst e;rw[t1]at wH;cases wH;rw[t3,hB]at oO;cases oO
     obtain⟨y,hy⟩:=VS b' j x ha hx;have TF:=uk j hj zX;obtain⟨q1,q2⟩:=h9.late j t' b' y TF wH oO ha hy;refine⟨q1,λRJ=>⟨?_,?_⟩⟩
     .rw[m3,aDy ⟨j,t',y,TF,wH,oO,ha,RJ,hy⟩];exact(q2 pX).1
     .have I8:=Pm wH oO pX;refine aeQ b' j t' y TF wH oO ha hy ?_;rcases aEG k2 j with hh|hh
      .exact hh
      .have:=mI (P:=P) (l:=ops.toList) hh;rw[n4,uQ]at this;omega
    .rw[m3,aDv];rintro⟨j,t',y,_,q1,q2,q3,q4,_⟩;exact qY j t' q3 q1 q2 q4
   |false=>
    have huj:∀u∈eQ,u.w=true->∃j oj,ops.toList[j]?=some oj/\mL P oj=true/\u.i=j/\u.c=ja P ops.toList j:=by
     intro u hu huw;obtain⟨j,hj,rfl⟩:=aEv hu;have RE:=xB dm jU (aDu hj);obtain⟨tj,_,g1,_,g2,_,_,g3,g4,_⟩:=mX dm jU RE;rw[aDu hj]at g1;cases g1;exact⟨j,_,RE,by rw[<-g3];exact huw,g2,g4⟩
    have Pd:∃s1,gN P call ops ab o fr s=.ok t.v s1:=by
     rw[oD Ku];rcases TQ i t t1 (by rw[t3];exact hw) aaG c s h4 with⟨u,g1,g2,g3,g4⟩|⟨u,g1,g2,g3,g4⟩|⟨s2,g⟩
     .obtain⟨j,oj,k1,k2,k3,k4⟩:=huj u g1 g2;rw[t2,k3]at g4;exact absurd (GG i j g4 ((h2 j oj k1 k2).2 pX)) Gh
     .obtain⟨j,oj,k1,k2,k3,k4⟩:=huj u g1 g2;rw[t2,k3]at g4;have:=(h2 j oj k1 k2).1 (PX j g4);omega
     .rw[t3,t2']at g;exact⟨s2,g⟩
    obtain⟨sx,Kj⟩:=Pd;rw[rB hw hB Kj]at Kj;obtain⟨azk,hsc⟩:=rD iZ fY Kj;refine rC hc hsc ug h5 λv' w' ρ' hv hA=>?_
    have jd:∀q,mV P ops as eQ listed c ρ q->s.m.g q=none:=by
     rintro q ⟨j,t',x,j1,j2,j3,j4,j5,j6⟩;exact((h9.late j t' q x j1 j2 j3 j4 j6).2 j5).2
    obtain⟨M1,b1,b2,b3⟩:=h9.step h8 h6 hA jd;have PN:∀q j,as[j]?=some (some q)->ρ q=none->ρ' q=none:=λq j hj hq=>hA.KJ q (by have:=dm.range j q hj;omega) hq;refine fin v' w' ρ' c s M1 hv hA.ext (xU hw) h3 h4 b1 h7 (λj b' hj oO=>PN b' j oO (Pb j b' hj oO).2) ⟨b2,λj t' b' x hj wH oO ha hx=>?_,λq x hx qY=>?_⟩
    .have zX:j≠i:=λe=>by subst e;rw[t1]at wH;cases wH;rw[t3,hB]at oO;cases oO
     cases hq:ρ b' with
     |none=>rw[PN b' j ha hq]at hx;cases hx
     |some y=>
      have TF:=uk j hj zX;obtain⟨q1,q2⟩:=h9.late j t' b' y TF wH oO ha hq;refine⟨q1,λRJ=>?_⟩;rw[b3,aDy ⟨j,t',y,TF,wH,oO,ha,RJ,hq⟩];exact q2 RJ
    .rw[b3,aDv];rintro⟨j,t',y,_,q1,q2,q3,q4,_⟩;exact qY j t' q3 q1 q2 q4
def QA (hc:iV P call)(hst:Cy P ops)(dm:uo P ops.toList AJ as jO)(jU:Hn (ops.toList.zip as) P call n ops 0 0 Ag jO eQ ch GL lZ)(TQ:aai P call ops (ch++[lZ]) eQ)(hlt:Rh P ops as (ch++[lZ]) eQ):∀(fuel:Nat) (listed:Array Bool) (a:Act) (w:World),
 Inv P ops as eQ ch lZ n ρ0 AJ jO Ag w0 listed a w->unl ops.size listed<=fuel->wpAny P .any ops (pR ρ0 AJ w0 n (.norm GL lZ)) fuel listed a w:=by
 intro fuel
 induction fuel with
 |zero=>
  intro listed a w h hu
  have hr:Region.ready .any ops listed=[]:=by
   rw[List.eq_nil_iff_forall_not_mem];intro i hi;obtain⟨h1,h2,h3⟩:=(sV h.size).1 hi
   have:listed.getD i true=false:=by
    have e:listed.getD i false=listed.getD i true:=by simp[h.size,h1]
    unfold pT at h2;rw[e]at h2;simpa using h2
   have:=JD h1 h.size this;omega
  exact⟨hr,h.done dm jU (Ax hst h.size hr)⟩
 |succ fuel ih=>
  intro listed a w h hu;refine⟨λhr=>h.done dm jU (Ax hst h.size hr),λi hi=>h.step hc hst dm jU TQ hlt hi λa' w' h'=>ih _ a' w' h' ?_⟩;obtain⟨h1,h2,h3⟩:=(sV h.size).1 hi
  have:listed.getD i true=false:=by
   have e:listed.getD i false=listed.getD i true:=by simp[h.size,h1]
   unfold pT at h2;rw[e]at h2;simpa using h2
  have:=JD h1 h.size this;omega
open Classical in
def fy (P:Program):yd:=λcall n ops fr st=>Ir P ops.toList st λas gF=>match qQ P call n ops (ops.toList.zip as) 0 0 fr gF with
 |some r=>if Cy P ops/\aai P call ops (r.2.1++[r.2.2.2]) r.1/\Rh P ops as (r.2.1++[r.2.2.2]) r.1 then .norm r.2.2.1 r.2.2.2 else .bad
 |none=>.bad
def nP (hm:P.follows .mixedOrders=true):tD P (fy P):=by
 intro call n hc id ops fr st ρ a w hb hw hf hn hd;unfold fy at hb⊢;obtain⟨as,gF,dm,hk⟩:=JO (P:=P) ops.toList st;rw[hk]at hb;rw[hk];have DR:(ops.toList.zip as).map (·.1)=ops.toList:=List.map_fst_zip aal;cases ht:qQ P call n ops (ops.toList.zip as) 0 0 fr gF with
 |none=>rw[ht]at hb;exact absurd rfl hb
 |some r=>
  obtain⟨eQ,ch,GL,lZ⟩:=r;rw[ht]at hb;dsimp only at hb⊢
  split at hb
  .rename_i TQ;rw[aDy TQ];obtain⟨hst,TQ,hlt⟩:=TQ;have jU:=EK ht (by rw[DR];exact hst.s3);have hpa:=dm.after ρ w hw;refine wp_region_any hm ?_;refine QA (w0:=w) hc hst dm jU TQ hlt _ _ _ _ ?_ ?_
   .have qY:∀i,¬pT (Array.replicate ops.size false) i:=λi hi=>by
     unfold pT at hi;simp only[Array.getD_eq_getD_getElem?,Array.getElem?_replicate]at hi
     split at hi<;>cases hi
    have RD:∀(j:Nat) (b:Nat),as[j]?=some (some b)->ρ b=none:=λj b hb=>by
     have:=dm.range j b hb;cases hh:ρ b with
     |none=>rfl
     |some x=>have:=hw.fresh b x hh;omega
    obtain⟨k2,n1,n2,n3,n4,n5,n6⟩:=vP dm jU ops.toList.length 0 pX;obtain⟨gn,gm⟩:=gap dm jU n1 n2 n3;have hf0:=jU.fst;rw[hf0]at gn gm;have PU:ja P ops.toList 0=0:=rfl;rw[PU]at n5;have qA:∀q x,ρ q=some x->(lq eQ lZ k2).m.g q=gF.m.g q:=λq x hx=>gm q λj t _ _ _ _ q5=>by rw[RD j q q5]at hx;cases hx
    exact⟨rq,λi hi=>absurd hi (qY i),λi hi=>absurd hi (qY i),⟨fr,0,ρ,lq eQ lZ k2,lq eQ lZ k2,⟨λj o d t hj=>absurd hj (qY j),λp _=>rfl⟩,λj o _ _=>⟨λhh=>absurd hh (qY j),λhh=>absurd hh (Nat.not_lt_zero _)⟩,aFH _,n5,hf,(hpa.trans (bh.draw hpa.wr _)).rE qA gn,by rw[gn];exact aDt _,λj b _ hb=>RD j b hb,
     ⟨rfl,λj t b x hj=>absurd hj (qY j),λq x _ _=>rfl⟩⟩,hn,hd⟩
   .unfold unl;exact aEB List.countP_le_length rq
  .exact absurd rfl hb
end
end
