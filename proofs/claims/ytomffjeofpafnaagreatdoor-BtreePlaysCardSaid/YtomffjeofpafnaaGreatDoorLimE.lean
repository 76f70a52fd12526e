import Derived.Test.YtomffjeofpafnaaGreatDoorLimD
import Derived.Orders
namespace Lim
open Go
noncomputable section
abbrev aeb (p q:Nat):Bool:=Nat.beq p q
theorem FM {p q:Nat}:aeb p q=true↔p=q:=by rw[aBi]
def vU (x:Option eQ):List eQ:=match x with|some x=>[x]|none=>[]
def Az.args:Az->List eQ
 | .SX x| .nil x| .un _ x| .conv _ x| .GS _ x| .iface _ x| .fieldAddr _ x| .field _ _ _ x| .extract x _| .len _ x| .clear _ x| .box _ x| .EB x| .yB _ x=>[x]
 | .pick c a b=>[c,a,b]
 | .new _ _=>[]
 | .build _ ps=>ps.map (·.2.2)
 | .buildSlice _ _ _ ps=>ps.map (·.2.2)
 | .store _ a x| .bin _ _ _ a x| .ud _ _ a x| .yM _ a x| .uc a x| .ue _ _ _ a x| .lookup _ _ _ a x| .mapEntry _ _ a x| .append _ _ _ _ _ a x| .copy _ _ a x| .rh _ a x| .delete _ a x=>[a,x]
 | .func _ f c=>f++c
 | .mkMap r=>vU r
 | .mkSlice _ _ _ l c=>[l,c]
 | .nj x lo hi| .pI _ x lo hi| .nm _ _ x lo hi=>x::(vU lo++vU hi)
 | .slice3 _ x lo hi mx=>x::hi::mx::vU lo
 | .mapUpdate _ m k x| .entryStore m k x=>[m,k,x]
 | .call _ args=>args
 | .Bv f args=>f::args
theorem sD {fr fr':Fr}:∀{l:List eQ},(∀x∈l,ev fr x=ev fr' x)->Jq fr l=Jq fr' l:=by
 intro l
 induction l with
 |nil=>intro _;rfl
 |cons x l ih=>
  intro h;show ev fr x::Jq fr l=ev fr' x::Jq fr' l;rw[h x (by simp),ih fun y hy=>h y (by simp[hy])]
theorem Bn {fr fr':Fr}:∀{l:List tE},(∀x∈l.map (·.2.2),ev fr x=ev fr' x)->KP fr l=KP fr' l:=by
 intro l
 induction l with
 |nil=>intro _;rfl
 |cons p l ih=>
  intro h;show(p.1,p.2.1,ev fr p.2.2)::KP fr l=(p.1,p.2.1,ev fr' p.2.2)::KP fr' l;rw[h p.2.2 (by simp),ih fun y hy=>h y (by simp at hy⊢;exact .inr hy)]
theorem sC {fr fr':Fr}{x:Option eQ}(h:∀y∈vU x,ev fr y=ev fr' y):OF fr x=OF fr' x:=by
 cases x with
 |none=>rfl
 |some x=>show some (ev fr x)=some (ev fr' x);rw[h x (by simp[vU])]
theorem DY {call:fT}{op:Az}{fr fr':Fr}{st:St}(h:∀x∈op.args,ev fr x=ev fr' x):cX call op fr st=cX call op fr' st:=by
 cases op<;>simp only[Az.args,aAD,aAM,aBo,aCg,forall_eq_or_imp,forall_eq]at h<;>simp only[cX]
 all_goals first
  |rfl
  |rw[h]
  |rw[h.1,h.2]
  |rw[h.1,h.2.1,h.2.2]
  |rw[sD h]
  |rw[Bn h]
  |rw[sC h]
  |rw[h.1,sD h.2]
  |rw[sD fun x hx=>h x (.inl hx),sD fun x hx=>h x (.inr hx)]
  |rw[h.1,sC fun x hx=>h.2 x (.inl hx),sC fun x hx=>h.2 x (.inr hx)]
  |rw[h.1,h.2.1,h.2.2.1,sC h.2.2.2]
def Az.still:Az->Bool
 | .SX _| .pick .. | .EB _| .yB .. | .nil _| .un .. | .GS .. | .iface .. | .func .. | .nj .. | .pI .. | .slice3 .. | .nm .. | .fieldAddr .. | .field .. =>true
 | .ud .. | .yM .. | .uc .. | .ue .. | .lookup .. | .extract .. | .len .. | .rh .. | .bin .. | .build .. =>true
 | .conv c _=>(match c with| .bytesOf _=>false|_=>true)
 |_=>false
structure Still (st:St)(r:OR):Prop where
 eq:∀v st',r= .ok v st'->st'=st
section
variable {st:St}
theorem Still.bad:Still st .bad:=⟨fun _ _ h=>by cases h⟩
theorem Still.ok (v:CV):Still st (.ok v st):=⟨fun _ _ h=>by cases h;rfl⟩
theorem Still.bu {b:Bool}{x y:OR}(hx:Still st x)(hy:Still st y):Still st (bu b x y):=by cases b;exact hy;exact hx
theorem Still.opt {α:Type}{x:Option α}{n:OR}{f:α->OR}(hn:Still st n)(h:∀v,Still st (f v)):Still st (Option.rec (motive:=fun _=>OR) n f x):=by cases x;exact hn;exact h _
theorem Still.nL {α:Type}{n:α}{f:α->OR}(h:∀v,Still st (f v)):Still st (Lim.nL n f):=by rw[dE];exact h _
end
theorem Still.VW {st:St}{op:BinOp}{k:IntKind}{a b:Int}:Still st (ln op k a b st):=by
 cases op<;>simp only[ln]<;>first|exact Still.ok _|exact Still.bad|(split<;>first|exact Still.ok _|exact Still.bad)
theorem Still.int {st:St}{op:BinOp}{k j:IntKind}{a b:Int}:Still st (ju op k a j b st):=by
 cases op<;>simp only[ju]<;>split<;>first|exact Still.ok _|exact Still.bad|exact Still.VW
theorem Still.str {st:St}{op:BinOp}{a b:List UInt8}:Still st (qY op a b st):=by
 cases op<;>simp only[qY]<;>first|exact Still.ok _|exact Still.bad|(split<;>first|exact Still.ok _|exact Still.bad)
theorem Still.bin {st:St}{op:BinOp}{d:Option jL}{zQ:Bool}{x y:CV}:Still st (aj op d zQ x y st):=by
 unfold aj
 split<;>first
  |exact Still.int
  |exact Still.str
  |exact Still.bad
  |(unfold uS;split<;>first|exact Still.bad|exact Still.bu Still.bad (Still.ok _))
  |(split
    ·unfold Yy;split<;>first|exact Still.ok _|exact Still.bad
    ·exact Still.bad)
theorem Still.of {st:St}{r:OR}(h:∀v st',r= .ok v st'->st'=st):Still st r:=⟨h⟩
theorem qV {call:fT}{op:Az}{fr:Fr}{st:St}(h:op.still=true):Still st (cX call op fr st):=by
 cases op with
 |SX x=>exact Still.ok _
 |pick c a b=>simp only[cX];unfold ba;split<;>first|exact Still.bu (Still.ok _) (Still.ok _)|exact Still.bad
 |EB x=>simp only[cX];unfold aC;split<;>first|(split<;>first|exact Still.opt Still.bad (fun _=>Still.ok _)|exact Still.bad)|exact Still.bad
 |yB n x=>simp only[cX];unfold aI;split<;>first|(split<;>first|exact Still.opt Still.bad (fun _=>Still.ok _)|exact Still.bad)|exact Still.bad
 |nil x=>simp only[cX];unfold dH;split<;>first|exact Still.ok _|exact Still.bad
 |bin op d zQ x y=>exact Still.bin
 |un op x=>simp only[cX];unfold lj;split<;>first|exact Still.ok _|exact Still.bad|(split<;>first|exact Still.ok _|exact Still.bad)
 |conv c x=>simp only[cX];unfold dB;split<;>first|exact Still.ok _|exact Still.bad|(cases h;done)|(split<;>first|exact Still.bad|(split<;>first|exact Still.ok _|exact Still.bad))
 |GS n x=>simp only[cX];unfold nZ;split<;>first|exact Still.bu (Still.ok _) Still.bad|exact Still.bad
 |iface t x=>exact Still.ok _
 |func fn f c=>exact Still.ok _
 |nj x lo hi=>simp only[cX];unfold ki;split<;>first|exact Still.bad|(split<;>first|exact Still.ok _|exact Still.bad)
 |pI size x lo hi=>
  simp only[cX];unfold aL;split
  ·split<;>first|exact Still.ok _|exact Still.bad
  ·refine Still.bu ?_ Still.bad
   split
   ·exact Still.bu (Still.ok _) (Still.bu (Still.ok _) Still.bad)
   ·exact Still.bad
  ·exact Still.bad
 |slice3 size x lo hi mx=>
  simp only[cX];unfold iv;split
  ·split
   ·split
    ·exact Still.bu (Still.bu (Still.ok _) (Still.ok _)) Still.bad
    ·exact Still.bad
   ·exact Still.bad
  ·split
   ·split<;>first|exact Still.ok _|exact Still.bad
   ·exact Still.bad
  ·exact Still.bad
 |nm n size x lo hi=>simp only[cX];unfold bR;split<;>first|exact Still.bad|(split<;>first|exact Still.bad|exact Still.bu (Still.ok _) (Still.ok _))
 |fieldAddr off x=>simp only[cX];unfold an;split<;>first|exact Still.ok _|exact Still.bad
 |field agg off size x=>simp only[cX];unfold yu;split<;>first|exact Still.opt Still.bad (fun _=>Still.ok _)|exact Still.bad
 |ud n size x i=>simp only[cX];unfold fI;split<;>first|exact Still.bu (Still.ok _) Still.bad|exact Still.bad
 |yM size x i=>simp only[cX];unfold cQ;split<;>first|exact Still.bu (Still.ok _) Still.bad|exact Still.bad
 |uc x i=>simp only[cX];unfold oe;split<;>first|exact Still.bad|(split<;>first|exact Still.ok _|exact Still.bad)
 |ue n size agg x i=>simp only[cX];unfold uQ;split<;>first|exact Still.bu (Still.opt Still.bad (fun _=>Still.ok _)) Still.bad|exact Still.bad
 |lookup d z ok x k=>
  simp only[cX];unfold iw;refine Still.bu ?_ Still.bad
  split
  ·unfold uO;split<;>first|exact Still.bad|(split<;>exact Still.bu (Still.ok _) (Still.ok _))
  ·split
   ·split<;>first|exact Still.bad|exact Still.bu (Still.ok _) (Still.ok _)
   ·exact Still.bad
 |extract x i=>simp only[cX];unfold az;split<;>first|exact Still.opt Still.bad (fun _=>Still.ok _)|exact Still.bad
 |len k x=>simp only[cX];unfold bh;split<;>first|exact Still.ok _|exact Still.bad|exact Still.bu (Still.ok _) (Still.ok _)|(split<;>first|exact Still.ok _|exact Still.bad)
 |rh mx x y=>simp only[cX];unfold AW;split<;>first|exact Still.bu (Still.ok _) Still.bad|exact Still.bad
 |build z parts=>simp only[cX];unfold bD;exact Still.opt Still.bad (fun _=>Still.ok _)
 |_=>cases h
def nu (P:Program)(o:Oper):Option (TypeId×List CV):=
 match o.op with
 | .alloc t=>(match P.info? t with|some i=>(match xL i with|some z=>some (t,z)|none=>none)|none=>none)
 |_=>none
def kj (P:Program)(o:Oper):Option (Nat×Nat×List CV×List tE):=
 match o.op with
 | .buildSlice t len parts=>(match P.underlying t with
   |some (.slice e)=>(match P.info? e with
    |some i=>bu (Nat.ble (Nat.mul len i.size) 16777216) (match xL i,rG (mw i.size) parts.toList with|some z,some ps=>some (e,len,z,ps)|_,_=>none) none
    |none=>none)
   |_=>none)
 |_=>none
def oM (P:Program)(o:Oper):Bool:=Option.rec (motive:=fun _=>Bool) false (fun _=>true) (kj P o)
def fR (b:Nat)(e len:Nat)(z:List CV)(parts:List ta)(st:St):OR:=
 Option.rec (motive:=fun _=>OR) (Option.rec .bad (fun s=> .ok (.slice b 0 len len 0) ⟨st.mem.put b (some (.cells s e false)),st.next⟩) (fX parts z)) (fun _=> .bad) (st.mem.get b)
open Classical in
def iM (b:Nat)(z:List CV)(t:TypeId)(st:St):OR:=match st.mem.get b with|some (.cells s u _)=>if s=z/\u=t then .ok (.ptr b 0) st else .bad|_=> .bad
def gI (P:Program)(call:fT)(ops:Array Oper)(ab:Option Nat)(o:Oper)(fr:Fr)(st:St):OR:=
 match nu P o,ab with
 |none,none=>l4 P call ops o fr st
 |some tz,some b=>(match eZ ops fr o with|some true=>iM b tz.2 tz.1 st|some false=> .ok .undef st|none=> .bad)
 |none,some b=>(match kj P o with
  |some x=>(match eZ ops fr o with|some true=>fR b x.1 x.2.1 (cH x.2.1 x.2.2.1) (KP fr x.2.2.2) st|some false=> .ok .undef st|none=> .bad)
  |none=> .bad)
 |_,_=> .bad
def mm (P:Program)(o:Oper):Bool:=match nu P o with|some _=>false|none=>(match kj P o with|some _=>false|none=>(match lN P o.op with|some op=>Bool.not op.still|none=>false))
theorem Hv {P:Program}{o:Oper}{e len:Nat}{z:List CV}{ps:List tE}(h:kj P o=some (e,len,z,ps)):lN P o.op=some (.buildSlice e len z ps):=by
 unfold kj at h;unfold lN
 split at h
 ·rename_i t l parts ho;rw[ho];dsimp only
  split at h
  ·rename_i e' hu;rw[hu];dsimp only
   split at h
   ·rename_i i hi;rw[hi];dsimp only;rw[aO]at h⊢
    split at h
    ·rename_i hb;rw[aAI hb]
     split at h
     ·rename_i z' nX hz hp;cases h;rw[hz,hp]
     ·cases h
    ·cases h
   ·cases h
  ·cases h
 ·cases h
theorem vV {P:Program}{o:Oper}(h:nu P o≠none):kj P o=none:=by
 unfold nu at h;unfold kj
 split at h
 ·rename_i t ho;rw[ho]
 ·exact absurd rfl h
section
variable {P:Program} {ρ:Ren} {st st':St} {w:World} {v:CV} {fr:Fr} {a:Act} {call:fT}
theorem bf.qS {ρ0:Ren}{mu M M2:St}{w0:World}(h:bf ρ0 mu w0 ρ M w)(hm:∀q x,ρ q=some x->M2.mem.get q=M.mem.get q)(hn:M2.next=M.next):bf ρ0 mu w0 ρ M2 w where
 wr:=⟨fun b blk r sz h1 h2=>h.wr.at' b blk r sz (by rw[<-hm b _ h2];exact h1) h2,fun b b' k k' r s s' h1 h2 h3 h4=>h.wr.inj b b' k k' r s s' (by rw[<-hm b _ h3];exact h1) (by rw[<-hm b' _ h4];exact h2) h3 h4,fun b x hx=>by rw[hn];exact h.wr.fresh b x hx⟩
 ext:=h.ext
 Jt:=h.Jt
 next:=by rw[hn];exact h.next
 origin:=fun b blk r sz h1 h2=>h.origin b blk r sz (by rw[<-hm b _ h2];exact h1) h2
 kept:=h.kept
 size:=h.size
 os:=h.os
 output:=h.output
theorem WR.sub {M s:St}(h:WR ρ M w)(hm:∀q x,ρ q=some x->s.mem.get q=M.mem.get q\/s.mem.get q=none)(hn:s.next=M.next):WR ρ s w:=by
 have key:∀b blk x,s.mem.get b=some blk->ρ b=some x->M.mem.get b=some blk:=fun b blk x h1 h2=>by
  rcases hm b x h2 with e|e
  ·rw[<-e];exact h1
  ·rw[e]at h1;cases h1
 exact⟨fun b blk r sz h1 h2=>h.at' b blk r sz (key b blk _ h1 h2) h2,fun b b' k k' r z z' h1 h2 h3 h4=>h.inj b b' k k' r z z' (key b k _ h1 h3) (key b' k' _ h2 h4) h3 h4,fun b x hx=>by rw[hn];exact h.fresh b x hx⟩
theorem bf.frame {M M' s s':St}{ρ':Ren}{w':World}(h:WR ρ M w)(hn:s.next=M.next)(hm:∀q x,ρ q=some x->s.mem.get q=M.mem.get q\/s.mem.get q=none)(hA:bf ρ s w ρ' s' w')(hn':M'.next=s'.next)
 (zO:∀q x,ρ' q=some x->M'.mem.get q=s'.mem.get q\/((∃y,ρ q=some y)/\s.mem.get q=none/\M'.mem.get q=M.mem.get q)):bf ρ M w ρ' M' w':=by
 have low:∀q blk r sz,M.mem.get q=some blk->ρ q=some (r,sz)->r<w.heap.size:=fun q blk r sz h1 h2=>by
  obtain⟨o,e2,_⟩:=h.at' q blk r sz h1 h2;exact(aBr.1 e2).1
 have up:∀q blk x,s.mem.get q=some blk->ρ q=some x->M.mem.get q=some blk:=fun q blk x h1 h2=>by
  rcases hm q x h2 with e|e
  ·rw[<-e];exact h1
  ·rw[e]at h1;cases h1
 have mix:∀b blk r sz,s'.mem.get b=some blk->ρ' b=some (r,sz)->∀q eY Pq,s.mem.get q=none->M.mem.get q=some eY->ρ q=some (r,Pq)->False:=by
  intro b blk r sz h1 h2 q eY Pq h3 h4 h5;rcases hA.origin b blk r sz h1 h2 with⟨b0,blk0,BJ,g1,g2⟩|g
  ·have:=h.inj b0 q blk0 eY r BJ Pq (up b0 blk0 _ g1 g2) h4 g2 h5;subst this;rw[h3]at g1;cases g1
  ·have:=low q eY r Pq h4 h5;omega
 have YW:∀b blk r sz,M'.mem.get b=some blk->ρ' b=some (r,sz)->(∃b0 blk0 BJ,M.mem.get b0=some blk0/\ρ b0=some (r,BJ))\/w.heap.size<=r:=fun b blk r sz h1 h2=>by
  rcases zO b _ h2 with e|⟨⟨y,e2⟩,e3,e4⟩
  ·rcases hA.origin b blk r sz (by rw[<-e];exact h1) h2 with⟨b0,blk0,BJ,g1,g2⟩|g
   ·exact .inl ⟨b0,blk0,BJ,up b0 blk0 _ g1 g2,g2⟩
   ·exact .inr g
  ·have:=hA.ext b y e2;rw[h2]at this;cases this;exact .inl ⟨b,blk,sz,by rw[<-e4];exact h1,e2⟩
 have Ap:∀r:Nat,r<w.heap.size->(∀b blk sz,M.mem.get b=some blk->ρ b≠some (r,sz))->w'.heap[r]?=w.heap[r]?:=fun r hr hk=>hA.kept r hr fun b blk sz g1 g2=>hk b blk sz (up b blk _ g1 g2) g2;refine⟨⟨fun b blk r sz h1 h2=> ?_,fun b b' k k' r z z' h1 h2 h3 h4=> ?_,fun b x hx=>by rw[hn'];exact hA.wr.fresh b x hx⟩,hA.ext,fun q hq hr=>hA.Jt q (by rw[hn];exact hq) hr,by rw[hn',<-hn];exact hA.next,fun b blk r sz h1 h2=> ?_,fun r hr hk=>hA.kept r hr fun b blk sz g1 g2=>hk b blk sz (up b blk _ g1 g2) g2,hA.size,hA.os,hA.output⟩
 ·rcases zO b _ h2 with e|⟨⟨y,e2⟩,e3,e4⟩
  ·exact hA.wr.at' b blk r sz (by rw[<-e];exact h1) h2
  ·have:=hA.ext b y e2;rw[h2]at this;cases this;rw[e4]at h1;obtain⟨o,g1,g2⟩:=h.at' b blk r sz h1 e2;refine⟨o, ?_,g2.mono hA.ext⟩;rw[hA.kept r (low b blk r sz h1 e2)]
   ·exact g1
   ·intro b' eY Pq g3 g4;have:=h.inj b' b eY blk r Pq sz (up b' eY _ g3 g4) h1 g4 e2;subst this;rw[e3]at g3;cases g3
 ·rcases zO b _ h3 with e|⟨⟨y,e2⟩,e3,e4⟩
  ·rcases zO b' _ h4 with f|⟨⟨y',f2⟩,f3,f4⟩
   ·exact hA.wr.inj b b' k k' r z z' (by rw[<-e];exact h1) (by rw[<-f];exact h2) h3 h4
   ·have:=hA.ext b' y' f2;rw[h4]at this;cases this;exact absurd (mix b k r z (by rw[<-e];exact h1) h3 b' k' z' f3 (by rw[<-f4];exact h2) f2) id
  ·have:=hA.ext b y e2;rw[h3]at this;cases this;rcases zO b' _ h4 with f|⟨⟨y',f2⟩,f3,f4⟩
   ·exact absurd (mix b' k' r z' (by rw[<-f];exact h2) h4 b k z e3 (by rw[<-e4];exact h1) e2) id
   ·have:=hA.ext b' y' f2;rw[h4]at this;cases this;exact h.inj b b' k k' r z z' (by rw[<-e4];exact h1) (by rw[<-f4];exact h2) e2 f2
 ·rcases zO b _ h2 with e|⟨⟨y,e2⟩,e3,e4⟩
  ·rcases hA.origin b blk r sz (by rw[<-e];exact h1) h2 with⟨b0,blk0,BJ,g1,g2⟩|g
   ·exact .inl ⟨b0,blk0,BJ,up b0 blk0 _ g1 g2,g2⟩
   ·exact .inr g
  ·have:=hA.ext b y e2;rw[h2]at this;cases this;exact .inl ⟨b,blk,sz,by rw[<-e4];exact h1,e2⟩
theorem bf.adZ {ρ0:Ren}{mu M:St}{w0:World}{b:Nat}{s:List CV}{t:TypeId}{g:Bool}{l:List Value}(hA:bf ρ0 mu w0 ρ M w)(hm:M.mem.get b=some (.cells s t g))(hb:ρ b=none)(hlt:b<M.next)(hl:eu ρ s l)(hN:mu.next<=b):
 bf ρ0 mu w0 (ρ.set b (w.heap.size,l.length)) M {w with heap:=w.heap.push (.cells l.toArray t)}:=by
 have hw:=hA.wr
 have hle:ρ.le (ρ.set b (w.heap.size,l.length)):=fun q x hx=>by
  rw[Ren.dt _ _ _ _ (fun e=>by subst e;rw[hb]at hx;cases hx)];exact hx
 have abK:∀q blk r s,M.mem.get q=some blk->ρ q=some (r,s)->r<w.heap.size:=fun q blk r s h1 h2=>by
  obtain⟨o,e2,_⟩:=hw.at' q blk r s h1 h2;exact(aBr.1 e2).1
 have uq:WR (ρ.set b (w.heap.size,l.length)) M {w with heap:=w.heap.push (.cells l.toArray t)}:=by
  refine⟨fun q blk r sz h1 h2=> ?_,fun q q' blk eY r sz Pq h1 h2 h3 h4=> ?_,fun q x hx=> ?_⟩
  ·by_cases e:q=b
   ·subst e;rw[Ren.ey]at h2;cases h2;rw[hm]at h1;cases h1;have hlen:s.length=l.length:=by rw[hl.len]
    refine⟨.cells l.toArray t,by simp, ?_⟩;have PN:=BR.cells (ρ:=ρ.set q (w.heap.size,l.length)) s t g l.toArray 0 0 (by simp[hlen]) (by rw[hlen];simpa using hl.mono hle) (by omega) (by intros;omega)
    simpa using PN
   ·rw[Ren.dt _ _ _ _ e]at h2;obtain⟨o,e2,e3⟩:=hw.at' q blk r sz h1 h2;refine⟨o, ?_,e3.mono hle⟩;have:=(aBr.1 e2).1;show(w.heap.push _)[r]?=_;rw[aCY,aAH (by omega)];exact e2
  ·by_cases e:q=b
   ·by_cases e':q'=b
    ·rw[e,e']
    ·rw[e,Ren.ey]at h3;cases h3;rw[Ren.dt _ _ _ _ e']at h4;have:=abK q' eY _ _ h2 h4;omega
   ·by_cases e':q'=b
    ·rw[e',Ren.ey]at h4;cases h4;rw[Ren.dt _ _ _ _ e]at h3;have:=abK q blk _ _ h1 h3;omega
    ·rw[Ren.dt _ _ _ _ e]at h3;rw[Ren.dt _ _ _ _ e']at h4;exact hw.inj q q' blk eY r sz Pq h1 h2 h3 h4
  ·by_cases e:q=b
   ·subst e;exact hlt
   ·rw[Ren.dt _ _ _ _ e]at hx;exact hw.fresh q x hx
 refine⟨uq,fun q x hx=>hle q x (hA.ext q x hx),fun q hq hn=> ?_,hA.next,fun q blk r sz h1 h2=> ?_,fun r hr hn=> ?_, ?_,hA.os,hA.output⟩
 ·rw[Ren.dt _ _ _ _ (fun e=>by subst e;omega)];exact hA.Jt q hq hn
 ·by_cases e:q=b
  ·subst e;rw[Ren.ey]at h2;cases h2;exact .inr hA.size
  ·rw[Ren.dt _ _ _ _ e]at h2;exact hA.origin q blk r sz h1 h2
 ·show(w.heap.push _)[r]?=_;have:=hA.size;rw[aCY,aAH (by omega)];exact hA.kept r hr hn
 ·show w0.heap.size<=(w.heap.push _).size;have:=hA.size;rw[Array.size_push];omega
theorem Kh {o:Oper}{t:TypeId}{z:List CV}(h:nu P o=some (t,z)):∃l:List Value,(∀ρ,eu ρ z l)/\
 ∀(f:Operand->Value) (w:World),(execOp f o).run P w= .ok (.value (.pointer (some ⟨w.heap.size,0,none⟩))) {w with heap:=w.heap.push (.cells l.toArray t)}:=by
 unfold nu at h
 split at h
 ·rename_i t' ho
  split at h
  ·rename_i i hi
   split at h
   ·rename_i z' hz;cases h;obtain⟨zv,z1,z2,z3⟩:=jr hz;refine⟨zv.cells.toList,z3,fun f w=> ?_⟩;unfold execOp;rw[ho];simp[Instr.alloc,zeroValue,typeInfo,hi,z1,newVar]
    rfl
   ·cases h
  ·cases h
 ·cases h
theorem KN {i:TypeInfo}{len:Nat}{z s:List CV}{z':Value}{parts:List ta}{parts':Array (Nat×Value)}(hf:fX parts (cH len z)=some s)(hsz:z'.cells.size=i.size)(vJ:∀ρ,eu ρ z z'.cells.toList)(hp:qf ρ (mw i.size) parts parts'.toList):
 ∃j7,Instr.fill (mw i.size) ((Array.range (len*i.size)).map (z'.cells[·%z'.cells.size]!)) parts'.toList=some j7/\eu ρ s j7.toList:=by
 have jg:(List.replicate len z'.cells.toList).flatten=((Array.range (len*i.size)).map (z'.cells[·%z'.cells.size]!)).toList:=by
  rw[<-hsz,aCj,aDe];exact(oP z'.cells len).symm
 have hvz:eu ρ (cH len z) ((Array.range (len*i.size)).map (z'.cells[·%z'.cells.size]!)).toList:=by
  rw[<-jg];exact(vJ ρ).flatten len
 exact qd hp hf hvz
theorem M9 {o:Oper}{e len:Nat}{z s:List CV}{ps:List tE}(h:kj P o=some (e,len,z,ps))(hf:FR ρ fr a.tmps)(hs:fX (KP fr ps) (cH len z)=some s):
 ∃l:List Value,eu ρ s l/\∀w,(execOp a.eval o).run P w= .ok (.value (.slice (some ⟨w.heap.size,0,none⟩) len len)) {w with heap:=w.heap.push (.cells l.toArray e)}:=by
 unfold kj at h
 split at h
 ·rename_i t l parts ho
  split at h
  ·rename_i e' hu
   split at h
   ·rename_i i hi;simp only[aO,aBe]at h
    split at h
    ·rename_i hle
     split at h
     ·rename_i z' nX hz hp;cases h;obtain⟨zv,z1,z2,z3⟩:=jr hz;have Tu:=mV hp hf;obtain⟨j7,f1,f2⟩:=KN (parts':=parts.map fun p=>(p.1,a.eval p.2)) hs z2 z3 (by rw[aCj];exact Tu);refine⟨j7.toList,f2,fun w=> ?_⟩;have hn:¬(len*i.size>2^24):=by have WN:len*i.size<=16777216:=hle;show¬(len*i.size>16777216);omega
      have h1:∀c:Array Value,(newRow e c).run P w= .ok ⟨w.heap.size,0,none⟩ {w with heap:=w.heap.push (.cells c e)}:=fun c=>rfl
      have he:execOp a.eval o=(do let v<-Instr.buildSlice t len (parts.map fun p=>(p.1,a.eval p.2));pure (.value v)):=by
       unfold execOp;rw[ho]
      have HE:(fun k=>some (k*i.size,i.size))=mw i.size:=rfl;rw[he,aCf];simp only[Instr.buildSlice,Sem.run_bind,aAL hu,Result.andThen_ok,Go.sizeOf,typeInfo,run_program,hi,Sem.run_pure,aAH hn]
      by_cases h0:len*i.size=0
      ·have YL:((Array.range (len*i.size)).map (zv.cells[·%zv.cells.size]!))=((Array.range (len*i.size)).map ((#[]:Array Value)[·%(#[]:Array Value).size]!)):=by
        rw[h0,Array.range_zero'];simp
       rw[YL]at f1;rw[aAI h0]
       show Result.andThen (Sem.run P (do
        let some cells:=Instr.fill (mw i.size) ((Array.range (len*i.size)).map ((#[]:Array Value)[·%(#[]:Array Value).size]!)) (parts.map fun p=>(p.1,a.eval p.2)).toList|stuck "buildSlice: a part of the wrong size"
        pure (Value.slice (some (<-newRow e cells)) len len)) w) _=_
       rw[f1];simp only[Sem.run_bind,h1,Result.andThen_ok,Sem.run_pure]
      ·rw[aAH h0];simp only[zeroValue,typeInfo,Sem.run_bind,run_program,Result.andThen_ok,hi,z1,Sem.run_pure];rw[HE,f1];simp only[Sem.run_bind,h1,Result.andThen_ok,Sem.run_pure]
     ·cases h
    ·cases h
   ·cases h
  ·cases h
 ·cases h
theorem zU {ops:Array Oper}{b:Nat}{o:Oper}{tz:TypeId×List CV}(hnf:nu P o=some tz){M:St}(h:gI P call ops (some b) o fr st= .ok v st')(hm:M.mem.get b=st.mem.get b){ρ0:Ren}{mu:St}{w0:World}(hA:bf ρ0 mu w0 ρ M w)(hf:FR ρ fr a.tmps)(hb:ρ b=none)(hlt:b<M.next)(hN:mu.next<=b)
 {next:Act->World->Prop} {Q:Exit->Act->World->Prop} (hn:∀v' w' ρ',VR ρ' v v'->bf ρ0 mu w0 ρ' M w'->ρ.le ρ'->(∀q,q≠b->ρ' q=ρ q)->next (a.put o.dst v') w'):
 if Region.wanted o (yielded ops a.tmps)then o.wp P a w next Q else next (a.put o.dst undef) w:=by
 obtain⟨t,z⟩:=tz;unfold gI at h;rw[hnf]at h;dsimp only at h
 split at h
 ·rename_i hwt;rw[aAI (iG hwt hf)];unfold iM at h
  split at h
  ·rename_i s u g tx
   split at h
   ·rename_i hh;obtain⟨rfl,rfl⟩:=hh;cases h;obtain⟨l,hl,jx⟩:=Kh hnf;unfold Oper.wp;rw[jx];exact hn _ _ _ (.ptr b 0 _ _ (Ren.ey ρ b _)) (hA.adZ (by rw[hm];exact tx) hb hlt (hl ρ) hN) (fun q x hx=>by rw[Ren.dt _ _ _ _ (fun e=>by subst e;rw[hb]at hx;cases hx)];exact hx) (fun q hq=>Ren.dt _ _ _ _ hq)
   ·cases h
  ·cases h
 ·rename_i hwt;rw[aAH (by rw[iG hwt hf];simp)];cases h;exact hn _ w ρ .undef hA (fun _ _ h=>h) fun _ _=>rfl
 ·cases h
theorem uH {ops:Array Oper}{b:Nat}{o:Oper}{x:Nat×Nat×List CV×List tE}(hl:kj P o=some x)(h:gI P call ops (some b) o fr st= .ok v st'):
 (eZ ops fr o=some false/\v= .undef/\st'=st)\/
 (eZ ops fr o=some true/\∃s,fX (KP fr x.2.2.2) (cH x.2.1 x.2.2.1)=some s/\st.mem.get b=none/\v= .slice b 0 x.2.1 x.2.1 0/\st'=⟨st.mem.put b (some (.cells s x.1 false)),st.next⟩):=by
 have hn:nu P o=none:=by
  cases hh:nu P o with
  |none=>rfl
  |some tz=>have:=vV (P:=P) (o:=o) (by rw[hh];simp);rw[hl]at this;cases this
 unfold gI at h;rw[hn,hl]at h;dsimp only at h
 split at h
 ·rename_i hwt;unfold fR at h;cases hg:st.mem.get b with
  |some _=>rw[hg]at h;cases h
  |none=>
   rw[hg]at h;cases hf:fX (KP fr x.2.2.2) (cH x.2.1 x.2.2.1)with
   |none=>rw[hf]at h;cases h
   |some s=>
    rw[hf]at h;dsimp only at h;cases h;exact .inr ⟨hwt,s,rfl,rfl,rfl,rfl⟩
 ·rename_i hwt;cases h;exact .inl ⟨hwt,rfl,rfl⟩
 ·cases h
theorem qR {ops:Array Oper}{ab:Option Nat}{o:Oper}(hn:nu P o=none)(hl:kj P o=none)(h:gI P call ops ab o fr st= .ok v st'):ab=none/\l4 P call ops o fr st= .ok v st':=by
 unfold gI at h;rw[hn]at h;cases ab with
 |none=>exact⟨rfl,h⟩
 |some b=>dsimp only at h;rw[hl]at h;cases h
theorem zR {ops:Array Oper}{o:Oper}{fr':Fr}(h:∀g b d,o.guard=some (g,b)->(ops[g]?).bind (·.dst)=some d->fx fr (d)=fx fr' (d)):eZ ops fr o=eZ ops fr' o:=by
 unfold eZ;cases hg:o.guard with
 |none=>rfl
 |some gb=>
  obtain⟨g,b⟩:=gb;dsimp only;cases hd:(ops[g]?).bind (·.dst)with
  |none=>rfl
  |some d=>dsimp only;rw[h g b d hg hd]
end
def Hc {β:Type}(P:Program)(l:List Oper):St->(List (Option Nat)->St->β)->β:=
 List.rec (motive:=fun _=>St->(List (Option Nat)->St->β)->β) (fun st k=>k [] st)
  (fun o _ ih st k=>Option.rec (Bool.rec (motive:=fun _=>β) (ih st fun as st=>k (none::as) st) (nL (st.next+1) fun nx=>ih ⟨st.mem,nx⟩ fun as tL=>k (some st.next::as) tL) (oM P o))
   (fun tz=>nL (st.next+1) fun nx=>nL ⟨st.mem.put st.next (some (.cells tz.2 tz.1 false)),nx⟩ fun gw=>ih gw fun as tL=>k (some st.next::as) tL) (nu P o)) l
structure tD (P:Program)(l:List Oper)(st:St)(as:List (Option Nat))(gw:St):Prop where
 len:as.length=l.length
 next:st.next<=gw.next
 range:∀(i:Nat) (b:Nat),as[i]?=some (some b)->st.next<=b/\b<gw.next
 uniq:∀(i j:Nat) (b:Nat),as[i]?=some (some b)->as[j]?=some (some b)->i=j
 after:∀ρ w,WR ρ st w->bf ρ st w ρ gw w
 olds:∀(i:Nat) (o:Oper),l[i]?=some o->nu P o=none->oM P o=false->as[i]?=some none
 news:∀(i:Nat) (o:Oper),l[i]?=some o->nu P o≠none\/oM P o=true->∃b,as[i]?=some (some b)
theorem bf.aaa {ρ:Ren}{st:St}{w:World}(h:WR ρ st w)(blk:qJ):bf ρ st w ρ (st.new blk) w:=by
 have hn:ρ st.next=none:=by
  cases hh:ρ st.next with
  |none=>rfl
  |some x=>have:=h.fresh _ x hh;omega
 have ij:∀b eY x,(st.new blk).mem.get b=some eY->ρ b=some x->st.mem.get b=some eY:=fun b eY x h1 h2=>by
  have hb:b≠st.next:=fun e=>by rw[e,hn]at h2;cases h2
  simpa[St.new,PT.c9 _ _ _ _ hb]using h1
 refine⟨⟨fun b eY r sz h1 h2=>h.at' b eY r sz (ij b eY _ h1 h2) h2,fun b b' k k' r s s' h1 h2 h3 h4=>h.inj b b' k k' r s s' (ij b k _ h1 h3) (ij b' k' _ h2 h4) h3 h4,fun b x hx=> ?_⟩,fun _ _ h=>h,fun _ _ h=>h, ?_,
  fun b eY r sz h1 h2=> .inl ⟨b,eY,sz,ij b eY _ h1 h2,h2⟩,fun _ _ _=>rfl,aAE _,rfl,rfl⟩
 ·show b<(st.next+1);have:=h.fresh b x hx;omega
 ·show st.next<=(st.next+1);omega
theorem bf.skip {ρ:Ren}{st:St}{w:World}(h:WR ρ st w):bf ρ st w ρ ⟨st.mem,(st.next+1)⟩ w:=
 ⟨⟨h.at',h.inj,fun b x hx=>by show b<(st.next+1);have:=h.fresh b x hx;omega⟩,fun _ _ h=>h,fun _ _ h=>h,by show st.next<=(st.next+1);omega,
   fun b eY r sz h1 h2=> .inl ⟨b,eY,sz,h1,h2⟩,fun _ _ _=>rfl,aAE _,rfl,rfl⟩
theorem tD.cons {P:Program}{l:List Oper}{st tL:St}{as:List (Option Nat)}{o:Oper}(hg:nu P o≠none\/oM P o=true){mem:PT qJ}(h1:tD P l ⟨mem,(st.next+1)⟩ as tL)(ha:∀ρ w,WR ρ st w->bf ρ st w ρ ⟨mem,(st.next+1)⟩ w):tD P (o::l) st (some st.next::as) tL:=by
 have Ao:((st.next+1))=st.next+1:=rfl
 have hr:∀(i:Nat) (b:Nat),as[i]?=some (some b)->st.next+1<=b/\b<tL.next:=fun i b h=>by
  have:=h1.range i b h;have e:(St.mk mem (st.next+1)).next=st.next+1:=Ao;omega
 have hx:st.next+1<=tL.next:=by have:=h1.next;have e:(St.mk mem (st.next+1)).next=st.next+1:=Ao;omega
 refine⟨by simp[h1.len],by omega,fun i b h=> ?_,fun i j b h h'=> ?_,fun ρ w hw=>(ha ρ w hw).trans (h1.after ρ w (ha ρ w hw).wr),fun i o' h hh hb=> ?_,fun i o' h hh=> ?_⟩
 ·cases i with
  |zero=>simp at h;subst h;omega
  |succ i=>have:=hr i b (by simpa using h);omega
 ·cases i with
  |zero=>
   cases j with
   |zero=>rfl
   |succ j=>simp at h;subst h;have:=hr j _ (by simpa using h');omega
  |succ i=>cases j with
   |zero=>simp at h';subst h';have:=hr i _ (by simpa using h);omega
   |succ j=>rw[h1.uniq i j b (by simpa using h) (by simpa using h')]
 ·cases i with
  |zero=>simp at h;subst h;rcases hg with hg|hg;exact absurd hh hg;rw[hb]at hg;cases hg
  |succ i=>exact h1.olds i o' (by simpa using h) hh hb
 ·cases i with
  |zero=>exact⟨_,rfl⟩
  |succ i=>exact h1.news i o' (by simpa using h) hh
theorem ID {P:Program}:∀(l:List Oper) (st:St),∃as gw,tD P l st as gw/\∀(β:Type) (k:List (Option Nat)->St->β),Hc P l st k=k as gw:=by
 intro l
 induction l with
 |nil=>intro st;exact⟨[],st,⟨rfl,aAE _,fun i b h=>by simp at h,fun i j b h=>by simp at h,fun ρ w h=>bf.refl h,fun i o h=>by simp at h,fun i o h=>by simp at h⟩,fun β k=>rfl⟩
 |cons o l ih=>
  intro st
  have e:∀(β:Type) (k:List (Option Nat)->St->β),Hc P (o::l) st k=Option.rec (Bool.rec (motive:=fun _=>β) (Hc P l st fun as st=>k (none::as) st) (nL (st.next+1) fun nx=>Hc P l ⟨st.mem,nx⟩ fun as tL=>k (some st.next::as) tL) (oM P o))
   (fun tz=>nL (st.next+1) fun nx=>nL ⟨st.mem.put st.next (some (.cells tz.2 tz.1 false)),nx⟩ fun gw=>Hc P l gw fun as tL=>k (some st.next::as) tL) (nu P o):=fun β k=>rfl
  cases hn:nu P o with
  |none=>
   cases hb:oM P o with
   |false=>
    obtain⟨as,gw,h1,h2⟩:=ih st;refine⟨none::as,gw,⟨by simp[h1.len],h1.next,fun i b h=> ?_,fun i j b h h'=> ?_,h1.after,fun i o h hh TU=>by cases i with|zero=>rfl|succ i=>exact h1.olds i o (by simpa using h) hh TU,fun i o h hh=>by cases i with|zero=>(simp at h;subst h;rcases hh with hh|hh;exact absurd hn hh;rw[hb]at hh;cases hh)|succ i=>exact h1.news i o (by simpa using h) hh⟩,fun β k=>by rw[e,hn,hb];exact h2 _ _⟩
    ·cases i with
     |zero=>simp at h
     |succ i=>exact h1.range i b (by simpa using h)
    ·cases i with
     |zero=>simp at h
     |succ i=>cases j with
      |zero=>simp at h'
      |succ j=>rw[h1.uniq i j b (by simpa using h) (by simpa using h')]
   |true=>
    obtain⟨as,tL,h1,h2⟩:=ih ⟨st.mem,(st.next+1)⟩;exact⟨some st.next::as,tL,h1.cons (.inr hb) fun ρ w hw=>bf.skip hw,fun β k=>by rw[e,hn,hb];show nL (st.next+1) _=_;rw[dE];exact h2 _ _⟩
  |some tz=>
   obtain⟨as,tL,h1,h2⟩:=ih (st.new (.cells tz.2 tz.1 false))
   exact⟨some st.next::as,tL,tD.cons (mem:=st.mem.put st.next (some (.cells tz.2 tz.1 false))) (.inl (by rw[hn];simp)) h1 fun ρ w hw=>bf.aaa hw (.cells tz.2 tz.1 false),fun β k=>by
    rw[e,hn];show nL (st.next+1) _=_;rw[dE];rw[dE];exact h2 _ _⟩
def Dl {α:Type}(l:List α)(p:α->Bool):Bool:=List.rec false (fun x _ r=>Bool.or (p x) r) l
def Aw {α:Type}(l:List α)(p:α->Bool):Bool:=List.rec true (fun x _ r=>Bool.and (p x) r) l
theorem zu {α:Type}{l:List α}{p:α->Bool}:Dl l p=true↔∃x∈l,p x=true:=by
 induction l with
 |nil=>simp[Dl]
 |cons x l ih=>
  have e:Dl (x::l) p=Bool.or (p x) (Dl l p):=rfl;rw[e];simp only[aBB,ih,aAD,exists_eq_or_imp]
theorem nH {α:Type}{l:List α}{p:α->Bool}:Aw l p=true↔∀x∈l,p x=true:=by
 induction l with
 |nil=>simp[Aw]
 |cons x l ih=>
  have e:Aw (x::l) p=Bool.and (p x) (Aw l p):=rfl;rw[e];simp only[aAV,ih,aAD,forall_eq_or_imp]
def Ks {α:Type}(l:List α):Nat->List (Nat×α):=List.rec (motive:=fun _=>Nat->List (Nat×α)) (fun _=>[]) (fun x _ ih i=>(i,x)::ih (Nat.succ i)) l
theorem vh {α:Type}:∀{l:List α} {i:Nat} {k:Nat} {x:α},l[k]?=some x->(i+k,x)∈Ks l i:=by
 intro l
 induction l with
 |nil=>intro i k x h;simp at h
 |cons y l ih=>
  intro i k x h;have e:Ks (y::l) i=(i,y)::Ks l (i+1):=rfl;rw[e];cases k with
  |zero=>simp at h;subst h;simp
  |succ k=>
   simp at h;have:=ih (i:=i+1) h;rw[show i+(k+1)=i+1+k by omega];exact aBk _ this
def pV (P:Program)(ops:Array Oper)(o:Oper):List eQ:=
 (match lN P o.op with|some op=>op.args|none=>[])++
 (match o.guard with|some (g,_)=>(match (ops[g]?).bind (·.dst)with|some d=>[eQ.tmp (d)]|none=>[])|none=>[])
def fF (ops:Array Oper)(f:Nat):Nat->Nat->Bool:=
 Nat.rec (motive:=fun _=>Nat->Nat->Bool) (fun _ _=>false) (fun _ ih i j=>match ops[i]? with
  |none=>false
  |some o=>Dl o.after.toList fun e=>Bool.and (Region.binds .any e) (nL e.on fun k=>Bool.or (Nat.beq k j) (ih k j))) f
section
variable {P:Program} {call:fT} {ops:Array Oper}
theorem DO {o:Oper}{fr fr':Fr}{st:St}(h:∀x∈pV P ops o,ev fr x=ev fr' x):l4 P call ops o fr st=l4 P call ops o fr' st:=by
 have hw:eZ ops fr o=eZ ops fr' o:=by
  unfold eZ;unfold pV at h;cases hg:o.guard with
  |none=>rfl
  |some gb=>
   obtain⟨g,b⟩:=gb;dsimp only;rw[hg]at h;dsimp only at h;cases hd:(ops[g]?).bind (·.dst)with
   |none=>rfl
   |some d=>
    rw[hd]at h;have h1:fx fr (d)=fx fr' (d):=h (.tmp (d)) (by simp);dsimp only;rw[h1]
 unfold l4;rw[hw]
 split
 ·cases ho:lN P o.op with
  |none=>rfl
  |some op=>
   dsimp only;refine DY fun x hx=>h x ?_;unfold pV;rw[ho];simp[hx]
 ·rfl
 ·rfl
theorem nS {ab:Option Nat}{o:Oper}{fr fr':Fr}{st:St}(h:∀x∈pV P ops o,ev fr x=ev fr' x):gI P call ops ab o fr st=gI P call ops ab o fr' st:=by
 have hw:eZ ops fr o=eZ ops fr' o:=zR fun g b d hg hd=>
  h (.tmp (d)) (by unfold pV;rw[hg];dsimp only;rw[hd];simp)
 unfold gI;rw[DO h,hw];cases nu P o with
 |some tz=>cases ab<;>rfl
 |none=>
  cases ab with
  |none=>rfl
  |some b=>
   dsimp only;cases hl:kj P o with
   |none=>rfl
   |some x=>
    obtain⟨e,len,z,ps⟩:=x;dsimp only;have hc:=Hv hl;rw[Bn (fr:=fr) (fr':=fr')];intro y hy;refine h y ?_;unfold pV;rw[hc];exact aCt _ hy
theorem Ni {o:Oper}(h:oM P o=false):kj P o=none:=by
 unfold oM at h;cases hl:kj P o with
 |none=>rfl
 |some x=>rw[hl]at h;cases h
theorem yJ {o:Oper}(h:oM P o=true):∃x,kj P o=some x:=by
 unfold oM at h;cases hl:kj P o with
 |none=>rw[hl]at h;cases h
 |some x=>exact⟨x,rfl⟩
theorem Rh {o:Oper}(h:oM P o=true):nu P o=none:=by
 obtain⟨x,hx⟩:=yJ h;cases hn:nu P o with
 |none=>rfl
 |some tz=>have:=vV (P:=P) (o:=o) (by rw[hn];simp);rw[hx]at this;cases this
theorem CF {o:Oper}(h:oM P o=true):mm P o=false:=by
 obtain⟨x,hx⟩:=yJ h;unfold mm;rw[Rh h,hx]
theorem qP {ab:Option Nat}{o:Oper}{fr:Fr}{st st':St}{v:CV}(hw:mm P o=false)(hb:oM P o=false)(h:gI P call ops ab o fr st= .ok v st'):st'=st:=by
 have hl:=Ni hb;unfold gI at h;unfold mm at hw;rw[hl]at hw h
 split at h
 ·rename_i hn;rw[hn]at hw;dsimp only at hw;unfold l4 at h
  split at h
  ·split at h
   ·rename_i op CL;rw[CL]at hw;exact(qV (by simpa using hw)).eq _ _ h
   ·cases h
  ·cases h;rfl
  ·cases h
 ·split at h
  ·unfold iM at h
   split at h
   ·split at h
    ·cases h;rfl
    ·cases h
   ·cases h
  ·cases h;rfl
  ·cases h
 ·cases h
 ·cases h
def oF (listed:Array Bool)(i:Nat):Prop:=listed.getD i false=true
def SG (ops:Array Oper)(listed:Array Bool)(i:Nat):Prop:=∀o,ops[i]?=some o->∀e∈o.after,Region.binds .any e=true->oF listed e.on
theorem zw {listed:Array Bool}(qx:∀i,oF listed i->SG ops listed i):∀(f i j:Nat),fF ops f i j=true->SG ops listed i->oF listed j:=by
 intro f
 induction f with
 |zero=>intro i j h;cases h
 |succ f ih=>
  intro i j h hd
  have e:fF ops (f+1) i j=(match ops[i]? with
   |none=>false
   |some o=>Dl o.after.toList fun e=>Bool.and (Region.binds .any e) (nL e.on fun k=>Bool.or (Nat.beq k j) (fF ops f k j))):=rfl
  rw[e]at h
  split at h
  ·cases h
  ·rename_i o ho;rw[zu]at h;obtain⟨x,hx,h⟩:=h;simp only[dE,aAV,aBB,aBi]at h;have hl:=hd o ho x (by simpa using hx) h.1;rcases h.2 with h2|h2
   ·rw[<-h2];exact hl
   ·exact ih _ _ h2 (qx _ hl)
end
structure TR where
 i:Nat
 ab:Option Nat
 o:Oper
 w:Bool
 c:Nat
 fr:Fr
 v:CV
 s:St
 s1:St
def Ee (n:Nat)(dst:Option Tmp)(v:CV)(fr:Fr):Option Fr:=
 match dst with
 |none=>some fr
 |some d=>bu (Nat.ble (Nat.succ d) n) (nL (fr.put (d) (some v)) some) none
theorem AR {n:Nat}{dst:Option Tmp}{v:CV}{fr fr':Fr}(h:Ee n dst v fr=some fr'):(dst=none/\fr'=fr)\/∃d,dst=some d/\d<n/\fr'=fr.put (d) (some v):=by
 unfold Ee at h
 split at h
 ·cases h;exact .inl ⟨rfl,rfl⟩
 ·rename_i d;simp only[aO,aBe,aDi,dE]at h
  split at h
  ·rename_i hd;cases h;exact .inr ⟨d,rfl,hd,rfl⟩
  ·cases h
abbrev Yc:=List TR×List St×Fr×St
def qk (P:Program)(call:fT)(n:Nat)(ops:Array Oper)(l:List (Oper×Option Nat)):Nat->Nat->Fr->St->Option Yc:=
 List.rec (motive:=fun _=>Nat->Nat->Fr->St->Option Yc) (fun _ _ fr st=>some ([],[],fr,st)) (fun o _ ih i c fr st=>
  OR.rec (fun v st'=>nL v fun v=>nL st' fun st'=>
   Option.rec none (fun fr'=>bu (mm P o.1)
    (Option.rec none (fun r=>some (⟨i,o.2,o.1,true,c,fr,v,st,st'⟩::r.1,st::r.2.1,r.2.2)) (ih (Nat.succ i) (Nat.succ c) fr' st'))
    (Option.rec none (fun r=>some (⟨i,o.2,o.1,false,c,fr,v,st,st'⟩::r.1,r.2.1,r.2.2)) (ih (Nat.succ i) c fr' st'))) (Ee n o.1.dst v fr)) none (gI P call ops o.2 o.1 fr st)) l
def jF (eJ:List TR)(lb:St)(k:Nat):St:=match eJ[k]? with|some t=>t.s|none=>lb
def Yr (l:List Oper)(eJ:List TR)(L:Nat->Prop)(zi f:Fr):Prop:=
 (∀j o d t,L j->l[j]?=some o->o.dst=some d->eJ[j]?=some t->fx f (d)=t.v)/\
 (∀p,(∀j o d,L j->l[j]?=some o->o.dst=some d->d≠p)->fx f p=fx zi p)
def JF (l:List Oper):Prop:=∀(j k:Nat) (a b:Oper) (d:Tmp),j<k->l[j]?=some a->l[k]?=some b->a.dst=some d->b.dst≠some d
def iU (P:Program)(l:List Oper)(k:Nat):Nat:=(l.take k).countP (mm P)
section
variable {P:Program} {call:fT} {n:Nat} {ops:Array Oper}
theorem nE {l:List Oper}{k:Nat}{o:Oper}(h:l[k]?=some o):iU P l (k+1)=iU P l k+(if mm P o then 1 else 0):=by
 unfold iU;rw[List.take_add_one,h];simp[List.countP_append,List.countP_cons]
theorem vu {l:List Oper}{k:Nat}{o:Oper}:iU P (o::l) (k+1)=(if mm P o then 1 else 0)+iU P l k:=by
 unfold iU;rw[aCx,List.countP_cons];omega
theorem mj {l:List Oper}{j k:Nat}(h:j<=k):iU P l j<=iU P l k:=by
 unfold iU;have:l.take j=(l.take k).take j:=by rw[aBN,aBq h]
 rw[this];exact(List.take_sublist _ _).countP_le
theorem vt {l:List Oper}:∀(k:Nat),k<=l.length->∀c,c<iU P l k->∃j o,j<k/\l[j]?=some o/\mm P o=true/\iU P l j=c:=by
 intro k
 induction k with
 |zero=>intro _ c h;simp[iU]at h
 |succ k ih=>
  intro hk c h;have yX:l[k]?=some l[k]:=by simp
  rw[nE yX]at h
  by_cases hc:c<iU P l k
  ·obtain⟨j,o,h1,h2,h3,h4⟩:=ih (by omega) c hc;exact⟨j,o,by omega,h2,h3,h4⟩
  ·have hw:mm P l[k]=true:=by
    cases hh:mm P l[k]with
    |true=>rfl
    |false=>rw[hh]at h;simp at h;omega
   rw[hw]at h;simp only[aAY]at h;exact⟨k,_,by omega,yX,hw,by omega⟩
structure FY (L:List (Oper×Option Nat))(P:Program)(call:fT)(n:Nat)(ops:Array Oper)(i c:Nat)(fr:Fr)(st:St)(eJ:List TR)(ch:List St)(Fq:Fr)(lb:St):Prop where
 len:eJ.length=L.length
 at':∀k o ab,L[k]?=some (o,ab)->∃t,eJ[k]?=some t/\t.i=i+k/\t.ab=ab/\t.o=o/\t.w=mm P o/\t.c=c+iU P (L.map (·.1)) k/\(∀d,o.dst=some d->d<n)/\Yr (L.map (·.1)) eJ (·<k) fr t.fr/\
  gI P call ops ab o t.fr t.s= .ok t.v t.s1/\(mm P o=true->ch[iU P (L.map (·.1)) k]?=some t.s)
 fst:jF eJ lb 0=st
 oV:∀k t,eJ[k]?=some t->t.s1=jF eJ lb (k+1)
 fin:Yr (L.map (·.1)) eJ (·<L.length) fr Fq
 chl:ch.length=iU P (L.map (·.1)) L.length
theorem Yr.cons {l:List Oper}{eJ:List TR}{k:Nat}{o:Oper}{t0:TR}{zi lJ f:Fr}(Za:JF (o::l))(h:Yr l eJ (·<k) lJ f)(yS:(o.dst=none/\lJ=zi)\/∃d,o.dst=some d/\d<n/\lJ=zi.put (d) (some t0.v)):
 Yr (o::l) (t0::eJ) (·<k+1) zi f:=by
 constructor
 ·intro j oj d t hj h1 h2 h3;cases j with
  |zero=>
   simp at h1 h3;subst h1;subst h3;rcases yS with⟨e,_⟩|⟨d',e,_,rfl⟩
   ·rw[h2]at e;cases e
   ·rw[h2]at e;cases e;rw[h.2 (d),lT];intro j oj d' hj h4 h5 e;subst e;exact Za 0 (j+1) o oj d' (by omega) (by simp) (by simpa using h4) h2 h5
  |succ j=>exact h.1 j oj d t (by have:j+1<k+1:=hj;show j<k;omega) (by simpa using h1) h2 (by simpa using h3)
 ·intro p hp;rw[h.2 p fun j oj d hj h1 h2=>hp (j+1) oj d (by have:j<k:=hj;show j+1<k+1;omega) (by simpa using h1) h2];rcases yS with⟨_,rfl⟩|⟨d,e,_,rfl⟩
  ·rfl
  ·rw[mh];exact fun e'=>hp 0 o d (by show 0<k+1;omega) (by simp) e e'.symm
theorem DJ:∀{L:List (Oper×Option Nat)} {i c:Nat} {fr:Fr} {st:St} {eJ:List TR} {ch:List St} {Fq:Fr} {lb:St},qk P call n ops L i c fr st=some (eJ,ch,Fq,lb)->JF (L.map (·.1))->FY L P call n ops i c fr st eJ ch Fq lb:=by
 intro L
 induction L with
 |nil=>
  intro i c fr st eJ ch Fq lb h _;cases h;exact⟨rfl,fun k o ab h=>by simp at h,rfl,fun k t h=>by simp at h,⟨fun j o d t _ h=>by simp at h,fun p _=>rfl⟩,rfl⟩
 |cons oa L ih=>
  obtain⟨o,ab⟩:=oa;intro i c fr st eJ ch Fq lb h Za;rw[aBh]at Za
  have e:qk P call n ops ((o,ab)::L) i c fr st=OR.rec (motive:=fun _=>Option Yc) (fun v st'=>nL v fun v=>nL st' fun st'=>
   Option.rec none (fun fr'=>bu (mm P o)
    (Option.rec none (fun r=>some (⟨i,ab,o,true,c,fr,v,st,st'⟩::r.1,st::r.2.1,r.2.2)) (qk P call n ops L (i+1) (c+1) fr' st'))
    (Option.rec none (fun r=>some (⟨i,ab,o,false,c,fr,v,st,st'⟩::r.1,r.2.1,r.2.2)) (qk P call n ops L (i+1) c fr' st'))) (Ee n o.dst v fr)) none (gI P call ops ab o fr st):=rfl
  rw[e]at h;have acU:JF (L.map (·.1)):=fun j k a b d hjk h1 h2=>Za (j+1) (k+1) a b d (by omega) (by simpa using h1) (by simpa using h2);cases hs:gI P call ops ab o fr st with
  |bad=>rw[hs]at h;cases h
  |ok v gw=>
   rw[hs]at h;simp only[dE,dE]at h;cases hp:Ee n o.dst v fr with
   |none=>rw[hp]at h;cases h
   |some lJ=>
    rw[hp]at h;simp only[aO]at h;have yS:=AR hp
    have PJ:∀d,o.dst=some d->d<n:=fun d hd=>by
     rcases yS with⟨e,_⟩|⟨d',e,h',_⟩
     ·rw[hd]at e;cases e
     ·rw[hd]at e;cases e;exact h'
    have key:∀(w:Bool) (L5:List TR) (Zo chx:List St) (Ow:Fr) (Me:St),mm P o=w->FY L P call n ops (i+1) (c+if w then 1 else 0) lJ gw L5 Zo Ow Me->chx=(if w then st::Zo else Zo)->
     FY ((o,ab)::L) P call n ops i c fr st (⟨i,ab,o,w,c,fr,v,st,gw⟩::L5) chx Ow Me:=by
     intro w L5 Zo chx Ow Me hw IH Xq;refine⟨by simp[IH.len],fun k o' ab' hk=> ?_,rfl,fun k t hk=> ?_,by rw[aBh];exact IH.fin.cons Za yS, ?_⟩
     ·rw[aBh];cases k with
      |zero=>
       simp at hk;obtain⟨rfl,rfl⟩:=hk;refine⟨_,rfl,rfl,rfl,rfl,hw.symm,rfl,PJ,⟨fun j _ _ _ hj=>absurd hj (Nat.not_lt_zero _),fun p _=>rfl⟩,hs,fun hh=> ?_⟩;rw[hh]at hw;subst hw;rw[Xq];rfl
      |succ k=>
       simp only[aAA]at hk;obtain⟨t,h1,h2,h2',h3,h4,h5,h6,h7,h9,HT⟩:=IH.at' k o' ab' hk;refine⟨t,by simpa using h1,by omega,h2',h3,h4, ?_,h6,h7.cons Za yS,h9,fun V3=> ?_⟩
       ·rw[h5,vu,hw];omega
       ·rw[vu,hw,Xq];have:=HT V3;cases w
        ·simpa using this
        ·simp only[aAY];rw[aDr 1];simpa using this
     ·cases k with
      |zero=>
       simp at hk;subst hk;have:=IH.fst;show gw=jF _ _ _;rw[<-this];unfold jF;simp
      |succ k=>
       have:=IH.oV k t (by simpa using hk);rw[this];unfold jF;simp
     ·rw[aBh,aBb,vu,hw,Xq];have:=IH.chl;cases w
      ·simp[this]
      ·simp[this];omega
    cases hw:mm P o with
    |true=>
     rw[hw]at h;simp only[aAY]at h;cases ht:qk P call n ops L (i+1) (c+1) lJ gw with
     |none=>rw[ht]at h;cases h
     |some r=>
      obtain⟨L5,Zo,Ow,Me⟩:=r;rw[ht]at h;cases h;exact key true _ _ _ _ _ hw (ih ht acU) rfl
    |false=>
     rw[hw]at h;simp only[aAz,aAO]at h;cases ht:qk P call n ops L (i+1) c lJ gw with
     |none=>rw[ht]at h;cases h
     |some r=>
      obtain⟨L5,Zo,Ow,Me⟩:=r;rw[ht]at h;cases h;exact key false _ _ _ _ _ hw (ih ht acU) rfl
end
def Bq (o:Oper)(p:Nat):Bool:=match o.dst with|some d=>aeb (d) p|none=>false
def IP (ops:Array Oper)(i:Nat)(x:eQ):Bool:=
 match x with| .const _=>true| .tmp p=>Aw (Ks ops.toList 0) fun jo=>bu (Bq jo.2 p) (bu (Nat.ble (Nat.succ jo.1) i) (fF ops ops.size i jo.1) (Bool.and (Nat.ble (Nat.succ i) jo.1) (fF ops ops.size jo.1 i))) true
def Hk (P:Program)(ops:Array Oper)(i:Nat)(o:Oper)(j:Nat)(oj:Oper):Bool:=
 bu (Nat.ble (Nat.succ j) i) (Bool.and (match oj.dst with|some d=>Bool.not (Bq o (d))|none=>true) (bu (Bool.and (mm P o) (mm P oj)) (fF ops ops.size i j) true)) true
def Mg (P:Program)(ops:Array Oper):Bool:=
 Aw (Ks ops.toList 0) fun io=>
  Bool.and (Aw io.2.after.toList fun e=>bu (Region.binds .any e) (Nat.ble (Nat.succ e.on) io.1) true)
  (Bool.and (Aw (pV P ops io.2) fun x=>IP ops io.1 x) (Aw (Ks ops.toList 0) fun jo=>Hk P ops io.1 io.2 jo.1 jo.2))
section
variable {P:Program} {call:fT} {n:Nat} {ops:Array Oper}
structure Bz (P:Program)(ops:Array Oper):Prop where
 s1:∀i o,ops.toList[i]?=some o->∀e∈o.after,Region.binds .any e=true->e.on<i
 s2:∀i o,ops.toList[i]?=some o->∀p,eQ.tmp p∈pV P ops o->∀j oj d,ops.toList[j]?=some oj->oj.dst=some d->d=p->(j<i/\fF ops ops.size i j=true)\/(i<j/\fF ops ops.size j i=true)
 s3:JF ops.toList
 s4:∀i j o oj,ops.toList[i]?=some o->ops.toList[j]?=some oj->j<i->mm P o=true->mm P oj=true->fF ops ops.size i j=true
theorem GK (h:Mg P ops=true):Bz P ops:=by
 unfold Mg at h;rw[nH]at h;have key:∀i o,ops.toList[i]?=some o->_:=fun i o ho=>h (i,o) (by have:=vh (i:=0) ho;simpa using this);refine⟨fun i o ho e he hb=> ?_,fun i o ho p hp j oj d hj hd hpe=> ?_,fun j i oj o d yY hj ho hd Dx=> ?_,fun i j o oj ho hj yY hw hwj=> ?_⟩
 ·have:=key i o ho;simp only[aAV,nH]at this;have:=this.1 e (by simpa using he);rw[hb]at this
  simpa[aDi]using this
 ·have:=key i o ho;simp only[aAV,nH]at this;have:=this.2.1 _ hp;unfold IP at this;dsimp only at this;rw[nH]at this;have:=this (j,oj) (by have:=vh (i:=0) hj;simpa using this);have Y6:Bq oj p=true:=by unfold Bq;rw[hd];exact FM.2 hpe
  simp only[Y6,aO,aAY,aBe,aDi]at this
  split at this
  ·rename_i hlt;exact .inl ⟨hlt,this⟩
  ·simp only[aAV,aBe,aDi]at this;exact .inr this
 ·have:=key i o ho;simp only[aAV,nH]at this;have:=this.2.2 (j,oj) (by have:=vh (i:=0) hj;simpa using this);unfold Hk at this;simp only[aO,aBe,aDi,aAI yY,aAV]at this;have:=this.1;rw[hd]at this;have Y6:Bq o (d)=true:=by unfold Bq;rw[Dx];exact FM.2 rfl
  simp[Y6]at this
 ·have:=key i o ho;simp only[aAV,nH]at this;have:=this.2.2 (j,oj) (by have:=vh (i:=0) hj;simpa using this);unfold Hk at this;simp only[aO,aBe,aDi,aAI yY,aAV]at this;have:=this.2
  simpa[hw,hwj]using this
def Ys (P:Program)(call:fT)(ops:Array Oper)(chain:List St)(eJ:List TR):Prop:=∀(i:Nat) (t:TR),eJ[i]?=some t->mm P t.o=false->oM P t.o=false->∀(c:Nat) (s:St),chain[c]?=some s->
    (∃u∈eJ,u.w=true/\u.c<c/\fF ops ops.size u.i t.i=true)\/(∃u∈eJ,u.w=true/\c<=u.c/\fF ops ops.size t.i u.i=true)\/∃s1,gI P call ops t.ab t.o t.fr s= .ok t.v s1
def Pf (P:Program)(ops:Array Oper)(as:List (Option Nat))(chain:List St)(eJ:List TR):Prop:=∀(j:Nat) (tj:TR) (b:Nat),eJ[j]?=some tj->oM P tj.o=true->as[j]?=some (some b)->∀(d:Nat) (td:TR),eJ[d]?=some td->mm P td.o=true->
    fF ops ops.size d j=false->fF ops ops.size j d=false->(d<j->∀s,chain[td.c]?=some s->s.mem.get b=none)/\(j<d->∀s s',chain[td.c]?=some s->chain[td.c+1]?=some s'->s'.mem.get b=s.mem.get b)
theorem Ih (hst:Bz P ops):∀(f i j:Nat),fF ops f i j=true->j<i:=by
 intro f
 induction f with
 |zero=>intro i j h;cases h
 |succ f ih=>
  intro i j h
  have e:fF ops (f+1) i j=(match ops[i]? with
   |none=>false
   |some o=>Dl o.after.toList fun e=>Bool.and (Region.binds .any e) (nL e.on fun k=>Bool.or (Nat.beq k j) (fF ops f k j))):=rfl
  rw[e]at h
  split at h
  ·cases h
  ·rename_i o ho;rw[zu]at h;obtain⟨x,hx,h⟩:=h;simp only[dE,aAV,aBB,aBi]at h;have:=hst.s1 i o (by simpa using ho) x (by simpa using hx) h.1;rcases h.2 with h2|h2
   ·omega
   ·have:=ih _ _ h2;omega
open Classical in
theorem xB (s:St)(f:Nat->Option qJ):∀names:List Nat,∃M:St,M.next=s.next/\∀q,M.mem.get q=if q∈names then f q else s.mem.get q:=by
 intro names
 induction names with
 |nil=>exact⟨s,rfl,fun q=>by simp⟩
 |cons b names ih=>
  obtain⟨M,h1,h2⟩:=ih;refine⟨⟨M.mem.put b (f b),M.next⟩,h1,fun q=> ?_⟩;show(M.mem.put b (f b)).get q=_;rw[PT.eO,h2]
  by_cases e:q=b
  ·subst e;simp
  ·simp[e]
def ZJ (N:Nat)(listed:Array Bool):Nat:=(List.range N).countP fun i=> !listed.getD i true
theorem Iq {N:Nat}{listed:Array Bool}{i:Nat}(hi:i<N)(hs:listed.size=N)(hu:listed.getD i true=false):ZJ N (listed.setIfInBounds i true)<ZJ N listed:=by
 unfold ZJ
 have key:∀(l:List Nat),i∈l->l.Nodup->l.countP (fun k=> !(listed.setIfInBounds i true).getD k true)<l.countP (fun k=> !listed.getD k true):=by
  have same:∀k,k≠i->(listed.setIfInBounds i true).getD k true=listed.getD k true:=fun k hk=>by simp[aBH (aBE hk)]
  have aoc:(listed.setIfInBounds i true).getD i true=true:=by simp[hs,hi]
  intro l
  induction l with
  |nil=>intro h;simp at h
  |cons k l ih=>
   intro h hn;rw[aAQ]at hn;rw[List.countP_cons,List.countP_cons]
   by_cases hk:k=i
   ·subst hk
    have:l.countP (fun k'=> !(listed.setIfInBounds k true).getD k' true)=l.countP (fun k'=> !listed.getD k' true):=by
     apply List.countP_congr;intro x hx;rw[same x (fun e=>hn.1 (e▸hx))]
    rw[this,aoc,hu];simp
   ·have hl:i∈l:=by simpa[aBE hk]using h
    have:=ih hl hn.2;rw[same k hk];omega
 exact key _ (by simpa using hi) List.nodup_range
theorem kU {listed:Array Bool}{i j:Nat}(hi:i<listed.size):oF (listed.setIfInBounds i true) j↔j=i\/oF listed j:=by
 unfold oF
 by_cases h:j=i
 ·subst h;simp[hi]
 ·simp[aBH (aBE h),h]
theorem rW {listed:Array Bool}{i:Nat}(hs:listed.size=ops.size):i∈Region.ready .any ops listed↔i<ops.size/\¬oF listed i/\SG ops listed i:=by
 unfold Region.ready;rw[aCs,List.mem_range];constructor
 ·rintro⟨h1,h2⟩;simp only[aAV,aDm]at h2;refine⟨h1, ?_, ?_⟩
  ·unfold oF;have:listed.getD i false=listed.getD i true:=by simp[hs,h1]
   rw[this,h2.1];simp
  ·intro o ho e he hb;have:=h2.2;rw[ho]at this;simp only[aBL,aCc,Array.all_eq_true_iff_forall_mem]at this;have:=this e he;rw[hb]at this
   simpa[oF]using this
 ·rintro⟨h1,h2,h3⟩;refine⟨h1, ?_⟩;simp only[aAV,aDm];constructor
  ·unfold oF at h2;have:listed.getD i false=listed.getD i true:=by simp[hs,h1]
   rw[this]at h2;simpa using h2
  ·have ho:ops[i]?=some ops[i]:=by simp
   rw[ho];simp only[aBL,aCc,Array.all_eq_true_iff_forall_mem];intro e he;cases hb:Region.binds .any e with
   |false=>rfl
   |true=>have:=h3 _ ho e he hb;simpa[oF]using this
theorem zy (hst:Bz P ops){listed:Array Bool}(hs:listed.size=ops.size)(h:Region.ready .any ops listed=[]):∀i,i<ops.size->oF listed i:=by
 intro i
 induction i using Nat.strongRecOn with
 |_ i ih=>
  intro hi
  by_cases hl:oF listed i
  ·exact hl
  ·have:i∈Region.ready .any ops listed:=(rW hs).2 ⟨hi,hl,fun o ho e he hb=>by
    have:=hst.s1 i o (by simpa using ho) e he hb;exact ih _ this (by omega)⟩
   rw[h]at this;simp at this
structure Lp (P:Program)(ops:Array Oper)(as:List (Option Nat))(eJ:List TR)(listed:Array Bool)(c:Nat)(ρ:Ren)(s M:St):Prop where
 next:M.next=s.next
 late:∀(j:Nat) (t:TR) (b:Nat) (x:Nat×Nat),oF listed j->eJ[j]?=some t->oM P t.o=true->as[j]?=some (some b)->ρ b=some x->t.s.mem.get b=none/\(c<iU P ops.toList j->M.mem.get b=t.s1.mem.get b/\s.mem.get b=none)
 QP:∀(q:Nat) (x:Nat×Nat),ρ q=some x->(∀(j:Nat) (t:TR),as[j]?=some (some q)->eJ[j]?=some t->oM P t.o=true->¬c<iU P ops.toList j)->M.mem.get q=s.mem.get q
structure Inv (P:Program)(ops:Array Oper)(as:List (Option Nat))(eJ:List TR)(ch:List St)(lb:St)(n:Nat)(ρ0:Ren)(xT mu:St)(zi:Fr)(w0:World)(listed:Array Bool)(a:Act)(w:World):Prop where
 size:listed.size=ops.size
 closed:∀i,oF listed i->SG ops listed i
 inner:∀i,oF listed i->i<ops.size
 data:∃fr c ρ s M,Yr ops.toList eJ (oF listed) zi fr/\(∀j o,ops.toList[j]?=some o->mm P o=true->(oF listed j↔iU P ops.toList j<c))/\c<=ch.length/\(ch++[lb])[c]?=some s/\FR ρ fr a.tmps/\bf ρ0 xT w0 ρ M w/\mu.next<=s.next/\(∀j b,¬oF listed j->as[j]?=some (some b)->ρ b=none)/\Lp P ops as eJ listed c ρ s M
 sz:n<=a.tmps.size
 defers:a.defers=[]
variable {as:List (Option Nat)} {eJ:List TR} {ch:List St} {ρ0:Ren} {xT mu lb:St} {zi Fq:Fr} {w0:World}
theorem UA {α β:Type}{l:List α}{as:List β}(h:as.length=l.length){j:Nat}{o:α}(hj:l[j]?=some o):∃ab,(l.zip as)[j]?=some (o,ab)/\as[j]?=some ab:=by
 have hlt:=(aAP.1 hj).1;refine⟨as[j]'(by omega), ?_,by simp[h,hlt]⟩;rw[List.getElem?_zip_eq_some];exact⟨hj,by simp[h,hlt]⟩
section
variable (dn:tD P ops.toList xT as mu) (jH:FY (ops.toList.zip as) P call n ops 0 0 zi mu eJ ch Fq lb)
include dn jH
theorem mH {j:Nat}{o:Oper}(ho:ops.toList[j]?=some o):∃t ab,eJ[j]?=some t/\as[j]?=some ab/\t.i=j/\t.ab=ab/\t.o=o/\t.w=mm P o/\t.c=iU P ops.toList j/\(∀d,o.dst=some d->d<n)/\Yr ops.toList eJ (·<j) zi t.fr/\
 gI P call ops ab o t.fr t.s= .ok t.v t.s1/\(mm P o=true->(ch++[lb])[iU P ops.toList j]?=some t.s):=by
 obtain⟨ab,hz,vj⟩:=UA dn.len ho;have CO:(ops.toList.zip as).map (·.1)=ops.toList:=List.map_fst_zip (by rw[dn.len];exact aAE _);obtain⟨t,t1,t2,t3,t4,t5,t6,t7,t8,t9,t10⟩:=jH.at' j o ab hz;rw[CO]at t6 t8 t10;refine⟨t,ab,t1,vj,by omega,t3,t4,t5,by omega,t7,t8,t9,fun h=> ?_⟩;have:=t10 h;rw[aCe (aAP.1 this).1];exact this
theorem wD {j:Nat}{t:TR}(ht:eJ[j]?=some t):ops.toList[j]?=some t.o:=by
 have hzl:(ops.toList.zip as).length=ops.toList.length:=by rw[List.length_zip,dn.len];simp
 have hj:j<ops.toList.length:=by rw[<-hzl,<-jH.len];exact(aAP.1 ht).1
 obtain⟨t',ab,h1,_,_,_,h2,_⟩:=mH dn jH (aAC hj);rw[ht]at h1;cases h1;rw[h2,aAC hj]
theorem BF:eJ.length=ops.toList.length:=by rw[jH.len,List.length_zip,dn.len];simp
theorem zq:ch.length=iU P ops.toList ops.toList.length:=by
 have CO:(ops.toList.zip as).map (·.1)=ops.toList:=List.map_fst_zip (by rw[dn.len];exact aAE _);have hzl:(ops.toList.zip as).length=ops.toList.length:=by rw[List.length_zip,dn.len];simp
 have:=jH.chl;rw[CO,hzl]at this;exact this
theorem gap {k:Nat}:∀{k':Nat},k<=k'->k'<=ops.toList.length->(∀j o,k<=j->j<k'->ops.toList[j]?=some o->mm P o=false)->
 (jF eJ lb k').next=(jF eJ lb k).next/\∀q,(∀j t,k<=j->j<k'->eJ[j]?=some t->oM P t.o=true->as[j]?≠some (some q))->(jF eJ lb k').mem.get q=(jF eJ lb k).mem.get q:=by
 intro k'
 induction k' with
 |zero=>intro h _ _;have:k=0:=by omega
        subst this;exact⟨rfl,fun _ _=>rfl⟩
 |succ k' ih=>
  intro h hl hw
  by_cases hk:k=k'+1
  ·subst hk;exact⟨rfl,fun _ _=>rfl⟩
  obtain⟨i1,i2⟩:=ih (by omega) (by omega) (fun j o h1 h2=>hw j o h1 (by omega));have ho:ops.toList[k']?=some ops.toList[k']:=aAC (by omega);generalize ops.toList[k']=o at ho;obtain⟨t,ab,h1,h2,h3,h4,h5,h6,h7,h8,h9,HT,h11⟩:=mH dn jH ho;have Ao:=jH.oV k' t h1;have Gj:jF eJ lb k'=t.s:=by unfold jF;rw[h1]
  rw[<-Ao,<-i1,Gj];have NA:=hw k' o (by omega) (by omega) ho;cases hb:oM P o with
  |false=>
   have:=qP NA hb HT;rw[this];exact⟨rfl,fun q hq=>by rw[<-i2 q fun j t g1 g2=>hq j t g1 (by omega),Gj]⟩
  |true=>
   obtain⟨x,hx⟩:=yJ hb;obtain⟨b,TU⟩:=dn.news k' o ho (.inr hb);rw[h2]at TU;cases TU;rcases uH hx HT with⟨_,_,e⟩|⟨_,s,_,_,_,e⟩
   ·rw[e];exact⟨rfl,fun q hq=>by rw[<-i2 q fun j t g1 g2=>hq j t g1 (by omega),Gj]⟩
   ·rw[e];refine⟨rfl,fun q hq=> ?_⟩;have gL:q≠b:=fun e=>hq k' t (by omega) (by omega) h1 (by rw[h5];exact hb) (by rw[h2,e]);show(t.s.mem.put b _).get q=_;rw[PT.c9 _ _ _ _ gL,<-i2 q fun j t g1 g2=>hq j t g1 (by omega),Gj]
theorem uZ:∀(m k:Nat),k+m=ops.toList.length->∃k2,k<=k2/\k2<=ops.toList.length/\(∀j o,k<=j->j<k2->ops.toList[j]?=some o->mm P o=false)/\iU P ops.toList k2=iU P ops.toList k/\(ch++[lb])[iU P ops.toList k]?=some (jF eJ lb k2)/\
 (k2=ops.toList.length\/∃o,ops.toList[k2]?=some o/\mm P o=true):=by
 intro m
 induction m with
 |zero=>
  intro k hk;have:k=ops.toList.length:=by omega
  refine⟨k,aAE _,by omega,fun j o h1 h2=>by omega,rfl, ?_, .inl this⟩;rw[this,<-zq dn jH];have:jF eJ lb ops.toList.length=lb:=by unfold jF;rw[aBs (by rw[BF dn jH];exact aAE _)]
  rw[this];simp
 |succ m ih=>
  intro k hk;have ho:ops.toList[k]?=some ops.toList[k]:=aAC (by omega);generalize ops.toList[k]=o at ho;cases hw:mm P o with
  |true=>
   obtain⟨t,ab,h1,h2,h3,h4,h5,h6,h7,h8,h9,HT,h11⟩:=mH dn jH ho;refine⟨k,aAE _,by omega,fun j o h1 h2=>by omega,rfl, ?_, .inr ⟨o,ho,hw⟩⟩;rw[h11 hw];unfold jF;rw[h1]
  |false=>
   have hc:=nE (P:=P) ho;rw[hw]at hc;simp only[aAz,aAO,aBl]at hc;obtain⟨k2,g1,g2,g3,g4,g5,g6⟩:=ih (k+1) (by omega);refine⟨k2,by omega,g2,fun j o' j1 j2 hj=> ?_,by rw[g4,hc],by rw[<-hc];exact g5,g6⟩
   by_cases e:j=k
   ·subst e;rw[ho]at hj;cases hj;exact hw
   ·exact g3 j o' (by omega) j2 hj
theorem yD {j:Nat}{t:TR}{b:Nat}(ht:eJ[j]?=some t)(hb:oM P t.o=true)(ha:as[j]?=some (some b)):∃s,(ch++[lb])[iU P ops.toList j]?=some s/\s.mem.get b=t.s1.mem.get b:=by
 have ho:=wD dn jH ht;have WX:=(aAP.1 ho).1;have hc:=nE (P:=P) ho;rw[CF hb]at hc;simp only[aAz,aAO,aBl]at hc;obtain⟨k2,g1,g2,g3,g4,g5,g6⟩:=uZ dn jH (ops.toList.length-(j+1)) (j+1) (by omega);rw[hc]at g5;refine⟨_,g5, ?_⟩;rw[(gap dn jH g1 g2 g3).2 b fun j' t' h1 h2 h3 h4 h5=>by have:=dn.uniq j j' b ha h5;omega,<-jH.oV j t ht]
end
theorem Inv.done (dn:tD P ops.toList xT as mu)(jH:FY (ops.toList.zip as) P call n ops 0 0 zi mu eJ ch Fq lb){listed:Array Bool}{a:Act}{w:World}(h:Inv P ops as eJ ch lb n ρ0 xT mu zi w0 listed a w)(fP:∀i,i<ops.size->oF listed i):
 pv ρ0 xT w0 n (.norm Fq lb) .normal a w:=by
 obtain⟨fr,c,ρ,s,M,h1,h2,h3,h4,h5,h6,h7,h8,h9⟩:=h.data;have CO:(ops.toList.zip as).map (·.1)=ops.toList:=List.map_fst_zip (by rw[dn.len];exact aAE _);have hzl:(ops.toList.zip as).length=ops.toList.length:=by rw[List.length_zip,dn.len];simp
 have hc:c=ch.length:=by
  by_cases hlt:c<ch.length
  ·rw[zq dn jH]at hlt;obtain⟨j,o,g1,g2,g3,g4⟩:=vt (P:=P) (l:=ops.toList) ops.toList.length (aAE _) c hlt;have:=(h2 j o g2 g3).1 (fP j (by simpa using g1));omega
  ·omega
 subst hc
 have hs:s=lb:=by
  rw[aBO (aAE _)]at h4;simp at h4;exact h4.symm
 subst hs
 have hA:bf ρ0 xT w0 ρ s w:=h6.qS (fun q x hx=>(h9.QP q x hx fun j t _ ht hb hlt=>by
  have ho:=wD dn jH ht;have WX:=(aAP.1 ho).1;have:=mj (P:=P) (l:=ops.toList) (Nat.le_of_lt WX);have:=zq dn jH;omega).symm) h9.next.symm
 refine⟨rfl,ρ,⟨fun t=> ?_,h.sz,h.defers,hA⟩⟩
 have:fx Fq (t)=fx fr (t):=by
  have HN:=jH.fin;rw[CO]at HN
  by_cases hd:∃(j:Nat) (o:Oper) (d:Tmp),ops.toList[j]?=some o/\o.dst=some d/\d=t
  ·obtain⟨j,o,d,g1,g2,rfl⟩:=hd;have hj:j<ops.toList.length:=(aAP.1 g1).1;obtain⟨t',_,g3,_⟩:=mH dn jH g1;rw[HN.1 j o d t' (by show j<_;rw[hzl];exact hj) g1 g2 g3,h1.1 j o d t' (fP j (by simpa using hj)) g1 g2 g3]
  ·rw[HN.2,h1.2]
   ·exact fun j o d _ g1 g2 e=>hd ⟨j,o,d,g1,g2,e⟩
   ·exact fun j o d _ g1 g2 e=>hd ⟨j,o,d,g1,g2,e⟩
 rw[this];exact h5 t
theorem Lp.sub {listed:Array Bool}{c:Nat}{ρ:Ren}{s M:St}(h:Lp P ops as eJ listed c ρ s M)(hp:∀j b,¬oF listed j->as[j]?=some (some b)->ρ b=none):∀q x,ρ q=some x->s.mem.get q=M.mem.get q\/s.mem.get q=none:=by
 intro q x hx
 by_cases hh:∃(j:Nat) (t:TR),as[j]?=some (some q)/\eJ[j]?=some t/\oM P t.o=true/\c<iU P ops.toList j
 ·obtain⟨j,t,g1,g2,g3,g4⟩:=hh
  by_cases hl:oF listed j
  ·exact .inr ((h.late j t q x hl g2 g3 g1 hx).2 g4).2
  ·rw[hp j q hl g1]at hx;cases hx
 ·exact .inl (h.QP q x hx fun j t g1 g2 g3 g4=>hh ⟨j,t,g1,g2,g3,g4⟩).symm
def mE (P:Program)(ops:Array Oper)(as:List (Option Nat))(eJ:List TR)(listed:Array Bool)(c:Nat)(ρ:Ren)(q:Nat):Prop:=∃(j:Nat) (t:TR) (x:Nat×Nat),oF listed j/\eJ[j]?=some t/\oM P t.o=true/\as[j]?=some (some q)/\c<iU P ops.toList j/\ρ q=some x
open Classical in
theorem Lp.step {listed:Array Bool}{c:Nat}{ρ ρ':Ren}{s s1 M:St}{w w':World}(h:Lp P ops as eJ listed c ρ s M)(hp:∀j b,¬oF listed j->as[j]?=some (some b)->ρ b=none)(h6:bf ρ0 xT w0 ρ M w)(hA:bf ρ s w ρ' s1 w')
 (_:∀q,mE P ops as eJ listed c ρ q->s1.mem.get q=none):∃M1,bf ρ0 xT w0 ρ' M1 w'/\M1.next=s1.next/\∀q,M1.mem.get q=if mE P ops as eJ listed c ρ q then M.mem.get q else s1.mem.get q:=by
 obtain⟨M1,g1,g2⟩:=xB s1 (fun q=>if mE P ops as eJ listed c ρ q then M.mem.get q else s1.mem.get q) (as.filterMap id)
 have g3:∀q,M1.mem.get q=if mE P ops as eJ listed c ρ q then M.mem.get q else s1.mem.get q:=by
  intro q;rw[g2]
  by_cases hq:q∈as.filterMap id
  ·rw[aAI hq]
  ·rw[aAH hq,aAH];rintro⟨j,t,x,_,_,_,k1,_⟩;refine hq (List.mem_filterMap.2 ⟨some q,aBx k1,rfl⟩)
 refine⟨M1,h6.trans (bf.frame h6.wr h.next.symm (h.sub hp) hA g1 fun q x hx=> ?_),g1,g3⟩
 by_cases hl:mE P ops as eJ listed c ρ q
 ·right;obtain⟨j,t,y,k1,k2,k3,k4,k5,k6⟩:=hl;have hl:mE P ops as eJ listed c ρ q:=⟨j,t,y,k1,k2,k3,k4,k5,k6⟩;exact⟨⟨y,k6⟩,((h.late j t q y k1 k2 k3 k4 k6).2 k5).2,by rw[g3,aAI hl]⟩
 ·left;rw[g3,aAH hl]
open Classical in
theorem Inv.step (hc:iJ P call)(hst:Bz P ops)(dn:tD P ops.toList xT as mu)(jH:FY (ops.toList.zip as) P call n ops 0 0 zi mu eJ ch Fq lb)(RR:Ys P call ops (ch++[lb]) eJ)(hlt:Pf P ops as (ch++[lb]) eJ){listed:Array Bool}{a:Act}{w:World}
 (h:Inv P ops as eJ ch lb n ρ0 xT mu zi w0 listed a w) {i:Nat} (hi:i∈Region.ready .any ops listed) {K:Act->World->Prop} {Q:Exit->Act->World->Prop}
 (hK:∀a' w',Inv P ops as eJ ch lb n ρ0 xT mu zi w0 (listed.setIfInBounds i true) a' w'->K a' w'):wpOp P ops Q i K a w:=by
 obtain⟨kW,ES,TQ⟩:=(rW h.size).1 hi;obtain⟨fr,c,ρ,s,M,h1,h2,h3,h4,h5,h6,h7,h8,h9⟩:=h.data;have ho:ops[i]?=some ops[i]:=by simp
 generalize ops[i]=o at ho;have Kv:ops.toList[i]?=some o:=by simpa using ho
 obtain⟨t,ab,t1,vj,t2,ZQ,t3,t4,t5,t6,t7,t9,t10⟩:=mH dn jH Kv;have N0:∀j,fF ops ops.size i j=true->oF listed j:=fun j hj=>zw h.closed _ _ _ hj TQ;have Fh:∀j k,fF ops ops.size k j=true->oF listed k->oF listed j:=fun j k hj hk=>zw h.closed _ _ _ hj (h.closed k hk);have EX:i<listed.size:=by rw[h.size];exact kW
 have Jf:∀x∈pV P ops o,ev fr x=ev t.fr x:=by
  intro x hx;cases x with
  |const v=>rfl
  |tmp p=>
   show fx fr p=fx t.fr p
   by_cases hd:∃(j:Nat) (oj:Oper) (d:Tmp),ops.toList[j]?=some oj/\oj.dst=some d/\d=p
   ·obtain⟨j,oj,d,g1,g2,g3⟩:=hd
    have I5:∀(j':Nat) (o':Oper) (d':Tmp),ops.toList[j']?=some o'->o'.dst=some d'->d'=p->j'=j:=by
     intro j' o' d' k1 k2 k3;have:d'=d:=(by rw[k3,g3]);subst this;rcases Nat.lt_trichotomy j' j with hlt|heq|Bj
     ·exact absurd g2 (hst.s3 j' j o' oj d' hlt k1 g1 k2)
     ·exact heq
     ·exact absurd k2 (hst.s3 j j' oj o' d' Bj g1 k1 g2)
    rcases hst.s2 i o Kv p hx j oj d g1 g2 g3 with⟨g4,g5⟩|⟨g4,g5⟩
    ·obtain⟨tj,_,g6,_⟩:=mH dn jH g1;subst g3;rw[h1.1 j oj d tj (N0 j g5) g1 g2 g6,t7.1 j oj d tj g4 g1 g2 g6]
    ·rw[h1.2,t7.2]
     ·intro j' o' d' k0 k1 k2 k3;have:=I5 j' o' d' k1 k2 k3;have k0:j'<i:=k0;omega
     ·intro j' o' d' k0 k1 k2 k3;have:=I5 j' o' d' k1 k2 k3;subst this;exact ES (Fh i j' g5 k0)
   ·rw[h1.2,t7.2]
    ·exact fun j o d _ g1 g2 e=>hd ⟨j,o,d,g1,g2,e⟩
    ·exact fun j o d _ g1 g2 e=>hd ⟨j,o,d,g1,g2,e⟩
 have fin:∀v' w' ρ' c2 s2 M2,VR ρ' t.v v'->ρ.le ρ'->(∀j oj,ops.toList[j]?=some oj->mm P oj=true->(j=i\/oF listed j↔iU P ops.toList j<c2))->c2<=ch.length->(ch++[lb])[c2]?=some s2->bf ρ0 xT w0 ρ' M2 w'->mu.next<=s2.next->
  (∀j b,¬oF (listed.setIfInBounds i true) j->as[j]?=some (some b)->ρ' b=none)->Lp P ops as eJ (listed.setIfInBounds i true) c2 ρ' s2 M2->K (a.put o.dst v') w':=by
  intro v' w' ρ' c2 s2 M2 hv hle k4 k3 k2 hA k7 k8 k9
  refine hK _ _ {
   size:=by simp[h.size]
   closed:=fun j hj o' PB e he hb=>by
    rw[kU EX]at hj⊢;rcases hj with rfl|hj
    ·exact .inr (TQ o' PB e he hb)
    ·exact .inr (h.closed j hj o' PB e he hb)
   inner:=fun j hj=>by
    rw[kU EX]at hj;rcases hj with rfl|hj
    ·exact kW
    ·exact h.inner j hj
   data:=by
    cases hd:o.dst with
    |none=>
     refine⟨fr,c2,ρ',s2,M2,⟨fun j oj d tj g1 g2 g3 g4=> ?_,fun p hp=>h1.2 p fun j oj d g1=>hp j oj d ((kU EX).2 (.inr g1))⟩,fun j oj g1 g2=> ?_,k3,k2,h5.mono hle,hA,k7,k8,k9⟩
     ·rcases(kU EX).1 g1 with rfl|g1
      ·rw[Kv]at g2;cases g2;rw[hd]at g3;cases g3
      ·exact h1.1 j oj d tj g1 g2 g3 g4
     ·rw[kU EX];exact k4 j oj g1 g2
    |some d=>
     refine⟨fr.put (d) (some t.v),c2,ρ',s2,M2,⟨fun j oj d' tj g1 g2 g3 g4=> ?_,fun p hp=> ?_⟩,fun j oj g1 g2=> ?_,k3,k2,(h5.mono hle).Z8 (aAZ (t6 d hd) h.sz) hv,hA,k7,k8,k9⟩
     ·rcases(kU EX).1 g1 with rfl|g1
      ·rw[Kv]at g2;cases g2;rw[hd]at g3;cases g3;rw[t1]at g4;cases g4;exact lT _ _ _
      ·have g1':oF listed j:=g1;rw[mh]
       ·exact h1.1 j oj d' tj g1 g2 g3 g4
       ·intro e;subst e;rcases Nat.lt_trichotomy j i with hlt|heq|Bj
        ·exact hst.s3 j i oj o d' hlt g2 Kv g3 hd
        ·rw[heq]at g1';exact ES g1'
        ·exact hst.s3 i j o oj d' Bj Kv g2 hd g3
     ·rw[mh]
      ·exact h1.2 p fun j oj d' g1=>hp j oj d' ((kU EX).2 (.inr g1))
      ·exact fun e=>hp i o d ((kU EX).2 (.inl rfl)) Kv hd e.symm
     ·rw[kU EX];exact k4 j oj g1 g2
   sz:=by rw[Ec];exact h.sz
   defers:=by rw[yi];exact h.defers}
 have wW:mm P o=false->∀j oj,ops.toList[j]?=some oj->mm P oj=true->(j=i\/oF listed j↔iU P ops.toList j<c):=fun hw j oj g1 g2=>by
  rw[h2 j oj g1 g2];constructor
  ·rintro(e|e)
   ·subst e;rw[Kv]at g1;cases g1;rw[hw]at g2;cases g2
   ·exact e
  ·exact .inr
 have Nn:∀j b,¬oF (listed.setIfInBounds i true) j->as[j]?=some (some b)->j≠i/\ρ b=none:=fun j b hj hb=>by
  rw[kU EX]at hj;exact⟨fun e=>hj (.inl e),h8 j b (fun hh=>hj (.inr hh)) hb⟩
 have tA:∀j,oF (listed.setIfInBounds i true) j->j≠i->oF listed j:=fun j hj gL=>by
  rcases(kU EX).1 hj with e|e
  ·exact absurd e gL
  ·exact e
 unfold wpOp;rw[ho];dsimp only
 suffices WZ:(if Region.wanted o (yielded ops a.tmps)then Oper.wp P o a w K Q else K (a.put o.dst undef) w) by
  split
  ·rename_i hwt;rw[aAI hwt]at WZ;exact .inl WZ
  ·rename_i hwt;rw[aAH hwt]at WZ;exact WZ
 cases ji:nu P o with
 |some tz=>
  obtain⟨b,hb⟩:=dn.news i o Kv (.inl (by rw[ji];simp));rw[vj]at hb;cases hb;have hr:=dn.range i b vj;have Dy:=h8 i b ES vj;have hw:mm P o=false:=by unfold mm;rw[ji]
  have hB:oM P o=false:=by unfold oM;rw[vV (by rw[ji];simp)]
  have huj:∀u∈eJ,u.w=true->∃j oj,ops.toList[j]?=some oj/\mm P oj=true/\u.i=j/\u.c=iU P ops.toList j:=by
   intro u hu huw;obtain⟨j,hj,rfl⟩:=aBD hu;have PB:=wD dn jH (aAC hj);obtain⟨tj,_,g1,_,g2,_,_,g3,g4,_⟩:=mH dn jH PB;rw[aAC hj]at g1;cases g1;exact⟨j,_,PB,by rw[<-g3];exact huw,g2,g4⟩
  have Nq:∃s1,gI P call ops (some b) o fr s= .ok t.v s1:=by
   rw[nS Jf];rcases RR i t t1 (by rw[t3];exact hw) (by rw[t3];exact hB) c s h4 with⟨u,g1,g2,g3,g4⟩|⟨u,g1,g2,g3,g4⟩|⟨s2,g⟩
   ·obtain⟨j,oj,k1,k2,k3,k4⟩:=huj u g1 g2;rw[t2,k3]at g4;exact absurd (Fh i j g4 ((h2 j oj k1 k2).2 (by omega))) ES
   ·obtain⟨j,oj,k1,k2,k3,k4⟩:=huj u g1 g2;rw[t2,k3]at g4;have:=(h2 j oj k1 k2).1 (N0 j g4);omega
   ·rw[t3,ZQ]at g;exact⟨s2,g⟩
  obtain⟨sx,Np⟩:=Nq;obtain⟨M2,m1,m2⟩:=xB M (fun _=>s.mem.get b) [b]
  have m3:∀q x,ρ q=some x->M2.mem.get q=M.mem.get q:=fun q x hx=>by
   rw[m2,aAH (fun e=>by have:=aBM.1 e;subst this;rw[Dy]at hx;cases hx)]
  have Ol:=h6.qS m3 m1;refine zU ji Np (by rw[m2,aAI (by simp)]) Ol h5 Dy (by rw[m1,h9.next];omega) (by omega) fun v' w' ρ' hv hA hle hq=>fin v' w' ρ' c s M2 hv hle (wW hw) h3 h4 hA h7 (fun j b' hj py=> ?_) ⟨by rw[m1];exact h9.next,fun j t' b' x hj wV py ha hx=> ?_,fun q x hx qw=> ?_⟩
  ·obtain⟨k1,k2⟩:=Nn j b' hj py;rw[hq b' (fun e=>k1 (dn.uniq j i b' py (by rw[e];exact vj)))];exact k2
  ·have yY:j≠i:=fun e=>by subst e;rw[t1]at wV;cases wV;rw[t3,hB]at py;cases py
   have gL:b'≠b:=fun e=>yY (dn.uniq j i b' ha (by rw[e];exact vj));rw[hq b' gL]at hx;obtain⟨k1,k2⟩:=h9.late j t' b' x (tA j hj yY) wV py ha hx;exact⟨k1,fun PL=>by rw[m3 b' x hx];exact k2 PL⟩
  ·by_cases e:q=b
   ·subst e;rw[m2,aAI (by simp)]
   ·rw[hq q e]at hx;rw[m3 q x hx];exact h9.QP q x hx qw
 |none=>
  cases fV:kj P o with
  |some x=>
   have hB:oM P o=true:=by unfold oM;rw[fV]
   obtain⟨b,hb⟩:=dn.news i o Kv (.inr hB);rw[vj]at hb;cases hb;have hr:=dn.range i b vj;have Dy:=h8 i b ES vj;have hw:=CF hB;rw[<-nS Jf]at t9;rcases uH fV t9 with⟨g1,g2,g3⟩|⟨g1,sx,g2,g3,g4,g5⟩
   ·rw[aAH (by rw[iG g1 h5];simp)];refine fin undef w ρ c s M (by rw[g2];exact .undef) (fun _ _ h=>h) (wW hw) h3 h4 h6 h7 (fun j b' hj py=>(Nn j b' hj py).2) ⟨h9.next,fun j t' b' y hj wV py ha hy=> ?_,h9.QP⟩
    by_cases yY:j=i
    ·subst yY;rw[vj]at ha;cases ha;rw[Dy]at hy;cases hy
    ·exact h9.late j t' b' y (tA j hj yY) wV py ha hy
   ·rw[aAI (iG g1 h5)];obtain⟨e,len,z,ps⟩:=x;obtain⟨l,l1,l2⟩:=M9 fV h5 g2;have zb:t.s1.mem.get b=some (.cells sx e false):=by rw[g5];exact PT.cI _ _ _
    have TV:(c<iU P ops.toList i->s.mem.get b=none)/\(¬c<iU P ops.toList i->s.mem.get b=some (.cells sx e false)):=by
     constructor
     ·intro qx;obtain⟨d,od,d1,d2,d3,d4⟩:=vt (P:=P) (l:=ops.toList) i (Nat.le_of_lt (by simpa using kW)) c qx;obtain⟨td,_,e1,_,e2,_,e3,e4,e5,_⟩:=mH dn jH d2;have Fb:¬oF listed d:=fun hh=>by have:=(h2 d od d2 d3).1 hh;omega
      have a1:fF ops ops.size d i=false:=by
       cases hh:fF ops ops.size d i with
       |false=>rfl
       |true=>have:=Ih hst _ _ _ hh;omega
      have a2:fF ops ops.size i d=false:=by
       cases hh:fF ops ops.size i d with
       |false=>rfl
       |true=>exact absurd (N0 d hh) Fb
      exact(hlt i t b t1 (by rw[t3];exact hB) vj d td e1 (by rw[e3];exact d3) a1 a2).1 d1 s (by rw[e5,d4];exact h4)
     ·intro qx;obtain⟨sj,j1,j2⟩:=yD dn jH t1 (by rw[t3];exact hB) vj
      have key:∀m s',iU P ops.toList i+m<=c->(ch++[lb])[iU P ops.toList i+m]?=some s'->s'.mem.get b=some (.cells sx e false):=by
       intro m
       induction m with
       |zero=>intro s' _ tr;rw[aBl,j1]at tr;cases tr;rw[j2,zb]
       |succ m ih=>
        intro s' hm tr;have hlen:=(aAP.1 tr).1;obtain⟨s0,Wj⟩:∃s0,(ch++[lb])[iU P ops.toList i+m]?=some s0:=⟨_,aAC (by omega)⟩;have Xp:iU P ops.toList i+m<iU P ops.toList ops.toList.length:=by rw[<-zq dn jH];omega
        obtain⟨d,od,d1,d2,d3,d4⟩:=vt (P:=P) (l:=ops.toList) ops.toList.length (aAE _) _ Xp;obtain⟨td,_,e1,_,e2,_,e3,e4,e5,_⟩:=mH dn jH d2;have Fb:oF listed d:=(h2 d od d2 d3).2 (by omega)
        have hid:i<d:=by
         rcases Nat.lt_trichotomy i d with hh|hh|hh
         ·exact hh
         ·subst hh;exact absurd Fb ES
         ·have:=nE (P:=P) d2;rw[d3]at this;simp only[aAY]at this;have:=mj (P:=P) (l:=ops.toList) (show d+1<=i by omega);omega
        have a1:fF ops ops.size d i=false:=by
         cases hh:fF ops ops.size d i with
         |false=>rfl
         |true=>exact absurd (Fh i d hh Fb) ES
        have a2:fF ops ops.size i d=false:=by
         cases hh:fF ops ops.size i d with
         |false=>rfl
         |true=>have:=Ih hst _ _ _ hh;omega
        rw[(hlt i t b t1 (by rw[t3];exact hB) vj d td e1 (by rw[e3];exact d3) a1 a2).2 hid s0 s' (by rw[e5,d4];exact Wj) (by rw[e5,d4];exact tr)];exact ih s0 (by omega) Wj
      have zc:=key (c-iU P ops.toList i) s (by omega) (by rw[show iU P ops.toList i+(c-iU P ops.toList i)=c by omega];exact h4);exact zc
    obtain⟨M2,m1,m2⟩:=xB M (fun _=>some (.cells sx e false)) [b]
    have m3:∀q x,ρ q=some x->M2.mem.get q=M.mem.get q:=fun q x hx=>by
     rw[m2,aAH (fun e=>by have:=aBM.1 e;subst this;rw[Dy]at hx;cases hx)]
    have m4:M2.mem.get b=some (.cells sx e false):=by rw[m2,aAI (by simp)]
    have Ol:=(h6.qS m3 m1).adZ m4 Dy (by rw[m1,h9.next];omega) l1 (by omega);have hq:∀q,q≠b->ρ.set b (w.heap.size,l.length) q=ρ q:=fun q hq=>Ren.dt _ _ _ _ hq;unfold Oper.wp;rw[l2 w];refine fin (.slice (some ⟨w.heap.size,0,none⟩) len len) _ (ρ.set b (w.heap.size,l.length)) c s M2 (by rw[g4];exact .slice _ _ _ _ _ _ (Ren.ey ρ b _)) (fun q x hx=>by rw[hq q (fun e=>by subst e;rw[Dy]at hx;cases hx)];exact hx) (wW hw) h3 h4 Ol h7 (fun j b' hj py=> ?_) ⟨by rw[m1];exact h9.next,fun j t' b' y hj wV py ha hy=> ?_,fun q y hy qw=> ?_⟩
    ·obtain⟨k1,k2⟩:=Nn j b' hj py;rw[hq b' (fun e=>k1 (dn.uniq j i b' py (by rw[e];exact vj)))];exact k2
    ·by_cases yY:j=i
     ·subst yY;rw[vj]at ha;cases ha;rw[t1]at wV;cases wV;exact⟨g3,fun PL=>⟨by rw[m4,zb],TV.1 PL⟩⟩
     ·have gL:b'≠b:=fun e=>yY (dn.uniq j i b' ha (by rw[e];exact vj));rw[hq b' gL]at hy;obtain⟨k1,k2⟩:=h9.late j t' b' y (tA j hj yY) wV py ha hy;exact⟨k1,fun PL=>by rw[m3 b' y hy];exact k2 PL⟩
    ·by_cases e':q=b
     ·subst e';rw[m4,TV.2 (qw i t vj t1 (by rw[t3];exact hB))]
     ·rw[hq q e']at hy;rw[m3 q y hy];exact h9.QP q y hy qw
  |none=>
   have hB:oM P o=false:=by unfold oM;rw[fV]
   have uq:WR ρ s w:=h6.wr.sub (h9.sub h8) h9.next.symm;cases hw:mm P o with
   |true=>
    have hle:¬iU P ops.toList i<c:=fun hh=>ES ((h2 i o Kv hw).2 hh)
    have hcw:c=iU P ops.toList i:=by
     by_cases hlt:c<iU P ops.toList i
     ·have Dw:i<=ops.toList.length:=by simp;omega
      obtain⟨j,oj,g1,g2,g3,g4⟩:=vt (P:=P) (l:=ops.toList) i Dw c hlt;have:=(h2 j oj g2 g3).1 (N0 j (hst.s4 i j o oj Kv g2 g1 hw g3));omega
     ·omega
    subst hcw;have hts:=t10 hw;rw[h4]at hts;cases hts;rw[<-nS Jf]at t9;obtain⟨_,hsc⟩:=qR ji fV t9;have tB:=nE (P:=P) Kv;rw[hw]at tB;simp only[aAY]at tB;have Dw:i<ops.toList.length:=by simpa using kW
    obtain⟨k2,n1,n2,n3,n4,n5,n6⟩:=uZ dn jH (ops.toList.length-(i+1)) (i+1) (by omega);rw[tB]at n5;obtain⟨gn,gm⟩:=gap dn jH n1 n2 n3;have Gj:jF eJ lb (i+1)=t.s1:=(jH.oV i t t1).symm;rw[Gj]at gn gm
    have acz:∀q j t' x,oF listed j->eJ[j]?=some t'->oM P t'.o=true->as[j]?=some (some q)->ρ q=some x->k2<j->(jF eJ lb k2).mem.get q=none:=by
     intro q j t' x j1 j2 j3 j4 j5 j6;rcases n6 with e|⟨od,e1,e2⟩
     ·have:=(aAP.1 j2).1;rw[BF dn jH]at this;omega
     ·obtain⟨td,_,d1,_,d2,_,d3,d4,d5,_⟩:=mH dn jH e1;have Fb:¬oF listed k2:=fun hh=>by have:=(h2 k2 od e1 e2).1 hh;omega
      have a1:fF ops ops.size k2 j=false:=by
       cases hh:fF ops ops.size k2 j with
       |false=>rfl
       |true=>have:=Ih hst _ _ _ hh;omega
      have a2:fF ops ops.size j k2=false:=by
       cases hh:fF ops ops.size j k2 with
       |false=>rfl
       |true=>exact absurd (Fh k2 j hh j1) Fb
      exact(hlt j t' q j2 j3 j4 k2 td d1 (by rw[d3];exact e2) a1 a2).1 j6 _ (by rw[d5,n4,tB];exact n5)
    have Ru:∀{j:Nat} {t':TR},eJ[j]?=some t'->oM P t'.o=true->iU P ops.toList i<iU P ops.toList j->i+1<=j:=by
     intro j t' _ _ j3;rcases aBT i j with hh|hh
     ·omega
     ·have:=mj (P:=P) (l:=ops.toList) hh;omega
    have aky:∀{j:Nat} {t':TR},eJ[j]?=some t'->oM P t'.o=true->j≠k2:=by
     intro j t' j1 j2 e;subst e;rcases n6 with e|⟨od,e1,e2⟩
     ·have:=(aAP.1 j1).1;rw[BF dn jH]at this;omega
     ·have:=wD dn jH j1;rw[e1]at this;cases this;rw[CF j2]at e2;cases e2
    refine qQ hc hsc uq h5 fun v' w' ρ' hv hA=> ?_
    have im:∀q,mE P ops as eJ listed (iU P ops.toList i) ρ q->t.s1.mem.get q=none:=by
     rintro q ⟨j,t',x,j1,j2,j3,j4,j5,j6⟩;have HL:=Ru j2 j3 j5;rcases aBT j k2 with hjk|hjk
     ·have hg:=(gap dn jH (k:=i+1) (k':=j) HL (by omega) (fun j' o' q1 q2=>n3 j' o' q1 (by omega))).2 q (fun j' t'' q1 q2 q3 q4 q5=>by have:=dn.uniq j j' q j4 q5;omega);rw[Gj]at hg;rw[<-hg];have:jF eJ lb j=t'.s:=by unfold jF;rw[j2]
      rw[this];exact(h9.late j t' q x j1 j2 j3 j4 j6).1
     ·rw[<-gm q fun j' t'' q1 q2 q3 q4 q5=>by have:=dn.uniq j j' q j4 q5;omega];exact acz q j t' x j1 j2 j3 j4 j6 (by have:=aky j2 j3;omega)
    obtain⟨M1,b1,b2,b3⟩:=h9.step h8 h6 hA im;have NT:∀q j,as[j]?=some (some q)->ρ q=none->ρ' q=none:=fun q j hj hq=>hA.Jt q (by have:=dn.range j q hj;omega) hq
    have TX:∀q j x,as[j]?=some (some q)->ρ' q=some x->∃y,ρ q=some y:=fun q j x hj hx=>by
     cases hq:ρ q with
     |some y=>exact⟨y,rfl⟩
     |none=>rw[NT q j hj hq]at hx;cases hx
    obtain⟨M2,m1,m2⟩:=xB (jF eJ lb k2) (fun q=>if mE P ops as eJ listed (iU P ops.toList i+1) ρ q then M.mem.get q else (jF eJ lb k2).mem.get q) (as.filterMap id)
    have m3:∀q,M2.mem.get q=if mE P ops as eJ listed (iU P ops.toList i+1) ρ q then M.mem.get q else (jF eJ lb k2).mem.get q:=by
     intro q;rw[m2]
     by_cases hq:q∈as.filterMap id
     ·rw[aAI hq]
     ·rw[aAH hq,aAH];rintro⟨j,t,x,_,_,_,k1,_⟩;exact hq (List.mem_filterMap.2 ⟨some q,aBx k1,rfl⟩)
    have Ol:bf ρ0 xT w0 ρ' M2 w':=by
     refine b1.qS (fun q x hx=> ?_) (by rw[m1,b2,gn]);rw[m3,b3]
     by_cases hq:∃(j:Nat) (t':TR),as[j]?=some (some q)/\eJ[j]?=some t'/\oM P t'.o=true
     ·obtain⟨j,t',j1,j2,j3⟩:=hq;obtain⟨y,hy⟩:=TX q j x j1 hx;have RE:oF listed j:=Classical.byContradiction fun hh=>by rw[h8 j q hh j1]at hy;cases hy
      have same:∀(d:Nat),mE P ops as eJ listed d ρ q↔d<iU P ops.toList j:=fun d=>by
       constructor
       ·rintro⟨j',t'',y',_,_,_,q1,q2,_⟩;rw[<-dn.uniq j' j q q1 j1];exact q2
       ·exact fun hd=>⟨j,t',y,RE,j2,j3,j1,hd,hy⟩
      by_cases c1:iU P ops.toList i+1<iU P ops.toList j
      ·rw[aAI ((same _).2 c1),aAI ((same _).2 (by omega))]
      ·rw[aAH (fun hh=>c1 ((same _).1 hh))]
       by_cases c2:iU P ops.toList i<iU P ops.toList j
       ·rw[aAI ((same _).2 c2),((h9.late j t' q y RE j2 j3 j1 hy).2 c2).1];obtain⟨sj,s1,s2⟩:=yD dn jH j2 j3 j1;rw[show iU P ops.toList j=iU P ops.toList i+1 by omega,n5]at s1;cases s1;exact s2
       ·rw[aAH (fun hh=>c2 ((same _).1 hh)),gm q];intro j' t'' q1 q2 q3 q4 q5;have:=dn.uniq j j' q j1 q5;subst this;have:=mj (P:=P) (l:=ops.toList) q1;omega
     ·have no:∀(d:Nat),¬mE P ops as eJ listed d ρ q:=fun d=>by
       rintro⟨j,t',y,_,q1,q2,q3,_⟩;exact hq ⟨j,t',q3,q1,q2⟩
      rw[aAH (no _),aAH (no _),gm q];exact fun j t' _ _ q1 q2 q3=>hq ⟨j,t',q3,q1,q2⟩
    refine fin v' w' ρ' (iU P ops.toList i+1) (jF eJ lb k2) M2 hv hA.ext (fun j oj g1 g2=> ?_) ?_ n5 Ol (by rw[gn];exact aBS h7 hA.next) (fun j b' hj py=>NT b' j py (Nn j b' hj py).2) ⟨m1,fun j t' b' x hj wV py ha hx=> ?_,fun q x hx qw=> ?_⟩
    ·by_cases yY:j=i
     ·subst yY;simp
     ·have gL:iU P ops.toList j≠iU P ops.toList i:=by
       rcases aBT j i with hlt|nN
       ·have:=nE (P:=P) g1;rw[g2]at this;simp only[aAY]at this;have h':=mj (P:=P) (l:=ops.toList) (show j+1<=i by omega);omega
       ·have h':=mj (P:=P) (l:=ops.toList) (show i+1<=j by omega);omega
      rw[h2 j oj g1 g2];constructor
      ·rintro(e|e)
       ·exact absurd e yY
       ·omega
      ·intro e;right;omega
    ·rw[zq dn jH,<-tB];exact mj (by omega)
    ·have yY:j≠i:=fun e=>by subst e;rw[t1]at wV;cases wV;rw[t3,hB]at py;cases py
     obtain⟨y,hy⟩:=TX b' j x ha hx;have RE:=tA j hj yY;obtain⟨q1,q2⟩:=h9.late j t' b' y RE wV py ha hy;refine⟨q1,fun PL=>⟨?_, ?_⟩⟩
     ·rw[m3,aAI ⟨j,t',y,RE,wV,py,ha,PL,hy⟩];exact(q2 (by omega)).1
     ·have HL:=Ru wV py (by omega);refine acz b' j t' y RE wV py ha hy ?_;rcases aBT k2 j with hh|hh
      ·exact hh
      ·have:=mj (P:=P) (l:=ops.toList) hh;rw[n4,tB]at this;omega
    ·rw[m3,aAH];rintro⟨j,t',y,_,q1,q2,q3,q4,_⟩;exact qw j t' q3 q1 q2 q4
   |false=>
    have huj:∀u∈eJ,u.w=true->∃j oj,ops.toList[j]?=some oj/\mm P oj=true/\u.i=j/\u.c=iU P ops.toList j:=by
     intro u hu huw;obtain⟨j,hj,rfl⟩:=aBD hu;have PB:=wD dn jH (aAC hj);obtain⟨tj,_,g1,_,g2,_,_,g3,g4,_⟩:=mH dn jH PB;rw[aAC hj]at g1;cases g1;exact⟨j,_,PB,by rw[<-g3];exact huw,g2,g4⟩
    have Nq:∃s1,gI P call ops ab o fr s= .ok t.v s1:=by
     rw[nS Jf];rcases RR i t t1 (by rw[t3];exact hw) (by rw[t3];exact hB) c s h4 with⟨u,g1,g2,g3,g4⟩|⟨u,g1,g2,g3,g4⟩|⟨s2,g⟩
     ·obtain⟨j,oj,k1,k2,k3,k4⟩:=huj u g1 g2;rw[t2,k3]at g4;exact absurd (Fh i j g4 ((h2 j oj k1 k2).2 (by omega))) ES
     ·obtain⟨j,oj,k1,k2,k3,k4⟩:=huj u g1 g2;rw[t2,k3]at g4;have:=(h2 j oj k1 k2).1 (N0 j g4);omega
     ·rw[t3,ZQ]at g;exact⟨s2,g⟩
    obtain⟨sx,Np⟩:=Nq;rw[qP hw hB Np]at Np;obtain⟨awt,hsc⟩:=qR ji fV Np;refine qQ hc hsc uq h5 fun v' w' ρ' hv hA=> ?_
    have im:∀q,mE P ops as eJ listed c ρ q->s.mem.get q=none:=by
     rintro q ⟨j,t',x,j1,j2,j3,j4,j5,j6⟩;exact((h9.late j t' q x j1 j2 j3 j4 j6).2 j5).2
    obtain⟨M1,b1,b2,b3⟩:=h9.step h8 h6 hA im;have NT:∀q j,as[j]?=some (some q)->ρ q=none->ρ' q=none:=fun q j hj hq=>hA.Jt q (by have:=dn.range j q hj;omega) hq;refine fin v' w' ρ' c s M1 hv hA.ext (wW hw) h3 h4 b1 h7 (fun j b' hj py=>NT b' j py (Nn j b' hj py).2) ⟨b2,fun j t' b' x hj wV py ha hx=> ?_,fun q x hx qw=> ?_⟩
    ·have yY:j≠i:=fun e=>by subst e;rw[t1]at wV;cases wV;rw[t3,hB]at py;cases py
     cases hq:ρ b' with
     |none=>rw[NT b' j ha hq]at hx;cases hx
     |some y=>
      have RE:=tA j hj yY;obtain⟨q1,q2⟩:=h9.late j t' b' y RE wV py ha hq;refine⟨q1,fun PL=> ?_⟩;rw[b3,aAI ⟨j,t',y,RE,wV,py,ha,PL,hq⟩];exact q2 PL
    ·rw[b3,aAH];rintro⟨j,t',y,_,q1,q2,q3,q4,_⟩;exact qw j t' q3 q1 q2 q4
theorem OM (hc:iJ P call)(hst:Bz P ops)(dn:tD P ops.toList xT as mu)(jH:FY (ops.toList.zip as) P call n ops 0 0 zi mu eJ ch Fq lb)(RR:Ys P call ops (ch++[lb]) eJ)(hlt:Pf P ops as (ch++[lb]) eJ):∀(fuel:Nat) (listed:Array Bool) (a:Act) (w:World),
 Inv P ops as eJ ch lb n ρ0 xT mu zi w0 listed a w->ZJ ops.size listed<=fuel->wpAny P .any ops (pv ρ0 xT w0 n (.norm Fq lb)) fuel listed a w:=by
 intro fuel
 induction fuel with
 |zero=>
  intro listed a w h hu
  have hr:Region.ready .any ops listed=[]:=by
   rw[List.eq_nil_iff_forall_not_mem];intro i hi;obtain⟨h1,h2,h3⟩:=(rW h.size).1 hi
   have:listed.getD i true=false:=by
    have e:listed.getD i false=listed.getD i true:=by simp[h.size,h1]
    unfold oF at h2;rw[e]at h2;simpa using h2
   have:=Iq h1 h.size this;omega
  exact⟨hr,h.done dn jH (zy hst h.size hr)⟩
 |succ fuel ih=>
  intro listed a w h hu;refine⟨fun hr=>h.done dn jH (zy hst h.size hr),fun i hi=>h.step hc hst dn jH RR hlt hi fun a' w' h'=>ih _ a' w' h' ?_⟩;obtain⟨h1,h2,h3⟩:=(rW h.size).1 hi
  have:listed.getD i true=false:=by
   have e:listed.getD i false=listed.getD i true:=by simp[h.size,h1]
   unfold oF at h2;rw[e]at h2;simpa using h2
  have:=Iq h1 h.size this;omega
open Classical in
def fq (P:Program):xh:=fun call n ops fr st=>Hc P ops.toList st fun as gw=>match qk P call n ops (ops.toList.zip as) 0 0 fr gw with
 |some r=>if Bz P ops/\Ys P call ops (r.2.1++[r.2.2.2]) r.1/\Pf P ops as (r.2.1++[r.2.2.2]) r.1 then .norm r.2.2.1 r.2.2.2 else .bad
 |none=> .bad
theorem nq (hm:P.follows .mixedOrders=true):sP P (fq P):=by
 intro call n hc id ops fr st ρ a w hb hw hf hn hd;unfold fq at hb⊢;obtain⟨as,gw,dn,hk⟩:=ID (P:=P) ops.toList st;rw[hk]at hb;rw[hk];have CO:(ops.toList.zip as).map (·.1)=ops.toList:=List.map_fst_zip (by rw[dn.len];exact aAE _);cases ht:qk P call n ops (ops.toList.zip as) 0 0 fr gw with
 |none=>rw[ht]at hb;exact absurd rfl hb
 |some r=>
  obtain⟨eJ,ch,Fq,lb⟩:=r;rw[ht]at hb;dsimp only at hb⊢
  split at hb
  ·rename_i RR;rw[aAI RR];obtain⟨hst,RR,hlt⟩:=RR;have jH:=DJ ht (by rw[CO];exact hst.s3);have YU:=dn.after ρ w hw;refine wp_region_any hm ?_;refine OM (w0:=w) hc hst dn jH RR hlt _ _ _ _ ?_ ?_
   ·have qw:∀i,¬oF (Array.replicate ops.size false) i:=fun i hi=>by
     unfold oF at hi;simp only[Array.getD_eq_getD_getElem?,Array.getElem?_replicate]at hi
     split at hi<;>cases hi
    have PA:∀(j:Nat) (b:Nat),as[j]?=some (some b)->ρ b=none:=fun j b hb=>by
     have:=dn.range j b hb;cases hh:ρ b with
     |none=>rfl
     |some x=>have:=hw.fresh b x hh;omega
    obtain⟨k2,n1,n2,n3,n4,n5,n6⟩:=uZ dn jH ops.toList.length 0 (by omega);obtain⟨gn,gm⟩:=gap dn jH n1 n2 n3;have TL:jF eJ lb 0=gw:=jH.fst;rw[TL]at gn gm;have RX:iU P ops.toList 0=0:=rfl;rw[RX]at n5;have qB:∀q x,ρ q=some x->(jF eJ lb k2).mem.get q=gw.mem.get q:=fun q x hx=>gm q fun j t _ _ _ _ q5=>by rw[PA j q q5]at hx;cases hx
    exact⟨by simp,fun i hi=>absurd hi (qw i),fun i hi=>absurd hi (qw i),⟨fr,0,ρ,jF eJ lb k2,jF eJ lb k2,⟨fun j o d t hj=>absurd hj (qw j),fun p _=>rfl⟩,fun j o _ _=>⟨fun hh=>absurd hh (qw j),fun hh=>absurd hh (Nat.not_lt_zero _)⟩,aDp _,n5,hf,(YU.trans (bf.draw YU.wr _)).qS qB gn,by rw[gn];exact aAE _,fun j b _ hb=>PA j b hb,
     ⟨rfl,fun j t b x hj=>absurd hj (qw j),fun q x _ _=>rfl⟩⟩,hn,hd⟩
   ·unfold ZJ;exact aBS List.countP_le_length (by simp)
  ·exact absurd rfl hb
end
