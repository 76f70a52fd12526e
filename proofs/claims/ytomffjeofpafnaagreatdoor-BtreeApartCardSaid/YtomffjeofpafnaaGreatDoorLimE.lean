import Derived.Test.YtomffjeofpafnaaGreatDoorLimD
import Derived.Orders
namespace Lim
open Go
noncomputable section
abbrev aeI (p q:Nat):Bool:=Nat.beq p q
theorem Gl {p q:Nat}:aeI p q=true↔p=q:=by rw[aBB]
def wg (x:Option eP):List eP:=match x with|some x=>[x]|none=>[]
def AY.args:AY->List eP
 | .Ud x| .nil x| .un _ x| .conv _ x| .Hk _ x| .iface _ x| .fieldAddr _ x| .field _ _ _ x| .extract x _| .len _ x| .clear _ x| .box _ x| .EV x| .yV _ x=>[x]
 | .pick c a b=>[c,a,b]
 | .new _ _=>[]
 | .build _ ps=>ps.map (·.2.2)
 | .buildSlice _ _ _ ps=>ps.map (·.2.2)
 | .store _ a x| .bin _ _ _ a x| .uo _ _ a x| .zj _ a x| .um a x| .uq _ _ _ a x| .lookup _ _ _ a x| .mapEntry _ _ a x| .append _ _ _ _ _ a x| .copy _ _ a x| .ru _ a x| .delete _ a x=>[a,x]
 | .func _ f c=>f++c
 | .mkMap r=>wg r
 | .mkSlice _ _ _ l c=>[l,c]
 | .ni x lo hi| .pR _ x lo hi| .nk _ _ x lo hi=>x::(wg lo++wg hi)
 | .slice3 _ x lo hi mx=>x::hi::mx::wg lo
 | .mapUpdate _ m k x| .entryStore m k x=>[m,k,x]
 | .call _ args=>args
 | .BU f args=>f::args
theorem sL {fr fr':Fr}:∀{l:List eP},(∀x∈l,ev fr x=ev fr' x)->JN fr l=JN fr' l:=by
 intro l
 induction l with
 |nil=>intro _;rfl
 |cons x l ih=>
  intro h;show ev fr x::JN fr l=ev fr' x::JN fr' l;rw[h x (by simp),ih fun y hy=>h y (by simp[hy])]
theorem BL {fr fr':Fr}:∀{l:List tN},(∀x∈l.map (·.2.2),ev fr x=ev fr' x)->Lz fr l=Lz fr' l:=by
 intro l
 induction l with
 |nil=>intro _;rfl
 |cons p l ih=>
  intro h;show(p.1,p.2.1,ev fr p.2.2)::Lz fr l=(p.1,p.2.1,ev fr' p.2.2)::Lz fr' l;rw[h p.2.2 (by simp),ih fun y hy=>h y (by simp at hy⊢;exact .inr hy)]
theorem sK {fr fr':Fr}{x:Option eP}(h:∀y∈wg x,ev fr y=ev fr' y):PH fr x=PH fr' x:=by
 cases x with
 |none=>rfl
 |some x=>show some (ev fr x)=some (ev fr' x);rw[h x (by simp[wg])]
theorem Er {call:fT}{op:AY}{fr fr':Fr}{st:St}(h:∀x∈op.args,ev fr x=ev fr' x):cY call op fr st=cY call op fr' st:=by
 cases op<;>simp only[AY.args,aAX,aBe,aBF,aCA,forall_eq_or_imp,forall_eq]at h<;>simp only[cY]
 all_goals first
  |rfl
  |rw[h]
  |rw[h.1,h.2]
  |rw[h.1,h.2.1,h.2.2]
  |rw[sL h]
  |rw[BL h]
  |rw[sK h]
  |rw[h.1,sL h.2]
  |rw[sL fun x hx=>h x (.inl hx),sL fun x hx=>h x (.inr hx)]
  |rw[h.1,sK fun x hx=>h.2 x (.inl hx),sK fun x hx=>h.2 x (.inr hx)]
  |rw[h.1,h.2.1,h.2.2.1,sK h.2.2.2]
def AY.still:AY->Bool
 | .Ud _| .pick .. | .EV _| .yV .. | .nil _| .un .. | .Hk .. | .iface .. | .func .. | .ni .. | .pR .. | .slice3 .. | .nk .. | .fieldAddr .. | .field .. =>true
 | .uo .. | .zj .. | .um .. | .uq .. | .lookup .. | .extract .. | .len .. | .ru .. | .bin .. | .build .. =>true
 | .conv c _=>(match c with| .bytesOf _=>false|_=>true)
 |_=>false
structure Still (st:St)(r:OR):Prop where
 eq:∀v st',r= .ok v st'->st'=st
section
variable {st:St}
theorem Still.bad:Still st .bad:=⟨fun _ _ h=>by cases h⟩
theorem Still.ok (v:CV):Still st (.ok v st):=⟨fun _ _ h=>by cases h;rfl⟩
theorem Still.bC {b:Bool}{x y:OR}(hx:Still st x)(hy:Still st y):Still st (bC b x y):=by cases b;exact hy;exact hx
theorem Still.opt {α:Type}{x:Option α}{n:OR}{f:α->OR}(hn:Still st n)(h:∀v,Still st (f v)):Still st (Option.rec (motive:=fun _=>OR) n f x):=by cases x;exact hn;exact h _
theorem Still.nS {α:Type}{n:α}{f:α->OR}(h:∀v,Still st (f v)):Still st (Lim.nS n f):=by rw[dE];exact h _
end
theorem Still.Wv {st:St}{op:BinOp}{k:IntKind}{a b:Int}:Still st (la op k a b st):=by
 cases op<;>simp only[la]<;>first|exact Still.ok _|exact Still.bad|(split<;>first|exact Still.ok _|exact Still.bad)
theorem Still.int {st:St}{op:BinOp}{k j:IntKind}{a b:Int}:Still st (jr op k a j b st):=by
 cases op<;>simp only[jr]<;>split<;>first|exact Still.ok _|exact Still.bad|exact Still.Wv
theorem Still.str {st:St}{op:BinOp}{a b:List UInt8}:Still st (rj op a b st):=by
 cases op<;>simp only[rj]<;>first|exact Still.ok _|exact Still.bad|(split<;>first|exact Still.ok _|exact Still.bad)
theorem Still.bin {st:St}{op:BinOp}{d:Option jL}{An:Bool}{x y:CV}:Still st (aj op d An x y st):=by
 unfold aj
 split<;>first
  |exact Still.int
  |exact Still.str
  |exact Still.bad
  |(unfold uV;split<;>first|exact Still.bad|exact Still.bC Still.bad (Still.ok _))
  |(split
    ·unfold Y3;split<;>first|exact Still.ok _|exact Still.bad
    ·exact Still.bad)
theorem Still.of {st:St}{r:OR}(h:∀v st',r= .ok v st'->st'=st):Still st r:=⟨h⟩
theorem ri {call:fT}{op:AY}{fr:Fr}{st:St}(h:op.still=true):Still st (cY call op fr st):=by
 cases op with
 |Ud x=>exact Still.ok _
 |pick c a b=>simp only[cY];unfold bk;split<;>first|exact Still.bC (Still.ok _) (Still.ok _)|exact Still.bad
 |EV x=>simp only[cY];unfold aC;split<;>first|(split<;>first|exact Still.opt Still.bad (fun _=>Still.ok _)|exact Still.bad)|exact Still.bad
 |yV n x=>simp only[cY];unfold aI;split<;>first|(split<;>first|exact Still.opt Still.bad (fun _=>Still.ok _)|exact Still.bad)|exact Still.bad
 |nil x=>simp only[cY];unfold dU;split<;>first|exact Still.ok _|exact Still.bad
 |bin op d An x y=>exact Still.bin
 |un op x=>simp only[cY];unfold mo;split<;>first|exact Still.ok _|exact Still.bad|(split<;>first|exact Still.ok _|exact Still.bad)
 |conv c x=>simp only[cY];unfold dB;split<;>first|exact Still.ok _|exact Still.bad|(cases h;done)|(split<;>first|exact Still.bad|(split<;>first|exact Still.ok _|exact Still.bad))
 |Hk n x=>simp only[cY];unfold ow;split<;>first|exact Still.bC (Still.ok _) Still.bad|exact Still.bad
 |iface t x=>exact Still.ok _
 |func fn f c=>exact Still.ok _
 |ni x lo hi=>simp only[cY];unfold kD;split<;>first|exact Still.bad|(split<;>first|exact Still.ok _|exact Still.bad)
 |pR size x lo hi=>
  simp only[cY];unfold aN;split
  ·split<;>first|exact Still.ok _|exact Still.bad
  ·refine Still.bC ?_ Still.bad
   split
   ·exact Still.bC (Still.ok _) (Still.bC (Still.ok _) Still.bad)
   ·exact Still.bad
  ·exact Still.bad
 |slice3 size x lo hi mx=>
  simp only[cY];unfold iz;split
  ·split
   ·split
    ·exact Still.bC (Still.bC (Still.ok _) (Still.ok _)) Still.bad
    ·exact Still.bad
   ·exact Still.bad
  ·split
   ·split<;>first|exact Still.ok _|exact Still.bad
   ·exact Still.bad
  ·exact Still.bad
 |nk n size x lo hi=>simp only[cY];unfold bP;split<;>first|exact Still.bad|(split<;>first|exact Still.bad|exact Still.bC (Still.ok _) (Still.ok _))
 |fieldAddr off x=>simp only[cY];unfold an;split<;>first|exact Still.ok _|exact Still.bad
 |field agg off size x=>simp only[cY];unfold yQ;split<;>first|exact Still.opt Still.bad (fun _=>Still.ok _)|exact Still.bad
 |uo n size x i=>simp only[cY];unfold fK;split<;>first|exact Still.bC (Still.ok _) Still.bad|exact Still.bad
 |zj size x i=>simp only[cY];unfold cU;split<;>first|exact Still.bC (Still.ok _) Still.bad|exact Still.bad
 |um x i=>simp only[cY];unfold oz;split<;>first|exact Still.bad|(split<;>first|exact Still.ok _|exact Still.bad)
 |uq n size agg x i=>simp only[cY];unfold uT;split<;>first|exact Still.bC (Still.opt Still.bad (fun _=>Still.ok _)) Still.bad|exact Still.bad
 |lookup d z ok x k=>
  simp only[cY];unfold iA;refine Still.bC ?_ Still.bad
  split
  ·unfold uS;split<;>first|exact Still.bad|(split<;>exact Still.bC (Still.ok _) (Still.ok _))
  ·split
   ·split<;>first|exact Still.bad|exact Still.bC (Still.ok _) (Still.ok _)
   ·exact Still.bad
 |extract x i=>simp only[cY];unfold aA;split<;>first|exact Still.opt Still.bad (fun _=>Still.ok _)|exact Still.bad
 |len k x=>simp only[cY];unfold bo;split<;>first|exact Still.ok _|exact Still.bad|exact Still.bC (Still.ok _) (Still.ok _)|(split<;>first|exact Still.ok _|exact Still.bad)
 |ru mx x y=>simp only[cY];unfold Bm;split<;>first|exact Still.bC (Still.ok _) Still.bad|exact Still.bad
 |build z parts=>simp only[cY];unfold bJ;exact Still.opt Still.bad (fun _=>Still.ok _)
 |_=>cases h
def nv (P:Program)(o:Oper):Option (TypeId×List CV):=
 match o.op with
 | .alloc t=>(match P.info? t with|some i=>(match yg i with|some z=>some (t,z)|none=>none)|none=>none)
 |_=>none
def kH (P:Program)(o:Oper):Option (Nat×Nat×List CV×List tN):=
 match o.op with
 | .buildSlice t len parts=>(match P.underlying t with
   |some (.slice e)=>(match P.info? e with
    |some i=>bC (Nat.ble (Nat.mul len i.size) 16777216) (match yg i,rS (mm i.size) parts.toList with|some z,some ps=>some (e,len,z,ps)|_,_=>none) none
    |none=>none)
   |_=>none)
 |_=>none
def oU (P:Program)(o:Oper):Bool:=Option.rec (motive:=fun _=>Bool) false (fun _=>true) (kH P o)
def fR (b:Nat)(e len:Nat)(z:List CV)(parts:List tn)(st:St):OR:=
 Option.rec (motive:=fun _=>OR) (Option.rec .bad (fun s=> .ok (.slice b 0 len len 0) ⟨st.mem.put b (some (.cells s e false)),st.next⟩) (fY parts z)) (fun _=> .bad) (st.mem.get b)
open Classical in
def iO (b:Nat)(z:List CV)(t:TypeId)(st:St):OR:=match st.mem.get b with|some (.cells s u _)=>if s=z/\u=t then .ok (.ptr b 0) st else .bad|_=> .bad
def gK (P:Program)(call:fT)(ops:Array Oper)(ab:Option Nat)(o:Oper)(fr:Fr)(st:St):OR:=
 match nv P o,ab with
 |none,none=>lV P call ops o fr st
 |some tz,some b=>(match ff ops fr o with|some true=>iO b tz.2 tz.1 st|some false=> .ok .undef st|none=> .bad)
 |none,some b=>(match kH P o with
  |some x=>(match ff ops fr o with|some true=>fR b x.1 x.2.1 (cO x.2.1 x.2.2.1) (Lz fr x.2.2.2) st|some false=> .ok .undef st|none=> .bad)
  |none=> .bad)
 |_,_=> .bad
def mg (P:Program)(o:Oper):Bool:=match nv P o with|some _=>false|none=>(match kH P o with|some _=>false|none=>(match lI P o.op with|some op=>Bool.not op.still|none=>false))
theorem HO {P:Program}{o:Oper}{e len:Nat}{z:List CV}{ps:List tN}(h:kH P o=some (e,len,z,ps)):lI P o.op=some (.buildSlice e len z ps):=by
 unfold kH at h;unfold lI
 split at h
 ·rename_i t l parts ho;rw[ho];dsimp only
  split at h
  ·rename_i e' hu;rw[hu];dsimp only
   split at h
   ·rename_i i hi;rw[hi];dsimp only;rw[aM]at h⊢
    split at h
    ·rename_i hb;rw[aBb hb]
     split at h
     ·rename_i z' nX hz hp;cases h;rw[hz,hp]
     ·cases h
    ·cases h
   ·cases h
  ·cases h
 ·cases h
theorem wi {P:Program}{o:Oper}(h:nv P o≠none):kH P o=none:=by
 unfold nv at h;unfold kH
 split at h
 ·rename_i t ho;rw[ho]
 ·exact absurd rfl h
section
variable {P:Program} {ρ:Ren} {st st':St} {w:World} {v:CV} {fr:Fr} {a:Act} {call:fT}
theorem bf.re {ρ0:Ren}{mT M M2:St}{w0:World}(h:bf ρ0 mT w0 ρ M w)(hm:∀q x,ρ q=some x->M2.mem.get q=M.mem.get q)(hn:M2.next=M.next):bf ρ0 mT w0 ρ M2 w where
 wr:=⟨fun b blk r sz h1 h2=>h.wr.at' b blk r sz (by rw[<-hm b _ h2];exact h1) h2,fun b b' k k' r s s' h1 h2 h3 h4=>h.wr.inj b b' k k' r s s' (by rw[<-hm b _ h3];exact h1) (by rw[<-hm b' _ h4];exact h2) h3 h4,fun b x hx=>by rw[hn];exact h.wr.fresh b x hx⟩
 ext:=h.ext
 JP:=h.JP
 next:=by rw[hn];exact h.next
 origin:=fun b blk r sz h1 h2=>h.origin b blk r sz (by rw[<-hm b _ h2];exact h1) h2
 kept:=h.kept
 size:=h.size
 os:=h.os
 output:=h.output
theorem WR.sub {M s:St}(h:WR ρ M w)(hm:∀q x,ρ q=some x->s.mem.get q=M.mem.get q\/s.mem.get q=none)(hn:s.next=M.next):WR ρ s w:=by
 have key:∀b blk x,s.mem.get b=some blk->ρ b=some x->M.mem.get b=some blk:=fun b blk x h1 h2=>by
  rcases hm b x h2 with e|e
  ·rw[<-e];exact h1
  ·rw[e]at h1;cases h1
 exact⟨fun b blk r sz h1 h2=>h.at' b blk r sz (key b blk _ h1 h2) h2,fun b b' k k' r z z' h1 h2 h3 h4=>h.inj b b' k k' r z z' (key b k _ h1 h3) (key b' k' _ h2 h4) h3 h4,fun b x hx=>by rw[hn];exact h.fresh b x hx⟩
theorem bf.frame {M M' s s':St}{ρ':Ren}{w':World}(h:WR ρ M w)(hn:s.next=M.next)(hm:∀q x,ρ q=some x->s.mem.get q=M.mem.get q\/s.mem.get q=none)(hA:bf ρ s w ρ' s' w')(hn':M'.next=s'.next)
 (Dm:∀q x,ρ' q=some x->M'.mem.get q=s'.mem.get q\/((∃y,ρ q=some y)/\s.mem.get q=none/\M'.mem.get q=M.mem.get q)):bf ρ M w ρ' M' w':=by
 have low:∀q blk r sz,M.mem.get q=some blk->ρ q=some (r,sz)->r<w.heap.size:=fun q blk r sz h1 h2=>by
  obtain⟨o,e2,_⟩:=h.at' q blk r sz h1 h2;exact(aBI.1 e2).1
 have up:∀q blk x,s.mem.get q=some blk->ρ q=some x->M.mem.get q=some blk:=fun q blk x h1 h2=>by
  rcases hm q x h2 with e|e
  ·rw[<-e];exact h1
  ·rw[e]at h1;cases h1
 have mix:∀b blk r sz,s'.mem.get b=some blk->ρ' b=some (r,sz)->∀q fc Qy,s.mem.get q=none->M.mem.get q=some fc->ρ q=some (r,Qy)->False:=by
  intro b blk r sz h1 h2 q fc Qy h3 h4 h5;rcases hA.origin b blk r sz h1 h2 with⟨b0,blk0,Cj,g1,g2⟩|g
  ·have:=h.inj b0 q blk0 fc r Cj Qy (up b0 blk0 _ g1 g2) h4 g2 h5;subst this;rw[h3]at g1;cases g1
  ·have:=low q fc r Qy h4 h5;omega
 have Zu:∀b blk r sz,M'.mem.get b=some blk->ρ' b=some (r,sz)->(∃b0 blk0 Cj,M.mem.get b0=some blk0/\ρ b0=some (r,Cj))\/w.heap.size<=r:=fun b blk r sz h1 h2=>by
  rcases Dm b _ h2 with e|⟨⟨y,e2⟩,e3,e4⟩
  ·rcases hA.origin b blk r sz (by rw[<-e];exact h1) h2 with⟨b0,blk0,Cj,g1,g2⟩|g
   ·exact .inl ⟨b0,blk0,Cj,up b0 blk0 _ g1 g2,g2⟩
   ·exact .inr g
  ·have:=hA.ext b y e2;rw[h2]at this;cases this;exact .inl ⟨b,blk,sz,by rw[<-e4];exact h1,e2⟩
 have Dn:∀r:Nat,r<w.heap.size->(∀b blk sz,M.mem.get b=some blk->ρ b≠some (r,sz))->w'.heap[r]?=w.heap[r]?:=fun r hr hk=>hA.kept r hr fun b blk sz g1 g2=>hk b blk sz (up b blk _ g1 g2) g2;refine⟨⟨fun b blk r sz h1 h2=> ?_,fun b b' k k' r z z' h1 h2 h3 h4=> ?_,fun b x hx=>by rw[hn'];exact hA.wr.fresh b x hx⟩,hA.ext,fun q hq hr=>hA.JP q (by rw[hn];exact hq) hr,by rw[hn',<-hn];exact hA.next,fun b blk r sz h1 h2=> ?_,fun r hr hk=>hA.kept r hr fun b blk sz g1 g2=>hk b blk sz (up b blk _ g1 g2) g2,hA.size,hA.os,hA.output⟩
 ·rcases Dm b _ h2 with e|⟨⟨y,e2⟩,e3,e4⟩
  ·exact hA.wr.at' b blk r sz (by rw[<-e];exact h1) h2
  ·have:=hA.ext b y e2;rw[h2]at this;cases this;rw[e4]at h1;obtain⟨o,g1,g2⟩:=h.at' b blk r sz h1 e2;refine⟨o, ?_,g2.mono hA.ext⟩;rw[hA.kept r (low b blk r sz h1 e2)]
   ·exact g1
   ·intro b' fc Qy g3 g4;have:=h.inj b' b fc blk r Qy sz (up b' fc _ g3 g4) h1 g4 e2;subst this;rw[e3]at g3;cases g3
 ·rcases Dm b _ h3 with e|⟨⟨y,e2⟩,e3,e4⟩
  ·rcases Dm b' _ h4 with f|⟨⟨y',f2⟩,f3,f4⟩
   ·exact hA.wr.inj b b' k k' r z z' (by rw[<-e];exact h1) (by rw[<-f];exact h2) h3 h4
   ·have:=hA.ext b' y' f2;rw[h4]at this;cases this;exact absurd (mix b k r z (by rw[<-e];exact h1) h3 b' k' z' f3 (by rw[<-f4];exact h2) f2) id
  ·have:=hA.ext b y e2;rw[h3]at this;cases this;rcases Dm b' _ h4 with f|⟨⟨y',f2⟩,f3,f4⟩
   ·exact absurd (mix b' k' r z' (by rw[<-f];exact h2) h4 b k z e3 (by rw[<-e4];exact h1) e2) id
   ·have:=hA.ext b' y' f2;rw[h4]at this;cases this;exact h.inj b b' k k' r z z' (by rw[<-e4];exact h1) (by rw[<-f4];exact h2) e2 f2
 ·rcases Dm b _ h2 with e|⟨⟨y,e2⟩,e3,e4⟩
  ·rcases hA.origin b blk r sz (by rw[<-e];exact h1) h2 with⟨b0,blk0,Cj,g1,g2⟩|g
   ·exact .inl ⟨b0,blk0,Cj,up b0 blk0 _ g1 g2,g2⟩
   ·exact .inr g
  ·have:=hA.ext b y e2;rw[h2]at this;cases this;exact .inl ⟨b,blk,sz,by rw[<-e4];exact h1,e2⟩
theorem bf.aeG {ρ0:Ren}{mT M:St}{w0:World}{b:Nat}{s:List CV}{t:TypeId}{g:Bool}{l:List Value}(hA:bf ρ0 mT w0 ρ M w)(hm:M.mem.get b=some (.cells s t g))(hb:ρ b=none)(hlt:b<M.next)(hl:eu ρ s l)(hN:mT.next<=b):
 bf ρ0 mT w0 (ρ.set b (w.heap.size,l.length)) M {w with heap:=w.heap.push (.cells l.toArray t)}:=by
 have hw:=hA.wr
 have hle:ρ.le (ρ.set b (w.heap.size,l.length)):=fun q x hx=>by
  rw[Ren.dp _ _ _ _ (fun e=>by subst e;rw[hb]at hx;cases hx)];exact hx
 have acs:∀q blk r s,M.mem.get q=some blk->ρ q=some (r,s)->r<w.heap.size:=fun q blk r s h1 h2=>by
  obtain⟨o,e2,_⟩:=hw.at' q blk r s h1 h2;exact(aBI.1 e2).1
 have uA:WR (ρ.set b (w.heap.size,l.length)) M {w with heap:=w.heap.push (.cells l.toArray t)}:=by
  refine⟨fun q blk r sz h1 h2=> ?_,fun q q' blk fc r sz Qy h1 h2 h3 h4=> ?_,fun q x hx=> ?_⟩
  ·by_cases e:q=b
   ·subst e;rw[Ren.eA]at h2;cases h2;rw[hm]at h1;cases h1;have hlen:s.length=l.length:=by rw[hl.len]
    refine⟨.cells l.toArray t,by simp, ?_⟩;have QW:=BR.cells (ρ:=ρ.set q (w.heap.size,l.length)) s t g l.toArray 0 0 (by simp[hlen]) (by rw[hlen];simpa using hl.mono hle) (by omega) (by intros;omega)
    simpa using QW
   ·rw[Ren.dp _ _ _ _ e]at h2;obtain⟨o,e2,e3⟩:=hw.at' q blk r sz h1 h2;refine⟨o, ?_,e3.mono hle⟩;have:=(aBI.1 e2).1;show(w.heap.push _)[r]?=_;rw[aDp,aAZ (by omega)];exact e2
  ·by_cases e:q=b
   ·by_cases e':q'=b
    ·rw[e,e']
    ·rw[e,Ren.eA]at h3;cases h3;rw[Ren.dp _ _ _ _ e']at h4;have:=acs q' fc _ _ h2 h4;omega
   ·by_cases e':q'=b
    ·rw[e',Ren.eA]at h4;cases h4;rw[Ren.dp _ _ _ _ e]at h3;have:=acs q blk _ _ h1 h3;omega
    ·rw[Ren.dp _ _ _ _ e]at h3;rw[Ren.dp _ _ _ _ e']at h4;exact hw.inj q q' blk fc r sz Qy h1 h2 h3 h4
  ·by_cases e:q=b
   ·subst e;exact hlt
   ·rw[Ren.dp _ _ _ _ e]at hx;exact hw.fresh q x hx
 refine⟨uA,fun q x hx=>hle q x (hA.ext q x hx),fun q hq hn=> ?_,hA.next,fun q blk r sz h1 h2=> ?_,fun r hr hn=> ?_, ?_,hA.os,hA.output⟩
 ·rw[Ren.dp _ _ _ _ (fun e=>by subst e;omega)];exact hA.JP q hq hn
 ·by_cases e:q=b
  ·subst e;rw[Ren.eA]at h2;cases h2;exact .inr hA.size
  ·rw[Ren.dp _ _ _ _ e]at h2;exact hA.origin q blk r sz h1 h2
 ·show(w.heap.push _)[r]?=_;have:=hA.size;rw[aDp,aAZ (by omega)];exact hA.kept r hr hn
 ·show w0.heap.size<=(w.heap.push _).size;have:=hA.size;rw[Array.size_push];omega
theorem KL {o:Oper}{t:TypeId}{z:List CV}(h:nv P o=some (t,z)):∃l:List Value,(∀ρ,eu ρ z l)/\
 ∀(f:Operand->Value) (w:World),(execOp f o).run P w= .ok (.value (.pointer (some ⟨w.heap.size,0,none⟩))) {w with heap:=w.heap.push (.cells l.toArray t)}:=by
 unfold nv at h
 split at h
 ·rename_i t' ho
  split at h
  ·rename_i i hi
   split at h
   ·rename_i z' hz;cases h;obtain⟨zv,z1,z2,z3⟩:=jm hz;refine⟨zv.cells.toList,z3,fun f w=> ?_⟩;unfold execOp;rw[ho];simp[Instr.alloc,zeroValue,typeInfo,hi,z1,newVar]
    rfl
   ·cases h
  ·cases h
 ·cases h
theorem Ly {i:TypeInfo}{len:Nat}{z s:List CV}{z':Value}{parts:List tn}{parts':Array (Nat×Value)}(hf:fY parts (cO len z)=some s)(hsz:z'.cells.size=i.size)(vT:∀ρ,eu ρ z z'.cells.toList)(hp:qv ρ (mm i.size) parts parts'.toList):
 ∃kj,Instr.fill (mm i.size) ((Array.range (len*i.size)).map (z'.cells[·%z'.cells.size]!)) parts'.toList=some kj/\eu ρ s kj.toList:=by
 have gw:(List.replicate len z'.cells.toList).flatten=((Array.range (len*i.size)).map (z'.cells[·%z'.cells.size]!)).toList:=by
  rw[<-hsz,aCz,aDt];exact(oX z'.cells len).symm
 have hvz:eu ρ (cO len z) ((Array.range (len*i.size)).map (z'.cells[·%z'.cells.size]!)).toList:=by
  rw[<-gw];exact(vT ρ).flatten len
 exact qp hp hf hvz
theorem Og {o:Oper}{e len:Nat}{z s:List CV}{ps:List tN}(h:kH P o=some (e,len,z,ps))(hf:FR ρ fr a.tmps)(hs:fY (Lz fr ps) (cO len z)=some s):
 ∃l:List Value,eu ρ s l/\∀w,(execOp a.eval o).run P w= .ok (.value (.slice (some ⟨w.heap.size,0,none⟩) len len)) {w with heap:=w.heap.push (.cells l.toArray e)}:=by
 unfold kH at h
 split at h
 ·rename_i t l parts ho
  split at h
  ·rename_i e' hu
   split at h
   ·rename_i i hi;simp only[aM,aBy]at h
    split at h
    ·rename_i hle
     split at h
     ·rename_i z' nX hz hp;cases h;obtain⟨zv,z1,z2,z3⟩:=jm hz;have Sx:=mR hp hf;obtain⟨kj,f1,f2⟩:=Ly (parts':=parts.map fun p=>(p.1,a.eval p.2)) hs z2 z3 (by rw[aCz];exact Sx);refine⟨kj.toList,f2,fun w=> ?_⟩;have hn:¬(len*i.size>2^24):=by have Xv:len*i.size<=16777216:=hle;show¬(len*i.size>16777216);omega
      have h1:∀c:Array Value,(newRow e c).run P w= .ok ⟨w.heap.size,0,none⟩ {w with heap:=w.heap.push (.cells c e)}:=fun c=>rfl
      have he:execOp a.eval o=(do let v<-Instr.buildSlice t len (parts.map fun p=>(p.1,a.eval p.2));pure (.value v)):=by
       unfold execOp;rw[ho]
      have HX:(fun k=>some (k*i.size,i.size))=mm i.size:=rfl;rw[he,aCw];simp only[Instr.buildSlice,Sem.run_bind,aBd hu,Result.andThen_ok,Go.sizeOf,typeInfo,run_program,hi,Sem.run_pure,aAZ hn]
      by_cases h0:len*i.size=0
      ·have Zj:((Array.range (len*i.size)).map (zv.cells[·%zv.cells.size]!))=((Array.range (len*i.size)).map ((#[]:Array Value)[·%(#[]:Array Value).size]!)):=by
        rw[h0,Array.range_zero'];simp
       rw[Zj]at f1;rw[aBb h0]
       show Result.andThen (Sem.run P (do
        let some cells:=Instr.fill (mm i.size) ((Array.range (len*i.size)).map ((#[]:Array Value)[·%(#[]:Array Value).size]!)) (parts.map fun p=>(p.1,a.eval p.2)).toList|stuck "buildSlice: a part of the wrong size"
        pure (Value.slice (some (<-newRow e cells)) len len)) w) _=_
       rw[f1];simp only[Sem.run_bind,h1,Result.andThen_ok,Sem.run_pure]
      ·rw[aAZ h0];simp only[zeroValue,typeInfo,Sem.run_bind,run_program,Result.andThen_ok,hi,z1,Sem.run_pure];rw[HX,f1];simp only[Sem.run_bind,h1,Result.andThen_ok,Sem.run_pure]
     ·cases h
    ·cases h
   ·cases h
  ·cases h
 ·cases h
theorem As {ops:Array Oper}{b:Nat}{o:Oper}{tz:TypeId×List CV}(hnf:nv P o=some tz){M:St}(h:gK P call ops (some b) o fr st= .ok v st')(hm:M.mem.get b=st.mem.get b){ρ0:Ren}{mT:St}{w0:World}(hA:bf ρ0 mT w0 ρ M w)(hf:FR ρ fr a.tmps)(hb:ρ b=none)(hlt:b<M.next)(hN:mT.next<=b)
 {next:Act->World->Prop} {Q:Exit->Act->World->Prop} (hn:∀v' w' ρ',VR ρ' v v'->bf ρ0 mT w0 ρ' M w'->ρ.le ρ'->(∀q,q≠b->ρ' q=ρ q)->next (a.put o.dst v') w'):
 if Region.wanted o (yielded ops a.tmps)then o.wp P a w next Q else next (a.put o.dst undef) w:=by
 obtain⟨t,z⟩:=tz;unfold gK at h;rw[hnf]at h;dsimp only at h
 split at h
 ·rename_i hwt;rw[aBb (iJ hwt hf)];unfold iO at h
  split at h
  ·rename_i s u g tF
   split at h
   ·rename_i hh;obtain⟨rfl,rfl⟩:=hh;cases h;obtain⟨l,hl,jv⟩:=KL hnf;unfold Oper.wp;rw[jv];exact hn _ _ _ (.ptr b 0 _ _ (Ren.eA ρ b _)) (hA.aeG (by rw[hm];exact tF) hb hlt (hl ρ) hN) (fun q x hx=>by rw[Ren.dp _ _ _ _ (fun e=>by subst e;rw[hb]at hx;cases hx)];exact hx) (fun q hq=>Ren.dp _ _ _ _ hq)
   ·cases h
  ·cases h
 ·rename_i hwt;rw[aAZ (by rw[iJ hwt hf];simp)];cases h;exact hn _ w ρ .undef hA (fun _ _ h=>h) fun _ _=>rfl
 ·cases h
theorem uL {ops:Array Oper}{b:Nat}{o:Oper}{x:Nat×Nat×List CV×List tN}(hl:kH P o=some x)(h:gK P call ops (some b) o fr st= .ok v st'):
 (ff ops fr o=some false/\v= .undef/\st'=st)\/
 (ff ops fr o=some true/\∃s,fY (Lz fr x.2.2.2) (cO x.2.1 x.2.2.1)=some s/\st.mem.get b=none/\v= .slice b 0 x.2.1 x.2.1 0/\st'=⟨st.mem.put b (some (.cells s x.1 false)),st.next⟩):=by
 have hn:nv P o=none:=by
  cases hh:nv P o with
  |none=>rfl
  |some tz=>have:=wi (P:=P) (o:=o) (by rw[hh];simp);rw[hl]at this;cases this
 unfold gK at h;rw[hn,hl]at h;dsimp only at h
 split at h
 ·rename_i hwt;unfold fR at h;cases hg:st.mem.get b with
  |some _=>rw[hg]at h;cases h
  |none=>
   rw[hg]at h;cases hf:fY (Lz fr x.2.2.2) (cO x.2.1 x.2.2.1)with
   |none=>rw[hf]at h;cases h
   |some s=>
    rw[hf]at h;dsimp only at h;cases h;exact .inr ⟨hwt,s,rfl,rfl,rfl,rfl⟩
 ·rename_i hwt;cases h;exact .inl ⟨hwt,rfl,rfl⟩
 ·cases h
theorem rb {ops:Array Oper}{ab:Option Nat}{o:Oper}(hn:nv P o=none)(hl:kH P o=none)(h:gK P call ops ab o fr st= .ok v st'):ab=none/\lV P call ops o fr st= .ok v st':=by
 unfold gK at h;rw[hn]at h;cases ab with
 |none=>exact⟨rfl,h⟩
 |some b=>dsimp only at h;rw[hl]at h;cases h
theorem Ap {ops:Array Oper}{o:Oper}{fr':Fr}(h:∀g b d,o.guard=some (g,b)->(ops[g]?).bind (·.dst)=some d->fB fr (d)=fB fr' (d)):ff ops fr o=ff ops fr' o:=by
 unfold ff;cases hg:o.guard with
 |none=>rfl
 |some gb=>
  obtain⟨g,b⟩:=gb;dsimp only;cases hd:(ops[g]?).bind (·.dst)with
  |none=>rfl
  |some d=>dsimp only;rw[h g b d hg hd]
end
def Hw {β:Type}(P:Program)(l:List Oper):St->(List (Option Nat)->St->β)->β:=
 List.rec (motive:=fun _=>St->(List (Option Nat)->St->β)->β) (fun st k=>k [] st)
  (fun o _ ih st k=>Option.rec (Bool.rec (motive:=fun _=>β) (ih st fun as st=>k (none::as) st) (nS (st.next+1) fun nx=>ih ⟨st.mem,nx⟩ fun as tX=>k (some st.next::as) tX) (oU P o))
   (fun tz=>nS (st.next+1) fun nx=>nS ⟨st.mem.put st.next (some (.cells tz.2 tz.1 false)),nx⟩ fun gh=>ih gh fun as tX=>k (some st.next::as) tX) (nv P o)) l
structure tM (P:Program)(l:List Oper)(st:St)(as:List (Option Nat))(gh:St):Prop where
 len:as.length=l.length
 next:st.next<=gh.next
 range:∀(i:Nat) (b:Nat),as[i]?=some (some b)->st.next<=b/\b<gh.next
 uniq:∀(i j:Nat) (b:Nat),as[i]?=some (some b)->as[j]?=some (some b)->i=j
 after:∀ρ w,WR ρ st w->bf ρ st w ρ gh w
 olds:∀(i:Nat) (o:Oper),l[i]?=some o->nv P o=none->oU P o=false->as[i]?=some none
 news:∀(i:Nat) (o:Oper),l[i]?=some o->nv P o≠none\/oU P o=true->∃b,as[i]?=some (some b)
theorem bf.aaC {ρ:Ren}{st:St}{w:World}(h:WR ρ st w)(blk:qS):bf ρ st w ρ (st.new blk) w:=by
 have hn:ρ st.next=none:=by
  cases hh:ρ st.next with
  |none=>rfl
  |some x=>have:=h.fresh _ x hh;omega
 have ij:∀b fc x,(st.new blk).mem.get b=some fc->ρ b=some x->st.mem.get b=some fc:=fun b fc x h1 h2=>by
  have hb:b≠st.next:=fun e=>by rw[e,hn]at h2;cases h2
  simpa[St.new,PT.cZ _ _ _ _ hb]using h1
 refine⟨⟨fun b fc r sz h1 h2=>h.at' b fc r sz (ij b fc _ h1 h2) h2,fun b b' k k' r s s' h1 h2 h3 h4=>h.inj b b' k k' r s s' (ij b k _ h1 h3) (ij b' k' _ h2 h4) h3 h4,fun b x hx=> ?_⟩,fun _ _ h=>h,fun _ _ h=>h, ?_,
  fun b fc r sz h1 h2=> .inl ⟨b,fc,sz,ij b fc _ h1 h2,h2⟩,fun _ _ _=>rfl,aAU _,rfl,rfl⟩
 ·show b<(st.next+1);have:=h.fresh b x hx;omega
 ·show st.next<=(st.next+1);omega
theorem bf.skip {ρ:Ren}{st:St}{w:World}(h:WR ρ st w):bf ρ st w ρ ⟨st.mem,(st.next+1)⟩ w:=
 ⟨⟨h.at',h.inj,fun b x hx=>by show b<(st.next+1);have:=h.fresh b x hx;omega⟩,fun _ _ h=>h,fun _ _ h=>h,by show st.next<=(st.next+1);omega,
   fun b fc r sz h1 h2=> .inl ⟨b,fc,sz,h1,h2⟩,fun _ _ _=>rfl,aAU _,rfl,rfl⟩
theorem tM.cons {P:Program}{l:List Oper}{st tX:St}{as:List (Option Nat)}{o:Oper}(hg:nv P o≠none\/oU P o=true){mem:PT qS}(h1:tM P l ⟨mem,(st.next+1)⟩ as tX)(ha:∀ρ w,WR ρ st w->bf ρ st w ρ ⟨mem,(st.next+1)⟩ w):tM P (o::l) st (some st.next::as) tX:=by
 have AP:((st.next+1))=st.next+1:=rfl
 have hr:∀(i:Nat) (b:Nat),as[i]?=some (some b)->st.next+1<=b/\b<tX.next:=fun i b h=>by
  have:=h1.range i b h;have e:(St.mk mem (st.next+1)).next=st.next+1:=AP;omega
 have hx:st.next+1<=tX.next:=by have:=h1.next;have e:(St.mk mem (st.next+1)).next=st.next+1:=AP;omega
 refine⟨by simp[h1.len],by omega,fun i b h=> ?_,fun i j b h h'=> ?_,fun ρ w hw=>(ha ρ w hw).trans (h1.after ρ w (ha ρ w hw).wr),fun i o' h hh hb=> ?_,fun i o' h hh=> ?_⟩
 ·cases i with
  |zero=>simp at h;subst h;omega
  |succ i=>have:=hr i b (by simpa using h);omega
 ·cases i with
  |zero=>
   cases j with
   |zero=>rfl
   |succ j=>simp at h;subst h;have:=hr j _ (by simpa using h');omega
  |succ i=>cases j with
   |zero=>simp at h';subst h';have:=hr i _ (by simpa using h);omega
   |succ j=>rw[h1.uniq i j b (by simpa using h) (by simpa using h')]
 ·cases i with
  |zero=>simp at h;subst h;rcases hg with hg|hg;exact absurd hh hg;rw[hb]at hg;cases hg
  |succ i=>exact h1.olds i o' (by simpa using h) hh hb
 ·cases i with
  |zero=>exact⟨_,rfl⟩
  |succ i=>exact h1.news i o' (by simpa using h) hh
theorem IZ {P:Program}:∀(l:List Oper) (st:St),∃as gh,tM P l st as gh/\∀(β:Type) (k:List (Option Nat)->St->β),Hw P l st k=k as gh:=by
 intro l
 induction l with
 |nil=>intro st;exact⟨[],st,⟨rfl,aAU _,fun i b h=>by simp at h,fun i j b h=>by simp at h,fun ρ w h=>bf.refl h,fun i o h=>by simp at h,fun i o h=>by simp at h⟩,fun β k=>rfl⟩
 |cons o l ih=>
  intro st
  have e:∀(β:Type) (k:List (Option Nat)->St->β),Hw P (o::l) st k=Option.rec (Bool.rec (motive:=fun _=>β) (Hw P l st fun as st=>k (none::as) st) (nS (st.next+1) fun nx=>Hw P l ⟨st.mem,nx⟩ fun as tX=>k (some st.next::as) tX) (oU P o))
   (fun tz=>nS (st.next+1) fun nx=>nS ⟨st.mem.put st.next (some (.cells tz.2 tz.1 false)),nx⟩ fun gh=>Hw P l gh fun as tX=>k (some st.next::as) tX) (nv P o):=fun β k=>rfl
  cases hn:nv P o with
  |none=>
   cases hb:oU P o with
   |false=>
    obtain⟨as,gh,h1,h2⟩:=ih st;refine⟨none::as,gh,⟨by simp[h1.len],h1.next,fun i b h=> ?_,fun i j b h h'=> ?_,h1.after,fun i o h hh U1=>by cases i with|zero=>rfl|succ i=>exact h1.olds i o (by simpa using h) hh U1,fun i o h hh=>by cases i with|zero=>(simp at h;subst h;rcases hh with hh|hh;exact absurd hn hh;rw[hb]at hh;cases hh)|succ i=>exact h1.news i o (by simpa using h) hh⟩,fun β k=>by rw[e,hn,hb];exact h2 _ _⟩
    ·cases i with
     |zero=>simp at h
     |succ i=>exact h1.range i b (by simpa using h)
    ·cases i with
     |zero=>simp at h
     |succ i=>cases j with
      |zero=>simp at h'
      |succ j=>rw[h1.uniq i j b (by simpa using h) (by simpa using h')]
   |true=>
    obtain⟨as,tX,h1,h2⟩:=ih ⟨st.mem,(st.next+1)⟩;exact⟨some st.next::as,tX,h1.cons (.inr hb) fun ρ w hw=>bf.skip hw,fun β k=>by rw[e,hn,hb];show nS (st.next+1) _=_;rw[dE];exact h2 _ _⟩
  |some tz=>
   obtain⟨as,tX,h1,h2⟩:=ih (st.new (.cells tz.2 tz.1 false))
   exact⟨some st.next::as,tX,tM.cons (mem:=st.mem.put st.next (some (.cells tz.2 tz.1 false))) (.inl (by rw[hn];simp)) h1 fun ρ w hw=>bf.aaC hw (.cells tz.2 tz.1 false),fun β k=>by
    rw[e,hn];show nS (st.next+1) _=_;rw[dE];rw[dE];exact h2 _ _⟩
def DJ {α:Type}(l:List α)(p:α->Bool):Bool:=List.rec false (fun x _ r=>Bool.or (p x) r) l
def AW {α:Type}(l:List α)(p:α->Bool):Bool:=List.rec true (fun x _ r=>Bool.and (p x) r) l
theorem zQ {α:Type}{l:List α}{p:α->Bool}:DJ l p=true↔∃x∈l,p x=true:=by
 induction l with
 |nil=>simp[DJ]
 |cons x l ih=>
  have e:DJ (x::l) p=Bool.or (p x) (DJ l p):=rfl;rw[e];simp only[aBS,ih,aAX,exists_eq_or_imp]
theorem nM {α:Type}{l:List α}{p:α->Bool}:AW l p=true↔∀x∈l,p x=true:=by
 induction l with
 |nil=>simp[AW]
 |cons x l ih=>
  have e:AW (x::l) p=Bool.and (p x) (AW l p):=rfl;rw[e];simp only[aBp,ih,aAX,forall_eq_or_imp]
def KW {α:Type}(l:List α):Nat->List (Nat×α):=List.rec (motive:=fun _=>Nat->List (Nat×α)) (fun _=>[]) (fun x _ ih i=>(i,x)::ih (Nat.succ i)) l
theorem vp {α:Type}:∀{l:List α} {i:Nat} {k:Nat} {x:α},l[k]?=some x->(i+k,x)∈KW l i:=by
 intro l
 induction l with
 |nil=>intro i k x h;simp at h
 |cons y l ih=>
  intro i k x h;have e:KW (y::l) i=(i,y)::KW l (i+1):=rfl;rw[e];cases k with
  |zero=>simp at h;subst h;simp
  |succ k=>
   simp at h;have:=ih (i:=i+1) h;rw[show i+(k+1)=i+1+k by omega];exact aCd _ this
def qh (P:Program)(ops:Array Oper)(o:Oper):List eP:=
 (match lI P o.op with|some op=>op.args|none=>[])++
 (match o.guard with|some (g,_)=>(match (ops[g]?).bind (·.dst)with|some d=>[eP.tmp (d)]|none=>[])|none=>[])
def fG (ops:Array Oper)(f:Nat):Nat->Nat->Bool:=
 Nat.rec (motive:=fun _=>Nat->Nat->Bool) (fun _ _=>false) (fun _ ih i j=>match ops[i]? with
  |none=>false
  |some o=>DJ o.after.toList fun e=>Bool.and (Region.binds .any e) (nS e.on fun k=>Bool.or (Nat.beq k j) (ih k j))) f
section
variable {P:Program} {call:fT} {ops:Array Oper}
theorem Ef {o:Oper}{fr fr':Fr}{st:St}(h:∀x∈qh P ops o,ev fr x=ev fr' x):lV P call ops o fr st=lV P call ops o fr' st:=by
 have hw:ff ops fr o=ff ops fr' o:=by
  unfold ff;unfold qh at h;cases hg:o.guard with
  |none=>rfl
  |some gb=>
   obtain⟨g,b⟩:=gb;dsimp only;rw[hg]at h;dsimp only at h;cases hd:(ops[g]?).bind (·.dst)with
   |none=>rfl
   |some d=>
    rw[hd]at h;have h1:fB fr (d)=fB fr' (d):=h (.tmp (d)) (by simp);dsimp only;rw[h1]
 unfold lV;rw[hw]
 split
 ·cases ho:lI P o.op with
  |none=>rfl
  |some op=>
   dsimp only;refine Er fun x hx=>h x ?_;unfold qh;rw[ho];simp[hx]
 ·rfl
 ·rfl
theorem om {ab:Option Nat}{o:Oper}{fr fr':Fr}{st:St}(h:∀x∈qh P ops o,ev fr x=ev fr' x):gK P call ops ab o fr st=gK P call ops ab o fr' st:=by
 have hw:ff ops fr o=ff ops fr' o:=Ap fun g b d hg hd=>
  h (.tmp (d)) (by unfold qh;rw[hg];dsimp only;rw[hd];simp)
 unfold gK;rw[Ef h,hw];cases nv P o with
 |some tz=>cases ab<;>rfl
 |none=>
  cases ab with
  |none=>rfl
  |some b=>
   dsimp only;cases hl:kH P o with
   |none=>rfl
   |some x=>
    obtain⟨e,len,z,ps⟩:=x;dsimp only;have hc:=HO hl;rw[BL (fr:=fr) (fr':=fr')];intro y hy;refine h y ?_;unfold qh;rw[hc];exact aDl _ hy
theorem Ot {o:Oper}(h:oU P o=false):kH P o=none:=by
 unfold oU at h;cases hl:kH P o with
 |none=>rfl
 |some x=>rw[hl]at h;cases h
theorem zf {o:Oper}(h:oU P o=true):∃x,kH P o=some x:=by
 unfold oU at h;cases hl:kH P o with
 |none=>rw[hl]at h;cases h
 |some x=>exact⟨x,rfl⟩
theorem Sh {o:Oper}(h:oU P o=true):nv P o=none:=by
 obtain⟨x,hx⟩:=zf h;cases hn:nv P o with
 |none=>rfl
 |some tz=>have:=wi (P:=P) (o:=o) (by rw[hn];simp);rw[hx]at this;cases this
theorem C0 {o:Oper}(h:oU P o=true):mg P o=false:=by
 obtain⟨x,hx⟩:=zf h;unfold mg;rw[Sh h,hx]
theorem qY {ab:Option Nat}{o:Oper}{fr:Fr}{st st':St}{v:CV}(hw:mg P o=false)(hb:oU P o=false)(h:gK P call ops ab o fr st= .ok v st'):st'=st:=by
 have hl:=Ot hb;unfold gK at h;unfold mg at hw;rw[hl]at hw h
 split at h
 ·rename_i hn;rw[hn]at hw;dsimp only at hw;unfold lV at h
  split at h
  ·split at h
   ·rename_i op Df;rw[Df]at hw;exact(ri (by simpa using hw)).eq _ _ h
   ·cases h
  ·cases h;rfl
  ·cases h
 ·split at h
  ·unfold iO at h
   split at h
   ·split at h
    ·cases h;rfl
    ·cases h
   ·cases h
  ·cases h;rfl
  ·cases h
 ·cases h
 ·cases h
def oP (listed:Array Bool)(i:Nat):Prop:=listed.getD i false=true
def TM (ops:Array Oper)(listed:Array Bool)(i:Nat):Prop:=∀o,ops[i]?=some o->∀e∈o.after,Region.binds .any e=true->oP listed e.on
theorem zR {listed:Array Bool}(oF:∀i,oP listed i->TM ops listed i):∀(f i j:Nat),fG ops f i j=true->TM ops listed i->oP listed j:=by
 intro f
 induction f with
 |zero=>intro i j h;cases h
 |succ f ih=>
  intro i j h hd
  have e:fG ops (f+1) i j=(match ops[i]? with
   |none=>false
   |some o=>DJ o.after.toList fun e=>Bool.and (Region.binds .any e) (nS e.on fun k=>Bool.or (Nat.beq k j) (fG ops f k j))):=rfl
  rw[e]at h
  split at h
  ·cases h
  ·rename_i o ho;rw[zQ]at h;obtain⟨x,hx,h⟩:=h;simp only[dE,aBp,aBS,aBB]at h;have hl:=hd o ho x (by simpa using hx) h.1;rcases h.2 with h2|h2
   ·rw[<-h2];exact hl
   ·exact ih _ _ h2 (oF _ hl)
end
structure TR where
 i:Nat
 ab:Option Nat
 o:Oper
 w:Bool
 c:Nat
 fr:Fr
 v:CV
 s:St
 s1:St
def EA (n:Nat)(dst:Option Tmp)(v:CV)(fr:Fr):Option Fr:=
 match dst with
 |none=>some fr
 |some d=>bC (Nat.ble (Nat.succ d) n) (nS (fr.put (d) (some v)) some) none
theorem Bh {n:Nat}{dst:Option Tmp}{v:CV}{fr fr':Fr}(h:EA n dst v fr=some fr'):(dst=none/\fr'=fr)\/∃d,dst=some d/\d<n/\fr'=fr.put (d) (some v):=by
 unfold EA at h
 split at h
 ·cases h;exact .inl ⟨rfl,rfl⟩
 ·rename_i d;simp only[aM,aBy,aDx,dE]at h
  split at h
  ·rename_i hd;cases h;exact .inr ⟨d,rfl,hd,rfl⟩
  ·cases h
abbrev YK:=List TR×List St×Fr×St
def qB (P:Program)(call:fT)(n:Nat)(ops:Array Oper)(l:List (Oper×Option Nat)):Nat->Nat->Fr->St->Option YK:=
 List.rec (motive:=fun _=>Nat->Nat->Fr->St->Option YK) (fun _ _ fr st=>some ([],[],fr,st)) (fun o _ ih i c fr st=>
  OR.rec (fun v st'=>nS v fun v=>nS st' fun st'=>
   Option.rec none (fun fr'=>bC (mg P o.1)
    (Option.rec none (fun r=>some (⟨i,o.2,o.1,true,c,fr,v,st,st'⟩::r.1,st::r.2.1,r.2.2)) (ih (Nat.succ i) (Nat.succ c) fr' st'))
    (Option.rec none (fun r=>some (⟨i,o.2,o.1,false,c,fr,v,st,st'⟩::r.1,r.2.1,r.2.2)) (ih (Nat.succ i) c fr' st'))) (EA n o.1.dst v fr)) none (gK P call ops o.2 o.1 fr st)) l
def jD (eI:List TR)(kY:St)(k:Nat):St:=match eI[k]? with|some t=>t.s|none=>kY
def YX (l:List Oper)(eI:List TR)(L:Nat->Prop)(zz f:Fr):Prop:=
 (∀j o d t,L j->l[j]?=some o->o.dst=some d->eI[j]?=some t->fB f (d)=t.v)/\
 (∀p,(∀j o d,L j->l[j]?=some o->o.dst=some d->d≠p)->fB f p=fB zz p)
def J9 (l:List Oper):Prop:=∀(j k:Nat) (a b:Oper) (d:Tmp),j<k->l[j]?=some a->l[k]?=some b->a.dst=some d->b.dst≠some d
def iV (P:Program)(l:List Oper)(k:Nat):Nat:=(l.take k).countP (mg P)
section
variable {P:Program} {call:fT} {n:Nat} {ops:Array Oper}
theorem nK {l:List Oper}{k:Nat}{o:Oper}(h:l[k]?=some o):iV P l (k+1)=iV P l k+(if mg P o then 1 else 0):=by
 unfold iV;rw[List.take_add_one,h];simp[List.countP_append,List.countP_cons]
theorem vK {l:List Oper}{k:Nat}{o:Oper}:iV P (o::l) (k+1)=(if mg P o then 1 else 0)+iV P l k:=by
 unfold iV;rw[aCP,List.countP_cons];omega
theorem mc {l:List Oper}{j k:Nat}(h:j<=k):iV P l j<=iV P l k:=by
 unfold iV;have:l.take j=(l.take k).take j:=by rw[aCh,aBH h]
 rw[this];exact(List.take_sublist _ _).countP_le
theorem vJ {l:List Oper}:∀(k:Nat),k<=l.length->∀c,c<iV P l k->∃j o,j<k/\l[j]?=some o/\mg P o=true/\iV P l j=c:=by
 intro k
 induction k with
 |zero=>intro _ c h;simp[iV]at h
 |succ k ih=>
  intro hk c h;have zp:l[k]?=some l[k]:=by simp
  rw[nK zp]at h
  by_cases hc:c<iV P l k
  ·obtain⟨j,o,h1,h2,h3,h4⟩:=ih (by omega) c hc;exact⟨j,o,by omega,h2,h3,h4⟩
  ·have hw:mg P l[k]=true:=by
    cases hh:mg P l[k]with
    |true=>rfl
    |false=>rw[hh]at h;simp at h;omega
   rw[hw]at h;simp only[aBr]at h;exact⟨k,_,by omega,zp,hw,by omega⟩
structure Gv (L:List (Oper×Option Nat))(P:Program)(call:fT)(n:Nat)(ops:Array Oper)(i c:Nat)(fr:Fr)(st:St)(eI:List TR)(ch:List St)(FU:Fr)(kY:St):Prop where
 len:eI.length=L.length
 at':∀k o ab,L[k]?=some (o,ab)->∃t,eI[k]?=some t/\t.i=i+k/\t.ab=ab/\t.o=o/\t.w=mg P o/\t.c=c+iV P (L.map (·.1)) k/\(∀d,o.dst=some d->d<n)/\YX (L.map (·.1)) eI (·<k) fr t.fr/\
  gK P call ops ab o t.fr t.s= .ok t.v t.s1/\(mg P o=true->ch[iV P (L.map (·.1)) k]?=some t.s)
 fst:jD eI kY 0=st
 pv:∀k t,eI[k]?=some t->t.s1=jD eI kY (k+1)
 fin:YX (L.map (·.1)) eI (·<L.length) fr FU
 chl:ch.length=iV P (L.map (·.1)) L.length
theorem YX.cons {l:List Oper}{eI:List TR}{k:Nat}{o:Oper}{t0:TR}{zz lE f:Fr}(ZF:J9 (o::l))(h:YX l eI (·<k) lE f)(zn:(o.dst=none/\lE=zz)\/∃d,o.dst=some d/\d<n/\lE=zz.put (d) (some t0.v)):
 YX (o::l) (t0::eI) (·<k+1) zz f:=by
 constructor
 ·intro j oj d t hj h1 h2 h3;cases j with
  |zero=>
   simp at h1 h3;subst h1;subst h3;rcases zn with⟨e,_⟩|⟨d',e,_,rfl⟩
   ·rw[h2]at e;cases e
   ·rw[h2]at e;cases e;rw[h.2 (d),lQ];intro j oj d' hj h4 h5 e;subst e;exact ZF 0 (j+1) o oj d' (by omega) (by simp) (by simpa using h4) h2 h5
  |succ j=>exact h.1 j oj d t (by have:j+1<k+1:=hj;show j<k;omega) (by simpa using h1) h2 (by simpa using h3)
 ·intro p hp;rw[h.2 p fun j oj d hj h1 h2=>hp (j+1) oj d (by have:j<k:=hj;show j+1<k+1;omega) (by simpa using h1) h2];rcases zn with⟨_,rfl⟩|⟨d,e,_,rfl⟩
  ·rfl
  ·rw[l7];exact fun e'=>hp 0 o d (by show 0<k+1;omega) (by simp) e e'.symm
theorem D8:∀{L:List (Oper×Option Nat)} {i c:Nat} {fr:Fr} {st:St} {eI:List TR} {ch:List St} {FU:Fr} {kY:St},qB P call n ops L i c fr st=some (eI,ch,FU,kY)->J9 (L.map (·.1))->Gv L P call n ops i c fr st eI ch FU kY:=by
 intro L
 induction L with
 |nil=>
  intro i c fr st eI ch FU kY h _;cases h;exact⟨rfl,fun k o ab h=>by simp at h,rfl,fun k t h=>by simp at h,⟨fun j o d t _ h=>by simp at h,fun p _=>rfl⟩,rfl⟩
 |cons oa L ih=>
  obtain⟨o,ab⟩:=oa;intro i c fr st eI ch FU kY h ZF;rw[aBA]at ZF
  have e:qB P call n ops ((o,ab)::L) i c fr st=OR.rec (motive:=fun _=>Option YK) (fun v st'=>nS v fun v=>nS st' fun st'=>
   Option.rec none (fun fr'=>bC (mg P o)
    (Option.rec none (fun r=>some (⟨i,ab,o,true,c,fr,v,st,st'⟩::r.1,st::r.2.1,r.2.2)) (qB P call n ops L (i+1) (c+1) fr' st'))
    (Option.rec none (fun r=>some (⟨i,ab,o,false,c,fr,v,st,st'⟩::r.1,r.2.1,r.2.2)) (qB P call n ops L (i+1) c fr' st'))) (EA n o.dst v fr)) none (gK P call ops ab o fr st):=rfl
  rw[e]at h;have adB:J9 (L.map (·.1)):=fun j k a b d hjk h1 h2=>ZF (j+1) (k+1) a b d (by omega) (by simpa using h1) (by simpa using h2);cases hs:gK P call ops ab o fr st with
  |bad=>rw[hs]at h;cases h
  |ok v gh=>
   rw[hs]at h;simp only[dE,dE]at h;cases hp:EA n o.dst v fr with
   |none=>rw[hp]at h;cases h
   |some lE=>
    rw[hp]at h;simp only[aM]at h;have zn:=Bh hp
    have QR:∀d,o.dst=some d->d<n:=fun d hd=>by
     rcases zn with⟨e,_⟩|⟨d',e,h',_⟩
     ·rw[hd]at e;cases e
     ·rw[hd]at e;cases e;exact h'
    have key:∀(w:Bool) (M0:List TR) (ZT chx:List St) (Px:Fr) (Na:St),mg P o=w->Gv L P call n ops (i+1) (c+if w then 1 else 0) lE gh M0 ZT Px Na->chx=(if w then st::ZT else ZT)->
     Gv ((o,ab)::L) P call n ops i c fr st (⟨i,ab,o,w,c,fr,v,st,gh⟩::M0) chx Px Na:=by
     intro w M0 ZT chx Px Na hw IH XV;refine⟨by simp[IH.len],fun k o' ab' hk=> ?_,rfl,fun k t hk=> ?_,by rw[aBA];exact IH.fin.cons ZF zn, ?_⟩
     ·rw[aBA];cases k with
      |zero=>
       simp at hk;obtain⟨rfl,rfl⟩:=hk;refine⟨_,rfl,rfl,rfl,rfl,hw.symm,rfl,QR,⟨fun j _ _ _ hj=>absurd hj (Nat.not_lt_zero _),fun p _=>rfl⟩,hs,fun hh=> ?_⟩;rw[hh]at hw;subst hw;rw[XV];rfl
      |succ k=>
       simp only[aAS]at hk;obtain⟨t,h1,h2,h2',h3,h4,h5,h6,h7,h9,FO⟩:=IH.at' k o' ab' hk;refine⟨t,by simpa using h1,by omega,h2',h3,h4, ?_,h6,h7.cons ZF zn,h9,fun WH=> ?_⟩
       ·rw[h5,vK,hw];omega
       ·rw[vK,hw,XV];have:=FO WH;cases w
        ·simpa using this
        ·simp only[aBr];rw[aDF 1];simpa using this
     ·cases k with
      |zero=>
       simp at hk;subst hk;have:=IH.fst;show gh=jD _ _ _;rw[<-this];unfold jD;simp
      |succ k=>
       have:=IH.pv k t (by simpa using hk);rw[this];unfold jD;simp
     ·rw[aBA,aBt,vK,hw,XV];have:=IH.chl;cases w
      ·simp[this]
      ·simp[this];omega
    cases hw:mg P o with
    |true=>
     rw[hw]at h;simp only[aBr]at h;cases ht:qB P call n ops L (i+1) (c+1) lE gh with
     |none=>rw[ht]at h;cases h
     |some r=>
      obtain⟨M0,ZT,Px,Na⟩:=r;rw[ht]at h;cases h;exact key true _ _ _ _ _ hw (ih ht adB) rfl
    |false=>
     rw[hw]at h;simp only[aAR,aBf]at h;cases ht:qB P call n ops L (i+1) c lE gh with
     |none=>rw[ht]at h;cases h
     |some r=>
      obtain⟨M0,ZT,Px,Na⟩:=r;rw[ht]at h;cases h;exact key false _ _ _ _ _ hw (ih ht adB) rfl
end
def BO (o:Oper)(p:Nat):Bool:=match o.dst with|some d=>aeI (d) p|none=>false
def Jc (ops:Array Oper)(i:Nat)(x:eP):Bool:=
 match x with| .const _=>true| .tmp p=>AW (KW ops.toList 0) fun jo=>bC (BO jo.2 p) (bC (Nat.ble (Nat.succ jo.1) i) (fG ops ops.size i jo.1) (Bool.and (Nat.ble (Nat.succ i) jo.1) (fG ops ops.size jo.1 i))) true
def HC (P:Program)(ops:Array Oper)(i:Nat)(o:Oper)(j:Nat)(oj:Oper):Bool:=
 bC (Nat.ble (Nat.succ j) i) (Bool.and (match oj.dst with|some d=>Bool.not (BO o (d))|none=>true) (bC (Bool.and (mg P o) (mg P oj)) (fG ops ops.size i j) true)) true
def Nc (P:Program)(ops:Array Oper):Bool:=
 AW (KW ops.toList 0) fun io=>
  Bool.and (AW io.2.after.toList fun e=>bC (Region.binds .any e) (Nat.ble (Nat.succ e.on) io.1) true)
  (Bool.and (AW (qh P ops io.2) fun x=>Jc ops io.1 x) (AW (KW ops.toList 0) fun jo=>HC P ops io.1 io.2 jo.1 jo.2))
section
variable {P:Program} {call:fT} {n:Nat} {ops:Array Oper}
structure BY (P:Program)(ops:Array Oper):Prop where
 s1:∀i o,ops.toList[i]?=some o->∀e∈o.after,Region.binds .any e=true->e.on<i
 s2:∀i o,ops.toList[i]?=some o->∀p,eP.tmp p∈qh P ops o->∀j oj d,ops.toList[j]?=some oj->oj.dst=some d->d=p->(j<i/\fG ops ops.size i j=true)\/(i<j/\fG ops ops.size j i=true)
 s3:J9 ops.toList
 s4:∀i j o oj,ops.toList[i]?=some o->ops.toList[j]?=some oj->j<i->mg P o=true->mg P oj=true->fG ops ops.size i j=true
theorem Hc (h:Nc P ops=true):BY P ops:=by
 unfold Nc at h;rw[nM]at h;have key:∀i o,ops.toList[i]?=some o->_:=fun i o ho=>h (i,o) (by have:=vp (i:=0) ho;simpa using this);refine⟨fun i o ho e he hb=> ?_,fun i o ho p hp j oj d hj hd hpe=> ?_,fun j i oj o d zq hj ho hd DR=> ?_,fun i j o oj ho hj zq hw hwj=> ?_⟩
 ·have:=key i o ho;simp only[aBp,nM]at this;have:=this.1 e (by simpa using he);rw[hb]at this
  simpa[aDx]using this
 ·have:=key i o ho;simp only[aBp,nM]at this;have:=this.2.1 _ hp;unfold Jc at this;dsimp only at this;rw[nM]at this;have:=this (j,oj) (by have:=vp (i:=0) hj;simpa using this);have ZC:BO oj p=true:=by unfold BO;rw[hd];exact Gl.2 hpe
  simp only[ZC,aM,aBr,aBy,aDx]at this
  split at this
  ·rename_i hlt;exact .inl ⟨hlt,this⟩
  ·simp only[aBp,aBy,aDx]at this;exact .inr this
 ·have:=key i o ho;simp only[aBp,nM]at this;have:=this.2.2 (j,oj) (by have:=vp (i:=0) hj;simpa using this);unfold HC at this;simp only[aM,aBy,aDx,aBb zq,aBp]at this;have:=this.1;rw[hd]at this;have ZC:BO o (d)=true:=by unfold BO;rw[DR];exact Gl.2 rfl
  simp[ZC]at this
 ·have:=key i o ho;simp only[aBp,nM]at this;have:=this.2.2 (j,oj) (by have:=vp (i:=0) hj;simpa using this);unfold HC at this;simp only[aM,aBy,aDx,aBb zq,aBp]at this;have:=this.2
  simpa[hw,hwj]using this
def YY (P:Program)(call:fT)(ops:Array Oper)(chain:List St)(eI:List TR):Prop:=∀(i:Nat) (t:TR),eI[i]?=some t->mg P t.o=false->oU P t.o=false->∀(c:Nat) (s:St),chain[c]?=some s->
    (∃u∈eI,u.w=true/\u.c<c/\fG ops ops.size u.i t.i=true)\/(∃u∈eI,u.w=true/\c<=u.c/\fG ops ops.size t.i u.i=true)\/∃s1,gK P call ops t.ab t.o t.fr s= .ok t.v s1
def Qp (P:Program)(ops:Array Oper)(as:List (Option Nat))(chain:List St)(eI:List TR):Prop:=∀(j:Nat) (tj:TR) (b:Nat),eI[j]?=some tj->oU P tj.o=true->as[j]?=some (some b)->∀(d:Nat) (td:TR),eI[d]?=some td->mg P td.o=true->
    fG ops ops.size d j=false->fG ops ops.size j d=false->(d<j->∀s,chain[td.c]?=some s->s.mem.get b=none)/\(j<d->∀s s',chain[td.c]?=some s->chain[td.c+1]?=some s'->s'.mem.get b=s.mem.get b)
theorem IB (hst:BY P ops):∀(f i j:Nat),fG ops f i j=true->j<i:=by
 intro f
 induction f with
 |zero=>intro i j h;cases h
 |succ f ih=>
  intro i j h
  have e:fG ops (f+1) i j=(match ops[i]? with
   |none=>false
   |some o=>DJ o.after.toList fun e=>Bool.and (Region.binds .any e) (nS e.on fun k=>Bool.or (Nat.beq k j) (fG ops f k j))):=rfl
  rw[e]at h
  split at h
  ·cases h
  ·rename_i o ho;rw[zQ]at h;obtain⟨x,hx,h⟩:=h;simp only[dE,aBp,aBS,aBB]at h;have:=hst.s1 i o (by simpa using ho) x (by simpa using hx) h.1;rcases h.2 with h2|h2
   ·omega
   ·have:=ih _ _ h2;omega
open Classical in
theorem xZ (s:St)(f:Nat->Option qS):∀names:List Nat,∃M:St,M.next=s.next/\∀q,M.mem.get q=if q∈names then f q else s.mem.get q:=by
 intro names
 induction names with
 |nil=>exact⟨s,rfl,fun q=>by simp⟩
 |cons b names ih=>
  obtain⟨M,h1,h2⟩:=ih;refine⟨⟨M.mem.put b (f b),M.next⟩,h1,fun q=> ?_⟩;show(M.mem.put b (f b)).get q=_;rw[PT.eO,h2]
  by_cases e:q=b
  ·subst e;simp
  ·simp[e]
def unl (N:Nat)(listed:Array Bool):Nat:=(List.range N).countP fun i=> !listed.getD i true
theorem IJ {N:Nat}{listed:Array Bool}{i:Nat}(hi:i<N)(hs:listed.size=N)(hu:listed.getD i true=false):unl N (listed.setIfInBounds i true)<unl N listed:=by
 unfold unl
 have key:∀(l:List Nat),i∈l->l.Nodup->l.countP (fun k=> !(listed.setIfInBounds i true).getD k true)<l.countP (fun k=> !listed.getD k true):=by
  have same:∀k,k≠i->(listed.setIfInBounds i true).getD k true=listed.getD k true:=fun k hk=>by simp[aBY (aBU hk)]
  have aoC:(listed.setIfInBounds i true).getD i true=true:=by simp[hs,hi]
  intro l
  induction l with
  |nil=>intro h;simp at h
  |cons k l ih=>
   intro h hn;rw[aBi]at hn;rw[List.countP_cons,List.countP_cons]
   by_cases hk:k=i
   ·subst hk
    have:l.countP (fun k'=> !(listed.setIfInBounds k true).getD k' true)=l.countP (fun k'=> !listed.getD k' true):=by
     apply List.countP_congr;intro x hx;rw[same x (fun e=>hn.1 (e▸hx))]
    rw[this,aoC,hu];simp
   ·have hl:i∈l:=by simpa[aBU hk]using h
    have:=ih hl hn.2;rw[same k hk];omega
 exact key _ (by simpa using hi) List.nodup_range
theorem kT {listed:Array Bool}{i j:Nat}(hi:i<listed.size):oP (listed.setIfInBounds i true) j↔j=i\/oP listed j:=by
 unfold oP
 by_cases h:j=i
 ·subst h;simp[hi]
 ·simp[aBY (aBU h),h]
theorem sv {listed:Array Bool}{i:Nat}(hs:listed.size=ops.size):i∈Region.ready .any ops listed↔i<ops.size/\¬oP listed i/\TM ops listed i:=by
 unfold Region.ready;rw[aCS,List.mem_range];constructor
 ·rintro⟨h1,h2⟩;simp only[aBp,aDA]at h2;refine⟨h1, ?_, ?_⟩
  ·unfold oP;have:listed.getD i false=listed.getD i true:=by simp[hs,h1]
   rw[this,h2.1];simp
  ·intro o ho e he hb;have:=h2.2;rw[ho]at this;simp only[aCf,aCl,Array.all_eq_true_iff_forall_mem]at this;have:=this e he;rw[hb]at this
   simpa[oP]using this
 ·rintro⟨h1,h2,h3⟩;refine⟨h1, ?_⟩;simp only[aBp,aDA];constructor
  ·unfold oP at h2;have:listed.getD i false=listed.getD i true:=by simp[hs,h1]
   rw[this]at h2;simpa using h2
  ·have ho:ops[i]?=some ops[i]:=by simp
   rw[ho];simp only[aCf,aCl,Array.all_eq_true_iff_forall_mem];intro e he;cases hb:Region.binds .any e with
   |false=>rfl
   |true=>have:=h3 _ ho e he hb;simpa[oP]using this
theorem zT (hst:BY P ops){listed:Array Bool}(hs:listed.size=ops.size)(h:Region.ready .any ops listed=[]):∀i,i<ops.size->oP listed i:=by
 intro i
 induction i using Nat.strongRecOn with
 |_ i ih=>
  intro hi
  by_cases hl:oP listed i
  ·exact hl
  ·have:i∈Region.ready .any ops listed:=(sv hs).2 ⟨hi,hl,fun o ho e he hb=>by
    have:=hst.s1 i o (by simpa using ho) e he hb;exact ih _ this (by omega)⟩
   rw[h]at this;simp at this
structure LW (P:Program)(ops:Array Oper)(as:List (Option Nat))(eI:List TR)(listed:Array Bool)(c:Nat)(ρ:Ren)(s M:St):Prop where
 next:M.next=s.next
 late:∀(j:Nat) (t:TR) (b:Nat) (x:Nat×Nat),oP listed j->eI[j]?=some t->oU P t.o=true->as[j]?=some (some b)->ρ b=some x->t.s.mem.get b=none/\(c<iV P ops.toList j->M.mem.get b=t.s1.mem.get b/\s.mem.get b=none)
 RW:∀(q:Nat) (x:Nat×Nat),ρ q=some x->(∀(j:Nat) (t:TR),as[j]?=some (some q)->eI[j]?=some t->oU P t.o=true->¬c<iV P ops.toList j)->M.mem.get q=s.mem.get q
structure Inv (P:Program)(ops:Array Oper)(as:List (Option Nat))(eI:List TR)(ch:List St)(kY:St)(n:Nat)(ρ0:Ren)(yp mT:St)(zz:Fr)(w0:World)(listed:Array Bool)(a:Act)(w:World):Prop where
 size:listed.size=ops.size
 closed:∀i,oP listed i->TM ops listed i
 inner:∀i,oP listed i->i<ops.size
 data:∃fr c ρ s M,YX ops.toList eI (oP listed) zz fr/\(∀j o,ops.toList[j]?=some o->mg P o=true->(oP listed j↔iV P ops.toList j<c))/\c<=ch.length/\(ch++[kY])[c]?=some s/\FR ρ fr a.tmps/\bf ρ0 yp w0 ρ M w/\mT.next<=s.next/\(∀j b,¬oP listed j->as[j]?=some (some b)->ρ b=none)/\LW P ops as eI listed c ρ s M
 sz:n<=a.tmps.size
 defers:a.defers=[]
variable {as:List (Option Nat)} {eI:List TR} {ch:List St} {ρ0:Ren} {yp mT kY:St} {zz FU:Fr} {w0:World}
theorem Vv {α β:Type}{l:List α}{as:List β}(h:as.length=l.length){j:Nat}{o:α}(hj:l[j]?=some o):∃ab,(l.zip as)[j]?=some (o,ab)/\as[j]?=some ab:=by
 have hlt:=(aBg.1 hj).1;refine⟨as[j]'(by omega), ?_,by simp[h,hlt]⟩;rw[List.getElem?_zip_eq_some];exact⟨hj,by simp[h,hlt]⟩
section
variable (dq:tM P ops.toList yp as mT) (jH:Gv (ops.toList.zip as) P call n ops 0 0 zz mT eI ch FU kY)
include dq jH
theorem mD {j:Nat}{o:Oper}(ho:ops.toList[j]?=some o):∃t ab,eI[j]?=some t/\as[j]?=some ab/\t.i=j/\t.ab=ab/\t.o=o/\t.w=mg P o/\t.c=iV P ops.toList j/\(∀d,o.dst=some d->d<n)/\YX ops.toList eI (·<j) zz t.fr/\
 gK P call ops ab o t.fr t.s= .ok t.v t.s1/\(mg P o=true->(ch++[kY])[iV P ops.toList j]?=some t.s):=by
 obtain⟨ab,hz,vE⟩:=Vv dq.len ho;have Dl:(ops.toList.zip as).map (·.1)=ops.toList:=List.map_fst_zip (by rw[dq.len];exact aAU _);obtain⟨t,t1,t2,t3,t4,t5,t6,t7,t8,t9,t10⟩:=jH.at' j o ab hz;rw[Dl]at t6 t8 t10;refine⟨t,ab,t1,vE,by omega,t3,t4,t5,by omega,t7,t8,t9,fun h=> ?_⟩;have:=t10 h;rw[aCv (aBg.1 this).1];exact this
theorem wM {j:Nat}{t:TR}(ht:eI[j]?=some t):ops.toList[j]?=some t.o:=by
 have hzl:(ops.toList.zip as).length=ops.toList.length:=by rw[List.length_zip,dq.len];simp
 have hj:j<ops.toList.length:=by rw[<-hzl,<-jH.len];exact(aBg.1 ht).1
 obtain⟨t',ab,h1,_,_,_,h2,_⟩:=mD dq jH (aAV hj);rw[ht]at h1;cases h1;rw[h2,aAV hj]
theorem Cg:eI.length=ops.toList.length:=by rw[jH.len,List.length_zip,dq.len];simp
theorem zM:ch.length=iV P ops.toList ops.toList.length:=by
 have Dl:(ops.toList.zip as).map (·.1)=ops.toList:=List.map_fst_zip (by rw[dq.len];exact aAU _);have hzl:(ops.toList.zip as).length=ops.toList.length:=by rw[List.length_zip,dq.len];simp
 have:=jH.chl;rw[Dl,hzl]at this;exact this
theorem gap {k:Nat}:∀{k':Nat},k<=k'->k'<=ops.toList.length->(∀j o,k<=j->j<k'->ops.toList[j]?=some o->mg P o=false)->
 (jD eI kY k').next=(jD eI kY k).next/\∀q,(∀j t,k<=j->j<k'->eI[j]?=some t->oU P t.o=true->as[j]?≠some (some q))->(jD eI kY k').mem.get q=(jD eI kY k).mem.get q:=by
 intro k'
 induction k' with
 |zero=>intro h _ _;have:k=0:=by omega
        subst this;exact⟨rfl,fun _ _=>rfl⟩
 |succ k' ih=>
  intro h hl hw
  by_cases hk:k=k'+1
  ·subst hk;exact⟨rfl,fun _ _=>rfl⟩
  obtain⟨i1,i2⟩:=ih (by omega) (by omega) (fun j o h1 h2=>hw j o h1 (by omega));have ho:ops.toList[k']?=some ops.toList[k']:=aAV (by omega);generalize ops.toList[k']=o at ho;obtain⟨t,ab,h1,h2,h3,h4,h5,h6,h7,h8,h9,FO,h11⟩:=mD dq jH ho;have AP:=jH.pv k' t h1;have GH:jD eI kY k'=t.s:=by unfold jD;rw[h1]
  rw[<-AP,<-i1,GH];have hnw:=hw k' o (by omega) (by omega) ho;cases hb:oU P o with
  |false=>
   have:=qY hnw hb FO;rw[this];exact⟨rfl,fun q hq=>by rw[<-i2 q fun j t g1 g2=>hq j t g1 (by omega),GH]⟩
  |true=>
   obtain⟨x,hx⟩:=zf hb;obtain⟨b,U1⟩:=dq.news k' o ho (.inr hb);rw[h2]at U1;cases U1;rcases uL hx FO with⟨_,_,e⟩|⟨_,s,_,_,_,e⟩
   ·rw[e];exact⟨rfl,fun q hq=>by rw[<-i2 q fun j t g1 g2=>hq j t g1 (by omega),GH]⟩
   ·rw[e];refine⟨rfl,fun q hq=> ?_⟩;have gT:q≠b:=fun e=>hq k' t (by omega) (by omega) h1 (by rw[h5];exact hb) (by rw[h2,e]);show(t.s.mem.put b _).get q=_;rw[PT.cZ _ _ _ _ gT,<-i2 q fun j t g1 g2=>hq j t g1 (by omega),GH]
theorem vf:∀(m k:Nat),k+m=ops.toList.length->∃k2,k<=k2/\k2<=ops.toList.length/\(∀j o,k<=j->j<k2->ops.toList[j]?=some o->mg P o=false)/\iV P ops.toList k2=iV P ops.toList k/\(ch++[kY])[iV P ops.toList k]?=some (jD eI kY k2)/\
 (k2=ops.toList.length\/∃o,ops.toList[k2]?=some o/\mg P o=true):=by
 intro m
 induction m with
 |zero=>
  intro k hk;have:k=ops.toList.length:=by omega
  refine⟨k,aAU _,by omega,fun j o h1 h2=>by omega,rfl, ?_, .inl this⟩;rw[this,<-zM dq jH];have:jD eI kY ops.toList.length=kY:=by unfold jD;rw[aBL (by rw[Cg dq jH];exact aAU _)]
  rw[this];simp
 |succ m ih=>
  intro k hk;have ho:ops.toList[k]?=some ops.toList[k]:=aAV (by omega);generalize ops.toList[k]=o at ho;cases hw:mg P o with
  |true=>
   obtain⟨t,ab,h1,h2,h3,h4,h5,h6,h7,h8,h9,FO,h11⟩:=mD dq jH ho;refine⟨k,aAU _,by omega,fun j o h1 h2=>by omega,rfl, ?_, .inr ⟨o,ho,hw⟩⟩;rw[h11 hw];unfold jD;rw[h1]
  |false=>
   have hc:=nK (P:=P) ho;rw[hw]at hc;simp only[aAR,aBf,aBJ]at hc;obtain⟨k2,g1,g2,g3,g4,g5,g6⟩:=ih (k+1) (by omega);refine⟨k2,by omega,g2,fun j o' j1 j2 hj=> ?_,by rw[g4,hc],by rw[<-hc];exact g5,g6⟩
   by_cases e:j=k
   ·subst e;rw[ho]at hj;cases hj;exact hw
   ·exact g3 j o' (by omega) j2 hj
theorem yZ {j:Nat}{t:TR}{b:Nat}(ht:eI[j]?=some t)(hb:oU P t.o=true)(ha:as[j]?=some (some b)):∃s,(ch++[kY])[iV P ops.toList j]?=some s/\s.mem.get b=t.s1.mem.get b:=by
 have ho:=wM dq jH ht;have hjl:=(aBg.1 ho).1;have hc:=nK (P:=P) ho;rw[C0 hb]at hc;simp only[aAR,aBf,aBJ]at hc;obtain⟨k2,g1,g2,g3,g4,g5,g6⟩:=vf dq jH (ops.toList.length-(j+1)) (j+1) (by omega);rw[hc]at g5;refine⟨_,g5, ?_⟩;rw[(gap dq jH g1 g2 g3).2 b fun j' t' h1 h2 h3 h4 h5=>by have:=dq.uniq j j' b ha h5;omega,<-jH.pv j t ht]
end
theorem Inv.done (dq:tM P ops.toList yp as mT)(jH:Gv (ops.toList.zip as) P call n ops 0 0 zz mT eI ch FU kY){listed:Array Bool}{a:Act}{w:World}(h:Inv P ops as eI ch kY n ρ0 yp mT zz w0 listed a w)(fP:∀i,i<ops.size->oP listed i):
 pH ρ0 yp w0 n (.norm FU kY) .normal a w:=by
 obtain⟨fr,c,ρ,s,M,h1,h2,h3,h4,h5,h6,h7,h8,h9⟩:=h.data;have Dl:(ops.toList.zip as).map (·.1)=ops.toList:=List.map_fst_zip (by rw[dq.len];exact aAU _);have hzl:(ops.toList.zip as).length=ops.toList.length:=by rw[List.length_zip,dq.len];simp
 have hc:c=ch.length:=by
  by_cases hlt:c<ch.length
  ·rw[zM dq jH]at hlt;obtain⟨j,o,g1,g2,g3,g4⟩:=vJ (P:=P) (l:=ops.toList) ops.toList.length (aAU _) c hlt;have:=(h2 j o g2 g3).1 (fP j (by simpa using g1));omega
  ·omega
 subst hc
 have hs:s=kY:=by
  rw[aCi (aAU _)]at h4;simp at h4;exact h4.symm
 subst hs
 have hA:bf ρ0 yp w0 ρ s w:=h6.re (fun q x hx=>(h9.RW q x hx fun j t _ ht hb hlt=>by
  have ho:=wM dq jH ht;have hjl:=(aBg.1 ho).1;have:=mc (P:=P) (l:=ops.toList) (Nat.le_of_lt hjl);have:=zM dq jH;omega).symm) h9.next.symm
 refine⟨rfl,ρ,⟨fun t=> ?_,h.sz,h.defers,hA⟩⟩
 have:fB FU (t)=fB fr (t):=by
  have Ij:=jH.fin;rw[Dl]at Ij
  by_cases hd:∃(j:Nat) (o:Oper) (d:Tmp),ops.toList[j]?=some o/\o.dst=some d/\d=t
  ·obtain⟨j,o,d,g1,g2,rfl⟩:=hd;have hj:j<ops.toList.length:=(aBg.1 g1).1;obtain⟨t',_,g3,_⟩:=mD dq jH g1;rw[Ij.1 j o d t' (by show j<_;rw[hzl];exact hj) g1 g2 g3,h1.1 j o d t' (fP j (by simpa using hj)) g1 g2 g3]
  ·rw[Ij.2,h1.2]
   ·exact fun j o d _ g1 g2 e=>hd ⟨j,o,d,g1,g2,e⟩
   ·exact fun j o d _ g1 g2 e=>hd ⟨j,o,d,g1,g2,e⟩
 rw[this];exact h5 t
theorem LW.sub {listed:Array Bool}{c:Nat}{ρ:Ren}{s M:St}(h:LW P ops as eI listed c ρ s M)(hp:∀j b,¬oP listed j->as[j]?=some (some b)->ρ b=none):∀q x,ρ q=some x->s.mem.get q=M.mem.get q\/s.mem.get q=none:=by
 intro q x hx
 by_cases hh:∃(j:Nat) (t:TR),as[j]?=some (some q)/\eI[j]?=some t/\oU P t.o=true/\c<iV P ops.toList j
 ·obtain⟨j,t,g1,g2,g3,g4⟩:=hh
  by_cases hl:oP listed j
  ·exact .inr ((h.late j t q x hl g2 g3 g1 hx).2 g4).2
  ·rw[hp j q hl g1]at hx;cases hx
 ·exact .inl (h.RW q x hx fun j t g1 g2 g3 g4=>hh ⟨j,t,g1,g2,g3,g4⟩).symm
def my (P:Program)(ops:Array Oper)(as:List (Option Nat))(eI:List TR)(listed:Array Bool)(c:Nat)(ρ:Ren)(q:Nat):Prop:=∃(j:Nat) (t:TR) (x:Nat×Nat),oP listed j/\eI[j]?=some t/\oU P t.o=true/\as[j]?=some (some q)/\c<iV P ops.toList j/\ρ q=some x
open Classical in
theorem LW.step {listed:Array Bool}{c:Nat}{ρ ρ':Ren}{s s1 M:St}{w w':World}(h:LW P ops as eI listed c ρ s M)(hp:∀j b,¬oP listed j->as[j]?=some (some b)->ρ b=none)(h6:bf ρ0 yp w0 ρ M w)(hA:bf ρ s w ρ' s1 w')
 (_:∀q,my P ops as eI listed c ρ q->s1.mem.get q=none):∃M1,bf ρ0 yp w0 ρ' M1 w'/\M1.next=s1.next/\∀q,M1.mem.get q=if my P ops as eI listed c ρ q then M.mem.get q else s1.mem.get q:=by
 obtain⟨M1,g1,g2⟩:=xZ s1 (fun q=>if my P ops as eI listed c ρ q then M.mem.get q else s1.mem.get q) (as.filterMap id)
 have g3:∀q,M1.mem.get q=if my P ops as eI listed c ρ q then M.mem.get q else s1.mem.get q:=by
  intro q;rw[g2]
  by_cases hq:q∈as.filterMap id
  ·rw[aBb hq]
  ·rw[aAZ hq,aAZ];rintro⟨j,t,x,_,_,_,k1,_⟩;refine hq (List.mem_filterMap.2 ⟨some q,aBO k1,rfl⟩)
 refine⟨M1,h6.trans (bf.frame h6.wr h.next.symm (h.sub hp) hA g1 fun q x hx=> ?_),g1,g3⟩
 by_cases hl:my P ops as eI listed c ρ q
 ·right;obtain⟨j,t,y,k1,k2,k3,k4,k5,k6⟩:=hl;have hl:my P ops as eI listed c ρ q:=⟨j,t,y,k1,k2,k3,k4,k5,k6⟩;exact⟨⟨y,k6⟩,((h.late j t q y k1 k2 k3 k4 k6).2 k5).2,by rw[g3,aBb hl]⟩
 ·left;rw[g3,aAZ hl]
open Classical in
theorem Inv.step (hc:iM P call)(hst:BY P ops)(dq:tM P ops.toList yp as mT)(jH:Gv (ops.toList.zip as) P call n ops 0 0 zz mT eI ch FU kY)(SS:YY P call ops (ch++[kY]) eI)(hlt:Qp P ops as (ch++[kY]) eI){listed:Array Bool}{a:Act}{w:World}
 (h:Inv P ops as eI ch kY n ρ0 yp mT zz w0 listed a w) {i:Nat} (hi:i∈Region.ready .any ops listed) {K:Act->World->Prop} {Q:Exit->Act->World->Prop}
 (hK:∀a' w',Inv P ops as eI ch kY n ρ0 yp mT zz w0 (listed.setIfInBounds i true) a' w'->K a' w'):wpOp P ops Q i K a w:=by
 obtain⟨jx,Ff,UY⟩:=(sv h.size).1 hi;obtain⟨fr,c,ρ,s,M,h1,h2,h3,h4,h5,h6,h7,h8,h9⟩:=h.data;have ho:ops[i]?=some ops[i]:=by simp
 generalize ops[i]=o at ho;have KZ:ops.toList[i]?=some o:=by simpa using ho
 obtain⟨t,ab,t1,vE,t2,t2',t3,t4,t5,t6,t7,t9,t10⟩:=mD dq jH KZ;have Pd:∀j,fG ops ops.size i j=true->oP listed j:=fun j hj=>zR h.closed _ _ _ hj UY;have FJ:∀j k,fG ops ops.size k j=true->oP listed k->oP listed j:=fun j k hj hk=>zR h.closed _ _ _ hj (h.closed k hk);have Fm:i<listed.size:=by rw[h.size];exact jx
 have Jz:∀x∈qh P ops o,ev fr x=ev t.fr x:=by
  intro x hx;cases x with
  |const v=>rfl
  |tmp p=>
   show fB fr p=fB t.fr p
   by_cases hd:∃(j:Nat) (oj:Oper) (d:Tmp),ops.toList[j]?=some oj/\oj.dst=some d/\d=p
   ·obtain⟨j,oj,d,g1,g2,g3⟩:=hd
    have Jp:∀(j':Nat) (o':Oper) (d':Tmp),ops.toList[j']?=some o'->o'.dst=some d'->d'=p->j'=j:=by
     intro j' o' d' k1 k2 k3;have:d'=d:=(by rw[k3,g3]);subst this;rcases Nat.lt_trichotomy j' j with hlt|heq|Al
     ·exact absurd g2 (hst.s3 j' j o' oj d' hlt k1 g1 k2)
     ·exact heq
     ·exact absurd k2 (hst.s3 j j' oj o' d' Al g1 k1 g2)
    rcases hst.s2 i o KZ p hx j oj d g1 g2 g3 with⟨g4,g5⟩|⟨g4,g5⟩
    ·obtain⟨tj,_,g6,_⟩:=mD dq jH g1;subst g3;rw[h1.1 j oj d tj (Pd j g5) g1 g2 g6,t7.1 j oj d tj g4 g1 g2 g6]
    ·rw[h1.2,t7.2]
     ·intro j' o' d' k0 k1 k2 k3;have:=Jp j' o' d' k1 k2 k3;have k0:j'<i:=k0;omega
     ·intro j' o' d' k0 k1 k2 k3;have:=Jp j' o' d' k1 k2 k3;subst this;exact Ff (FJ i j' g5 k0)
   ·rw[h1.2,t7.2]
    ·exact fun j o d _ g1 g2 e=>hd ⟨j,o,d,g1,g2,e⟩
    ·exact fun j o d _ g1 g2 e=>hd ⟨j,o,d,g1,g2,e⟩
 have fin:∀v' w' ρ' c2 s2 M2,VR ρ' t.v v'->ρ.le ρ'->(∀j oj,ops.toList[j]?=some oj->mg P oj=true->(j=i\/oP listed j↔iV P ops.toList j<c2))->c2<=ch.length->(ch++[kY])[c2]?=some s2->bf ρ0 yp w0 ρ' M2 w'->mT.next<=s2.next->
  (∀j b,¬oP (listed.setIfInBounds i true) j->as[j]?=some (some b)->ρ' b=none)->LW P ops as eI (listed.setIfInBounds i true) c2 ρ' s2 M2->K (a.put o.dst v') w':=by
  intro v' w' ρ' c2 s2 M2 hv hle k4 k3 k2 hA k7 k8 k9
  refine hK _ _ {
   size:=by simp[h.size]
   closed:=fun j hj o' QK e he hb=>by
    rw[kT Fm]at hj⊢;rcases hj with rfl|hj
    ·exact .inr (UY o' QK e he hb)
    ·exact .inr (h.closed j hj o' QK e he hb)
   inner:=fun j hj=>by
    rw[kT Fm]at hj;rcases hj with rfl|hj
    ·exact jx
    ·exact h.inner j hj
   data:=by
    cases hd:o.dst with
    |none=>
     refine⟨fr,c2,ρ',s2,M2,⟨fun j oj d tj g1 g2 g3 g4=> ?_,fun p hp=>h1.2 p fun j oj d g1=>hp j oj d ((kT Fm).2 (.inr g1))⟩,fun j oj g1 g2=> ?_,k3,k2,h5.mono hle,hA,k7,k8,k9⟩
     ·rcases(kT Fm).1 g1 with rfl|g1
      ·rw[KZ]at g2;cases g2;rw[hd]at g3;cases g3
      ·exact h1.1 j oj d tj g1 g2 g3 g4
     ·rw[kT Fm];exact k4 j oj g1 g2
    |some d=>
     refine⟨fr.put (d) (some t.v),c2,ρ',s2,M2,⟨fun j oj d' tj g1 g2 g3 g4=> ?_,fun p hp=> ?_⟩,fun j oj g1 g2=> ?_,k3,k2,(h5.mono hle).aaB (aBs (t6 d hd) h.sz) hv,hA,k7,k8,k9⟩
     ·rcases(kT Fm).1 g1 with rfl|g1
      ·rw[KZ]at g2;cases g2;rw[hd]at g3;cases g3;rw[t1]at g4;cases g4;exact lQ _ _ _
      ·have g1':oP listed j:=g1;rw[l7]
       ·exact h1.1 j oj d' tj g1 g2 g3 g4
       ·intro e;subst e;rcases Nat.lt_trichotomy j i with hlt|heq|Al
        ·exact hst.s3 j i oj o d' hlt g2 KZ g3 hd
        ·rw[heq]at g1';exact Ff g1'
        ·exact hst.s3 i j o oj d' Al KZ g2 hd g3
     ·rw[l7]
      ·exact h1.2 p fun j oj d' g1=>hp j oj d' ((kT Fm).2 (.inr g1))
      ·exact fun e=>hp i o d ((kT Fm).2 (.inl rfl)) KZ hd e.symm
     ·rw[kT Fm];exact k4 j oj g1 g2
   sz:=by rw[Ex];exact h.sz
   defers:=by rw[yH];exact h.defers}
 have xg:mg P o=false->∀j oj,ops.toList[j]?=some oj->mg P oj=true->(j=i\/oP listed j↔iV P ops.toList j<c):=fun hw j oj g1 g2=>by
  rw[h2 j oj g1 g2];constructor
  ·rintro(e|e)
   ·subst e;rw[KZ]at g1;cases g1;rw[hw]at g2;cases g2
   ·exact e
  ·exact .inr
 have Oz:∀j b,¬oP (listed.setIfInBounds i true) j->as[j]?=some (some b)->j≠i/\ρ b=none:=fun j b hj hb=>by
  rw[kT Fm]at hj;exact⟨fun e=>hj (.inl e),h8 j b (fun hh=>hj (.inr hh)) hb⟩
 have tG:∀j,oP (listed.setIfInBounds i true) j->j≠i->oP listed j:=fun j hj gT=>by
  rcases(kT Fm).1 hj with e|e
  ·exact absurd e gT
  ·exact e
 unfold wpOp;rw[ho];dsimp only
 suffices XE:(if Region.wanted o (yielded ops a.tmps)then Oper.wp P o a w K Q else K (a.put o.dst undef) w) by
  split
  ·rename_i hwt;rw[aBb hwt]at XE;exact .inl XE
  ·rename_i hwt;rw[aAZ hwt]at XE;exact XE
 cases kh:nv P o with
 |some tz=>
  obtain⟨b,hb⟩:=dq.news i o KZ (.inl (by rw[kh];simp));rw[vE]at hb;cases hb;have hr:=dq.range i b vE;have FH:=h8 i b Ff vE;have hw:mg P o=false:=by unfold mg;rw[kh]
  have hB:oU P o=false:=by unfold oU;rw[wi (by rw[kh];simp)]
  have huj:∀u∈eI,u.w=true->∃j oj,ops.toList[j]?=some oj/\mg P oj=true/\u.i=j/\u.c=iV P ops.toList j:=by
   intro u hu huw;obtain⟨j,hj,rfl⟩:=aBT hu;have QK:=wM dq jH (aAV hj);obtain⟨tj,_,g1,_,g2,_,_,g3,g4,_⟩:=mD dq jH QK;rw[aAV hj]at g1;cases g1;exact⟨j,_,QK,by rw[<-g3];exact huw,g2,g4⟩
  have OD:∃s1,gK P call ops (some b) o fr s= .ok t.v s1:=by
   rw[om Jz];rcases SS i t t1 (by rw[t3];exact hw) (by rw[t3];exact hB) c s h4 with⟨u,g1,g2,g3,g4⟩|⟨u,g1,g2,g3,g4⟩|⟨s2,g⟩
   ·obtain⟨j,oj,k1,k2,k3,k4⟩:=huj u g1 g2;rw[t2,k3]at g4;exact absurd (FJ i j g4 ((h2 j oj k1 k2).2 (by omega))) Ff
   ·obtain⟨j,oj,k1,k2,k3,k4⟩:=huj u g1 g2;rw[t2,k3]at g4;have:=(h2 j oj k1 k2).1 (Pd j g4);omega
   ·rw[t3,t2']at g;exact⟨s2,g⟩
  obtain⟨sx,OB⟩:=OD;obtain⟨M2,m1,m2⟩:=xZ M (fun _=>s.mem.get b) [b]
  have m3:∀q x,ρ q=some x->M2.mem.get q=M.mem.get q:=fun q x hx=>by
   rw[m2,aAZ (fun e=>by have:=aCg.1 e;subst this;rw[FH]at hx;cases hx)]
  have Pr:=h6.re m3 m1;refine As kh OB (by rw[m2,aBb (by simp)]) Pr h5 FH (by rw[m1,h9.next];omega) (by omega) fun v' w' ρ' hv hA hle hq=>fin v' w' ρ' c s M2 hv hle (xg hw) h3 h4 hA h7 (fun j b' hj pK=> ?_) ⟨by rw[m1];exact h9.next,fun j t' b' x hj zl pK ha hx=> ?_,fun q x hx qJ=> ?_⟩
  ·obtain⟨k1,k2⟩:=Oz j b' hj pK;rw[hq b' (fun e=>k1 (dq.uniq j i b' pK (by rw[e];exact vE)))];exact k2
  ·have zq:j≠i:=fun e=>by subst e;rw[t1]at zl;cases zl;rw[t3,hB]at pK;cases pK
   have gT:b'≠b:=fun e=>zq (dq.uniq j i b' ha (by rw[e];exact vE));rw[hq b' gT]at hx;obtain⟨k1,k2⟩:=h9.late j t' b' x (tG j hj zq) zl pK ha hx;exact⟨k1,fun QT=>by rw[m3 b' x hx];exact k2 QT⟩
  ·by_cases e:q=b
   ·subst e;rw[m2,aBb (by simp)]
   ·rw[hq q e]at hx;rw[m3 q x hx];exact h9.RW q x hx qJ
 |none=>
  cases fp:kH P o with
  |some x=>
   have hB:oU P o=true:=by unfold oU;rw[fp]
   obtain⟨b,hb⟩:=dq.news i o KZ (.inr hB);rw[vE]at hb;cases hb;have hr:=dq.range i b vE;have FH:=h8 i b Ff vE;have hw:=C0 hB;rw[<-om Jz]at t9;rcases uL fp t9 with⟨g1,g2,g3⟩|⟨g1,sx,g2,g3,g4,g5⟩
   ·rw[aAZ (by rw[iJ g1 h5];simp)];refine fin undef w ρ c s M (by rw[g2];exact .undef) (fun _ _ h=>h) (xg hw) h3 h4 h6 h7 (fun j b' hj pK=>(Oz j b' hj pK).2) ⟨h9.next,fun j t' b' y hj zl pK ha hy=> ?_,h9.RW⟩
    by_cases zq:j=i
    ·subst zq;rw[vE]at ha;cases ha;rw[FH]at hy;cases hy
    ·exact h9.late j t' b' y (tG j hj zq) zl pK ha hy
   ·rw[aBb (iJ g1 h5)];obtain⟨e,len,z,ps⟩:=x;obtain⟨l,l1,l2⟩:=Og fp h5 g2;have zu:t.s1.mem.get b=some (.cells sx e false):=by rw[g5];exact PT.cP _ _ _
    have U2:(c<iV P ops.toList i->s.mem.get b=none)/\(¬c<iV P ops.toList i->s.mem.get b=some (.cells sx e false)):=by
     constructor
     ·intro oF;obtain⟨d,od,d1,d2,d3,d4⟩:=vJ (P:=P) (l:=ops.toList) i (Nat.le_of_lt (by simpa using jx)) c oF;obtain⟨td,_,e1,_,e2,_,e3,e4,e5,_⟩:=mD dq jH d2;have GP:¬oP listed d:=fun hh=>by have:=(h2 d od d2 d3).1 hh;omega
      have a1:fG ops ops.size d i=false:=by
       cases hh:fG ops ops.size d i with
       |false=>rfl
       |true=>have:=IB hst _ _ _ hh;omega
      have a2:fG ops ops.size i d=false:=by
       cases hh:fG ops ops.size i d with
       |false=>rfl
       |true=>exact absurd (Pd d hh) GP
      exact(hlt i t b t1 (by rw[t3];exact hB) vE d td e1 (by rw[e3];exact d3) a1 a2).1 d1 s (by rw[e5,d4];exact h4)
     ·intro oF;obtain⟨sj,j1,j2⟩:=yZ dq jH t1 (by rw[t3];exact hB) vE
      have key:∀m s',iV P ops.toList i+m<=c->(ch++[kY])[iV P ops.toList i+m]?=some s'->s'.mem.get b=some (.cells sx e false):=by
       intro m
       induction m with
       |zero=>intro s' _ tD;rw[aBJ,j1]at tD;cases tD;rw[j2,zu]
       |succ m ih=>
        intro s' hm tD;have hlen:=(aBg.1 tD).1;obtain⟨s0,WW⟩:∃s0,(ch++[kY])[iV P ops.toList i+m]?=some s0:=⟨_,aAV (by omega)⟩;have XU:iV P ops.toList i+m<iV P ops.toList ops.toList.length:=by rw[<-zM dq jH];omega
        obtain⟨d,od,d1,d2,d3,d4⟩:=vJ (P:=P) (l:=ops.toList) ops.toList.length (aAU _) _ XU;obtain⟨td,_,e1,_,e2,_,e3,e4,e5,_⟩:=mD dq jH d2;have GP:oP listed d:=(h2 d od d2 d3).2 (by omega)
        have hid:i<d:=by
         rcases Nat.lt_trichotomy i d with hh|hh|hh
         ·exact hh
         ·subst hh;exact absurd GP Ff
         ·have:=nK (P:=P) d2;rw[d3]at this;simp only[aBr]at this;have:=mc (P:=P) (l:=ops.toList) (show d+1<=i by omega);omega
        have a1:fG ops ops.size d i=false:=by
         cases hh:fG ops ops.size d i with
         |false=>rfl
         |true=>exact absurd (FJ i d hh GP) Ff
        have a2:fG ops ops.size i d=false:=by
         cases hh:fG ops ops.size i d with
         |false=>rfl
         |true=>have:=IB hst _ _ _ hh;omega
        rw[(hlt i t b t1 (by rw[t3];exact hB) vE d td e1 (by rw[e3];exact d3) a1 a2).2 hid s0 s' (by rw[e5,d4];exact WW) (by rw[e5,d4];exact tD)];exact ih s0 (by omega) WW
      have zw:=key (c-iV P ops.toList i) s (by omega) (by rw[show iV P ops.toList i+(c-iV P ops.toList i)=c by omega];exact h4);exact zw
    obtain⟨M2,m1,m2⟩:=xZ M (fun _=>some (.cells sx e false)) [b]
    have m3:∀q x,ρ q=some x->M2.mem.get q=M.mem.get q:=fun q x hx=>by
     rw[m2,aAZ (fun e=>by have:=aCg.1 e;subst this;rw[FH]at hx;cases hx)]
    have m4:M2.mem.get b=some (.cells sx e false):=by rw[m2,aBb (by simp)]
    have Pr:=(h6.re m3 m1).aeG m4 FH (by rw[m1,h9.next];omega) l1 (by omega);have hq:∀q,q≠b->ρ.set b (w.heap.size,l.length) q=ρ q:=fun q hq=>Ren.dp _ _ _ _ hq;unfold Oper.wp;rw[l2 w];refine fin (.slice (some ⟨w.heap.size,0,none⟩) len len) _ (ρ.set b (w.heap.size,l.length)) c s M2 (by rw[g4];exact .slice _ _ _ _ _ _ (Ren.eA ρ b _)) (fun q x hx=>by rw[hq q (fun e=>by subst e;rw[FH]at hx;cases hx)];exact hx) (xg hw) h3 h4 Pr h7 (fun j b' hj pK=> ?_) ⟨by rw[m1];exact h9.next,fun j t' b' y hj zl pK ha hy=> ?_,fun q y hy qJ=> ?_⟩
    ·obtain⟨k1,k2⟩:=Oz j b' hj pK;rw[hq b' (fun e=>k1 (dq.uniq j i b' pK (by rw[e];exact vE)))];exact k2
    ·by_cases zq:j=i
     ·subst zq;rw[vE]at ha;cases ha;rw[t1]at zl;cases zl;exact⟨g3,fun QT=>⟨by rw[m4,zu],U2.1 QT⟩⟩
     ·have gT:b'≠b:=fun e=>zq (dq.uniq j i b' ha (by rw[e];exact vE));rw[hq b' gT]at hy;obtain⟨k1,k2⟩:=h9.late j t' b' y (tG j hj zq) zl pK ha hy;exact⟨k1,fun QT=>by rw[m3 b' y hy];exact k2 QT⟩
    ·by_cases e':q=b
     ·subst e';rw[m4,U2.2 (qJ i t vE t1 (by rw[t3];exact hB))]
     ·rw[hq q e']at hy;rw[m3 q y hy];exact h9.RW q y hy qJ
  |none=>
   have hB:oU P o=false:=by unfold oU;rw[fp]
   have uA:WR ρ s w:=h6.wr.sub (h9.sub h8) h9.next.symm;cases hw:mg P o with
   |true=>
    have hle:¬iV P ops.toList i<c:=fun hh=>Ff ((h2 i o KZ hw).2 hh)
    have hcw:c=iV P ops.toList i:=by
     by_cases hlt:c<iV P ops.toList i
     ·have DQ:i<=ops.toList.length:=by simp;omega
      obtain⟨j,oj,g1,g2,g3,g4⟩:=vJ (P:=P) (l:=ops.toList) i DQ c hlt;have:=(h2 j oj g2 g3).1 (Pd j (hst.s4 i j o oj KZ g2 g1 hw g3));omega
     ·omega
    subst hcw;have hts:=t10 hw;rw[h4]at hts;cases hts;rw[<-om Jz]at t9;obtain⟨_,hsc⟩:=rb kh fp t9;have tJ:=nK (P:=P) KZ;rw[hw]at tJ;simp only[aBr]at tJ;have DQ:i<ops.toList.length:=by simpa using jx
    obtain⟨k2,n1,n2,n3,n4,n5,n6⟩:=vf dq jH (ops.toList.length-(i+1)) (i+1) (by omega);rw[tJ]at n5;obtain⟨gn,gm⟩:=gap dq jH n1 n2 n3;have GH:jD eI kY (i+1)=t.s1:=(jH.pv i t t1).symm;rw[GH]at gn gm
    have adf:∀q j t' x,oP listed j->eI[j]?=some t'->oU P t'.o=true->as[j]?=some (some q)->ρ q=some x->k2<j->(jD eI kY k2).mem.get q=none:=by
     intro q j t' x j1 j2 j3 j4 j5 j6;rcases n6 with e|⟨od,e1,e2⟩
     ·have:=(aBg.1 j2).1;rw[Cg dq jH]at this;omega
     ·obtain⟨td,_,d1,_,d2,_,d3,d4,d5,_⟩:=mD dq jH e1;have GP:¬oP listed k2:=fun hh=>by have:=(h2 k2 od e1 e2).1 hh;omega
      have a1:fG ops ops.size k2 j=false:=by
       cases hh:fG ops ops.size k2 j with
       |false=>rfl
       |true=>have:=IB hst _ _ _ hh;omega
      have a2:fG ops ops.size j k2=false:=by
       cases hh:fG ops ops.size j k2 with
       |false=>rfl
       |true=>exact absurd (FJ k2 j hh j1) GP
      exact(hlt j t' q j2 j3 j4 k2 td d1 (by rw[d3];exact e2) a1 a2).1 j6 _ (by rw[d5,n4,tJ];exact n5)
    have Sy:∀{j:Nat} {t':TR},eI[j]?=some t'->oU P t'.o=true->iV P ops.toList i<iV P ops.toList j->i+1<=j:=by
     intro j t' _ _ j3;rcases aCn i j with hh|hh
     ·omega
     ·have:=mc (P:=P) (l:=ops.toList) hh;omega
    have akT:∀{j:Nat} {t':TR},eI[j]?=some t'->oU P t'.o=true->j≠k2:=by
     intro j t' j1 j2 e;subst e;rcases n6 with e|⟨od,e1,e2⟩
     ·have:=(aBg.1 j1).1;rw[Cg dq jH]at this;omega
     ·have:=wM dq jH j1;rw[e1]at this;cases this;rw[C0 j2]at e2;cases e2
    refine qZ hc hsc uA h5 fun v' w' ρ' hv hA=> ?_
    have iq:∀q,my P ops as eI listed (iV P ops.toList i) ρ q->t.s1.mem.get q=none:=by
     rintro q ⟨j,t',x,j1,j2,j3,j4,j5,j6⟩;have Ih:=Sy j2 j3 j5;rcases aCn j k2 with hjk|hjk
     ·have hg:=(gap dq jH (k:=i+1) (k':=j) Ih (by omega) (fun j' o' q1 q2=>n3 j' o' q1 (by omega))).2 q (fun j' t'' q1 q2 q3 q4 q5=>by have:=dq.uniq j j' q j4 q5;omega);rw[GH]at hg;rw[<-hg];have:jD eI kY j=t'.s:=by unfold jD;rw[j2]
      rw[this];exact(h9.late j t' q x j1 j2 j3 j4 j6).1
     ·rw[<-gm q fun j' t'' q1 q2 q3 q4 q5=>by have:=dq.uniq j j' q j4 q5;omega];exact adf q j t' x j1 j2 j3 j4 j6 (by have:=akT j2 j3;omega)
    obtain⟨M1,b1,b2,b3⟩:=h9.step h8 h6 hA iq;have O4:∀q j,as[j]?=some (some q)->ρ q=none->ρ' q=none:=fun q j hj hq=>hA.JP q (by have:=dq.range j q hj;omega) hq
    have U4:∀q j x,as[j]?=some (some q)->ρ' q=some x->∃y,ρ q=some y:=fun q j x hj hx=>by
     cases hq:ρ q with
     |some y=>exact⟨y,rfl⟩
     |none=>rw[O4 q j hj hq]at hx;cases hx
    obtain⟨M2,m1,m2⟩:=xZ (jD eI kY k2) (fun q=>if my P ops as eI listed (iV P ops.toList i+1) ρ q then M.mem.get q else (jD eI kY k2).mem.get q) (as.filterMap id)
    have m3:∀q,M2.mem.get q=if my P ops as eI listed (iV P ops.toList i+1) ρ q then M.mem.get q else (jD eI kY k2).mem.get q:=by
     intro q;rw[m2]
     by_cases hq:q∈as.filterMap id
     ·rw[aBb hq]
     ·rw[aAZ hq,aAZ];rintro⟨j,t,x,_,_,_,k1,_⟩;exact hq (List.mem_filterMap.2 ⟨some q,aBO k1,rfl⟩)
    have Pr:bf ρ0 yp w0 ρ' M2 w':=by
     refine b1.re (fun q x hx=> ?_) (by rw[m1,b2,gn]);rw[m3,b3]
     by_cases hq:∃(j:Nat) (t':TR),as[j]?=some (some q)/\eI[j]?=some t'/\oU P t'.o=true
     ·obtain⟨j,t',j1,j2,j3⟩:=hq;obtain⟨y,hy⟩:=U4 q j x j1 hx;have SH:oP listed j:=Classical.byContradiction fun hh=>by rw[h8 j q hh j1]at hy;cases hy
      have same:∀(d:Nat),my P ops as eI listed d ρ q↔d<iV P ops.toList j:=fun d=>by
       constructor
       ·rintro⟨j',t'',y',_,_,_,q1,q2,_⟩;rw[<-dq.uniq j' j q q1 j1];exact q2
       ·exact fun hd=>⟨j,t',y,SH,j2,j3,j1,hd,hy⟩
      by_cases c1:iV P ops.toList i+1<iV P ops.toList j
      ·rw[aBb ((same _).2 c1),aBb ((same _).2 (by omega))]
      ·rw[aAZ (fun hh=>c1 ((same _).1 hh))]
       by_cases c2:iV P ops.toList i<iV P ops.toList j
       ·rw[aBb ((same _).2 c2),((h9.late j t' q y SH j2 j3 j1 hy).2 c2).1];obtain⟨sj,s1,s2⟩:=yZ dq jH j2 j3 j1;rw[show iV P ops.toList j=iV P ops.toList i+1 by omega,n5]at s1;cases s1;exact s2
       ·rw[aAZ (fun hh=>c2 ((same _).1 hh)),gm q];intro j' t'' q1 q2 q3 q4 q5;have:=dq.uniq j j' q j1 q5;subst this;have:=mc (P:=P) (l:=ops.toList) q1;omega
     ·have no:∀(d:Nat),¬my P ops as eI listed d ρ q:=fun d=>by
       rintro⟨j,t',y,_,q1,q2,q3,_⟩;exact hq ⟨j,t',q3,q1,q2⟩
      rw[aAZ (no _),aAZ (no _),gm q];exact fun j t' _ _ q1 q2 q3=>hq ⟨j,t',q3,q1,q2⟩
    refine fin v' w' ρ' (iV P ops.toList i+1) (jD eI kY k2) M2 hv hA.ext (fun j oj g1 g2=> ?_) ?_ n5 Pr (by rw[gn];exact aCq h7 hA.next) (fun j b' hj pK=>O4 b' j pK (Oz j b' hj pK).2) ⟨m1,fun j t' b' x hj zl pK ha hx=> ?_,fun q x hx qJ=> ?_⟩
    ·by_cases zq:j=i
     ·subst zq;simp
     ·have gT:iV P ops.toList j≠iV P ops.toList i:=by
       rcases aCn j i with hlt|nY
       ·have:=nK (P:=P) g1;rw[g2]at this;simp only[aBr]at this;have h':=mc (P:=P) (l:=ops.toList) (show j+1<=i by omega);omega
       ·have h':=mc (P:=P) (l:=ops.toList) (show i+1<=j by omega);omega
      rw[h2 j oj g1 g2];constructor
      ·rintro(e|e)
       ·exact absurd e zq
       ·omega
      ·intro e;right;omega
    ·rw[zM dq jH,<-tJ];exact mc (by omega)
    ·have zq:j≠i:=fun e=>by subst e;rw[t1]at zl;cases zl;rw[t3,hB]at pK;cases pK
     obtain⟨y,hy⟩:=U4 b' j x ha hx;have SH:=tG j hj zq;obtain⟨q1,q2⟩:=h9.late j t' b' y SH zl pK ha hy;refine⟨q1,fun QT=>⟨?_, ?_⟩⟩
     ·rw[m3,aBb ⟨j,t',y,SH,zl,pK,ha,QT,hy⟩];exact(q2 (by omega)).1
     ·have Ih:=Sy zl pK (by omega);refine adf b' j t' y SH zl pK ha hy ?_;rcases aCn k2 j with hh|hh
      ·exact hh
      ·have:=mc (P:=P) (l:=ops.toList) hh;rw[n4,tJ]at this;omega
    ·rw[m3,aAZ];rintro⟨j,t',y,_,q1,q2,q3,q4,_⟩;exact qJ j t' q3 q1 q2 q4
   |false=>
    have huj:∀u∈eI,u.w=true->∃j oj,ops.toList[j]?=some oj/\mg P oj=true/\u.i=j/\u.c=iV P ops.toList j:=by
     intro u hu huw;obtain⟨j,hj,rfl⟩:=aBT hu;have QK:=wM dq jH (aAV hj);obtain⟨tj,_,g1,_,g2,_,_,g3,g4,_⟩:=mD dq jH QK;rw[aAV hj]at g1;cases g1;exact⟨j,_,QK,by rw[<-g3];exact huw,g2,g4⟩
    have OD:∃s1,gK P call ops ab o fr s= .ok t.v s1:=by
     rw[om Jz];rcases SS i t t1 (by rw[t3];exact hw) (by rw[t3];exact hB) c s h4 with⟨u,g1,g2,g3,g4⟩|⟨u,g1,g2,g3,g4⟩|⟨s2,g⟩
     ·obtain⟨j,oj,k1,k2,k3,k4⟩:=huj u g1 g2;rw[t2,k3]at g4;exact absurd (FJ i j g4 ((h2 j oj k1 k2).2 (by omega))) Ff
     ·obtain⟨j,oj,k1,k2,k3,k4⟩:=huj u g1 g2;rw[t2,k3]at g4;have:=(h2 j oj k1 k2).1 (Pd j g4);omega
     ·rw[t3,t2']at g;exact⟨s2,g⟩
    obtain⟨sx,OB⟩:=OD;rw[qY hw hB OB]at OB;obtain⟨awE,hsc⟩:=rb kh fp OB;refine qZ hc hsc uA h5 fun v' w' ρ' hv hA=> ?_
    have iq:∀q,my P ops as eI listed c ρ q->s.mem.get q=none:=by
     rintro q ⟨j,t',x,j1,j2,j3,j4,j5,j6⟩;exact((h9.late j t' q x j1 j2 j3 j4 j6).2 j5).2
    obtain⟨M1,b1,b2,b3⟩:=h9.step h8 h6 hA iq;have O4:∀q j,as[j]?=some (some q)->ρ q=none->ρ' q=none:=fun q j hj hq=>hA.JP q (by have:=dq.range j q hj;omega) hq;refine fin v' w' ρ' c s M1 hv hA.ext (xg hw) h3 h4 b1 h7 (fun j b' hj pK=>O4 b' j pK (Oz j b' hj pK).2) ⟨b2,fun j t' b' x hj zl pK ha hx=> ?_,fun q x hx qJ=> ?_⟩
    ·have zq:j≠i:=fun e=>by subst e;rw[t1]at zl;cases zl;rw[t3,hB]at pK;cases pK
     cases hq:ρ b' with
     |none=>rw[O4 b' j ha hq]at hx;cases hx
     |some y=>
      have SH:=tG j hj zq;obtain⟨q1,q2⟩:=h9.late j t' b' y SH zl pK ha hq;refine⟨q1,fun QT=> ?_⟩;rw[b3,aBb ⟨j,t',y,SH,zl,pK,ha,QT,hq⟩];exact q2 QT
    ·rw[b3,aAZ];rintro⟨j,t',y,_,q1,q2,q3,q4,_⟩;exact qJ j t' q3 q1 q2 q4
theorem PS (hc:iM P call)(hst:BY P ops)(dq:tM P ops.toList yp as mT)(jH:Gv (ops.toList.zip as) P call n ops 0 0 zz mT eI ch FU kY)(SS:YY P call ops (ch++[kY]) eI)(hlt:Qp P ops as (ch++[kY]) eI):∀(fuel:Nat) (listed:Array Bool) (a:Act) (w:World),
 Inv P ops as eI ch kY n ρ0 yp mT zz w0 listed a w->unl ops.size listed<=fuel->wpAny P .any ops (pH ρ0 yp w0 n (.norm FU kY)) fuel listed a w:=by
 intro fuel
 induction fuel with
 |zero=>
  intro listed a w h hu
  have hr:Region.ready .any ops listed=[]:=by
   rw[List.eq_nil_iff_forall_not_mem];intro i hi;obtain⟨h1,h2,h3⟩:=(sv h.size).1 hi
   have:listed.getD i true=false:=by
    have e:listed.getD i false=listed.getD i true:=by simp[h.size,h1]
    unfold oP at h2;rw[e]at h2;simpa using h2
   have:=IJ h1 h.size this;omega
  exact⟨hr,h.done dq jH (zT hst h.size hr)⟩
 |succ fuel ih=>
  intro listed a w h hu;refine⟨fun hr=>h.done dq jH (zT hst h.size hr),fun i hi=>h.step hc hst dq jH SS hlt hi fun a' w' h'=>ih _ a' w' h' ?_⟩;obtain⟨h1,h2,h3⟩:=(sv h.size).1 hi
  have:listed.getD i true=false:=by
   have e:listed.getD i false=listed.getD i true:=by simp[h.size,h1]
   unfold oP at h2;rw[e]at h2;simpa using h2
  have:=IJ h1 h.size this;omega
open Classical in
def fy (P:Program):xy:=fun call n ops fr st=>Hw P ops.toList st fun as gh=>match qB P call n ops (ops.toList.zip as) 0 0 fr gh with
 |some r=>if BY P ops/\YY P call ops (r.2.1++[r.2.2.2]) r.1/\Qp P ops as (r.2.1++[r.2.2.2]) r.1 then .norm r.2.2.1 r.2.2.2 else .bad
 |none=> .bad
theorem nm (hm:P.follows .mixedOrders=true):sW P (fy P):=by
 intro call n hc id ops fr st ρ a w hb hw hf hn hd;unfold fy at hb⊢;obtain⟨as,gh,dq,hk⟩:=IZ (P:=P) ops.toList st;rw[hk]at hb;rw[hk];have Dl:(ops.toList.zip as).map (·.1)=ops.toList:=List.map_fst_zip (by rw[dq.len];exact aAU _);cases ht:qB P call n ops (ops.toList.zip as) 0 0 fr gh with
 |none=>rw[ht]at hb;exact absurd rfl hb
 |some r=>
  obtain⟨eI,ch,FU,kY⟩:=r;rw[ht]at hb;dsimp only at hb⊢
  split at hb
  ·rename_i SS;rw[aBb SS];obtain⟨hst,SS,hlt⟩:=SS;have jH:=D8 ht (by rw[Dl];exact hst.s3);have Mb:=dq.after ρ w hw;refine wp_region_any hm ?_;refine PS (w0:=w) hc hst dq jH SS hlt _ _ _ _ ?_ ?_
   ·have qJ:∀i,¬oP (Array.replicate ops.size false) i:=fun i hi=>by
     unfold oP at hi;simp only[Array.getD_eq_getD_getElem?,Array.getElem?_replicate]at hi
     split at hi<;>cases hi
    have QJ:∀(j:Nat) (b:Nat),as[j]?=some (some b)->ρ b=none:=fun j b hb=>by
     have:=dq.range j b hb;cases hh:ρ b with
     |none=>rfl
     |some x=>have:=hw.fresh b x hh;omega
    obtain⟨k2,n1,n2,n3,n4,n5,n6⟩:=vf dq jH ops.toList.length 0 (by omega);obtain⟨gn,gm⟩:=gap dq jH n1 n2 n3;have US:jD eI kY 0=gh:=jH.fst;rw[US]at gn gm;have Me:iV P ops.toList 0=0:=rfl;rw[Me]at n5;have rD:∀q x,ρ q=some x->(jD eI kY k2).mem.get q=gh.mem.get q:=fun q x hx=>gm q fun j t _ _ _ _ q5=>by rw[QJ j q q5]at hx;cases hx
    exact⟨by simp,fun i hi=>absurd hi (qJ i),fun i hi=>absurd hi (qJ i),⟨fr,0,ρ,jD eI kY k2,jD eI kY k2,⟨fun j o d t hj=>absurd hj (qJ j),fun p _=>rfl⟩,fun j o _ _=>⟨fun hh=>absurd hh (qJ j),fun hh=>absurd hh (Nat.not_lt_zero _)⟩,aDD _,n5,hf,(Mb.trans (bf.draw Mb.wr _)).re rD gn,by rw[gn];exact aAU _,fun j b _ hb=>QJ j b hb,
     ⟨rfl,fun j t b x hj=>absurd hj (qJ j),fun q x _ _=>rfl⟩⟩,hn,hd⟩
   ·unfold unl;exact aCq List.countP_le_length (by simp)
  ·exact absurd rfl hb
end
