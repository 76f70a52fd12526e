import Derived.Test.YtnahbemmgcjojaaGreatDoorGr04
import Derived.Test.YtnahbemmgcjojaaGreatDoorGr00
import Derived.Test.YtnahbemmgcjojaaGreatDoorProg
import Derived.KernelRfl
import Derived.Lib.SlKeysI
import Derived.Shelf.SlIterI.Collect
namespace Lim
open Go
noncomputable section
@[simp] theorem ae (v:CV)(st:St)(k:CV->Prop):us (.ok v st) k=k v:=id rfl
@[simp] theorem Sj (k:CV->Prop):us .bad k=False:=id rfl
@[simp] theorem bj (v:CV)(st:St)(k:CV->St->Prop):upon (.ok v st) k=k v st:=id rfl
@[simp] theorem MT (k:CV->St->Prop):upon .bad k=False:=id rfl
@[simp] theorem ah (b:Bool)(x y:Prop):aD (.bool b) x y=if b=true then x else y:=by cases b<;>simp[aD]
@[simp] theorem aE (b c:Bool):ag b (.bool c)=some (if b=true then c else !c):=by cases b<;>rfl
@[simp] theorem eP (b:Bool):ag b .undef=some false:=id rfl
@[simp] theorem aM (st:St)(r:OR):aS (some true) st r=r:=id rfl
@[simp] theorem bT (st:St)(r:OR):aS (some false) st r= .ok .undef st:=id rfl
@[simp] theorem bF (st:St)(y:(CV->St->Prop)->Prop)(k:CV->St->Prop):cb (some true) st y k=y k:=id rfl
@[simp] theorem kc (st:St)(y:(CV->St->Prop)->Prop)(k:CV->St->Prop):cb (some false) st y k=k .undef st:=id rfl
@[simp] theorem bG (p:Prop):cd p=p:=by simp[cd]
@[simp] theorem bP (k:List CV->St->Prop)(b:(List CV->St->Prop)->Prop):cN k b=b k:=id rfl
@[simp] theorem aI (v:CV)(l:List CV):ak 0 (v::l)=v:=id rfl
@[simp] theorem aJ (i:Nat)(v:CV)(l:List CV):ak (i+1) (v::l)=ak i l:=id rfl
@[simp] theorem dR (C:aN)(g:Nat)(f c args:List CV)(st:St)(k:CV->St->Prop):eG C (.func (.func g) f c) args st k=C g (f++(args++c)) st k:=id rfl
@[simp] theorem aF (c:Bool)(a b:CV)(st:St):aK (.bool c) a b st=if c=true then .ok a st else .ok b st:=by cases c<;>rfl
@[simp] theorem Si (c:Prop)[Decidable c](a b:OR)(k:CV->Prop):us (if c then a else b) k=if c then us a k else us b k:=by split<;>rfl
@[simp] theorem MS (c:Prop)[Decidable c](a b:OR)(k:CV->St->Prop):upon (if c then a else b) k=if c then upon a k else upon b k:=by split<;>rfl
@[simp] theorem aA (op:BinOp)(d:Option gH)(c:Bool)(k j:IntKind)(a b:Int)(st:St):ai op d c (.int k a) (.int j b) st=ib op k a j b st:=id rfl
@[simp] theorem cR (k:IntKind)(a b:Int)(st:St):ib .add k a k b st= .ok (.int k (k.wrap (a+b))) st:=by simp[ib,iU]
@[simp] theorem fF (k:IntKind)(a b:Int)(st:St):ib .sub k a k b st= .ok (.int k (k.wrap (a-b))) st:=by simp[ib,iU]
@[simp] theorem jE (k:IntKind)(a b:Int)(st:St):ib .mul k a k b st= .ok (.int k (k.wrap (a*b))) st:=by simp[ib,iU]
@[simp] theorem Nl (k:IntKind)(a b:Int)(st:St):ib .rem k a k b st=if b=0 then .bad else .ok (.int k (Int.tmod a b)) st:=by simp[ib,iU]
@[simp] theorem eT (k:IntKind)(a b:Int)(st:St):ib .eql k a k b st= .ok (.bool (decide (a=b))) st:=by simp[ib,iU]
@[simp] theorem eR (k:IntKind)(a b:Int)(st:St):ib .neq k a k b st= .ok (.bool (!decide (a=b))) st:=by simp[ib,iU]
@[simp] theorem bK (k:IntKind)(a b:Int)(st:St):ib .lss k a k b st= .ok (.bool (decide (a<b))) st:=by simp[ib,iU]
@[simp] theorem il (k:IntKind)(a b:Int)(st:St):ib .leq k a k b st= .ok (.bool (decide (a<=b))) st:=by simp[ib,iU]
@[simp] theorem cC (k:IntKind)(a b:Int)(st:St):ib .gtr k a k b st= .ok (.bool (decide (b<a))) st:=by simp[ib,iU]
@[simp] theorem gJ (k:IntKind)(a b:Int)(st:St):ib .geq k a k b st= .ok (.bool (decide (b<=a))) st:=by simp[ib,iU]
@[simp] theorem fV (op:BinOp)(d:Option gH)(c:Bool)(a b:List UInt8)(st:St):ai op d c (.str a) (.str b) st=mE op a b st:=id rfl
theorem bN {x:Int}(h: -9223372036854775808<=x/\x<=9223372036854775807):IntKind.i64.wrap x=x:=IntWalk.i64_in _ h
@[simp] theorem bD (c:Bool)(b o:Nat)(st:St):ai .eql (some .ptr) c (.ptr b o) .aC st= .ok (.bool false) st:=id rfl
@[simp] theorem FU (c:Bool)(b o:Nat)(st:St):ai .neq (some .ptr) c (.ptr b o) .aC st= .ok (.bool true) st:=id rfl
@[simp] theorem Ir (c:Bool)(st:St):ai .eql (some .slice) c .aa .aa st= .ok (.bool true) st:=id rfl
@[simp] theorem bt (b:Bool)(st:St):fA .not (.bool b) st= .ok (.bool (!b)) st:=id rfl
def SK (o:Option Bool)(st:St):OR:=match o with|some b=> .ok (.bool b) st|none=> .bad
@[simp] theorem Nr (b:Bool)(st:St):SK (some b) st= .ok (.bool b) st:=id rfl
theorem o5 (d:gH)(c:Bool)(s t:List CV)(st:St):ai .eql (some d) c (.agg s) (.agg t) st=SK (jx d (.agg s) (.agg t)) st:=by
 simp only[ai,Mc,Cp];cases jx d (.agg s) (.agg t)<;>rfl
theorem vT (d:gH)(c:Bool)(s t:List CV)(st:St):ai .neq (some d) c (.agg s) (.agg t) st=SK ((jx d (.agg s) (.agg t)).map (!·)) st:=by
 simp only[ai,Mc,Cp];cases jx d (.agg s) (.agg t)<;>rfl
@[simp] theorem ay (a:CV)(l:List CV)(st:St):aB (.tuple (a::l)) 0 st= .ok a st:=id rfl
@[simp] theorem aL (a:CV)(l:List CV)(i:Nat)(st:St):aB (.tuple (a::l)) (i+1) st=aB (.tuple l) i st:=id rfl
@[simp] theorem dE (b o l c g:Nat)(st:St):bO .slice (.slice b o l c g) st= .ok (.int .i64 l) st:=id rfl
@[simp] theorem xJ (l:List UInt8)(st:St):bO .str (.str l) st= .ok (.int .i64 l.length) st:=id rfl
@[simp] theorem oX (fn:Fn)(f c:List CV)(st:St):mH fn f c st= .ok (.func fn f c) st:=id rfl
def JW (o:Option mc)(k:List CV->Prop):Prop:=match o with|some (.cells l _ _)=>k l|some (.ro l _)=>k l|_=>False
def SJ (o:Option mc)(k:List CV->TypeId->Bool->Prop):Prop:=match o with|some (.cells l t g)=>k l t g|_=>False
def WI (o:Option CV)(k:CV->Prop):Prop:=match o with|some v=>k v|none=>False
def Nq (o:Option (List CV))(k:List CV->Prop):Prop:=match o with|some v=>k v|none=>False
@[simp] theorem ao (l:List CV)(t:TypeId)(g:Bool)(k:List CV->Prop):JW (some (.cells l t g)) k=k l:=id rfl
@[simp] theorem bg (l:List CV)(t:TypeId)(g:Bool)(k:List CV->TypeId->Bool->Prop):SJ (some (.cells l t g)) k=k l t g:=id rfl
@[simp] theorem au (v:CV)(k:CV->Prop):WI (some v) k=k v:=id rfl
@[simp] theorem rW (v:List CV)(k:List CV->Prop):Nq (some v) k=k v:=id rfl
@[simp] theorem av (b off:Nat)(st:St)(k:CV->Prop):us (aw (.ptr b off) st) k=JW (st.mem.get b) fun l=>WI l[off]? k:=by
  simp only[aw];cases st.mem.get b with
  |none=>rfl
  |some blk=>cases blk<;>first|rfl|(rename_i l t g;simp only[JW];cases l[off]?<;>rfl)|(rename_i l _;simp only[JW];cases l[off]?<;>rfl)
@[simp] theorem jA (n b off:Nat)(st:St)(k:CV->Prop):us (aP n (.ptr b off) st) k=JW (st.mem.get b) fun l=>Nq (fG l off n) fun s=>k (.agg s):=by
  simp only[aP];cases st.mem.get b with
  |none=>rfl
  |some blk=>cases blk<;>first|rfl|(rename_i l t g;simp only[JW];cases fG l off n<;>rfl)|(rename_i l _;simp only[JW];cases fG l off n<;>rfl)
@[simp] theorem aV (b o:Nat)(st:St):cz (.ptr b o) st= .ok (.ptr b o) st:=id rfl
@[simp] theorem af (off b o:Nat)(st:St):al off (.ptr b o) st= .ok (.ptr b (o+off)) st:=id rfl
@[simp] theorem mz (k:IntKind)(n:Int):CV.bL (.int k n)=[.int k n]:=id rfl
@[simp] theorem L7 (b:Bool):CV.bL (.bool b)=[.bool b]:=id rfl
@[simp] theorem JN (b o l c g:Nat):CV.bL (.slice b o l c g)=[.slice b o l c g]:=id rfl
@[simp] theorem FQ:CV.bL .aa=[.aa]:=id rfl
@[simp] theorem M9 (b o:Nat):CV.bL (.ptr b o)=[.ptr b o]:=id rfl
@[simp] theorem Na (b:Nat):CV.bL (.map b)=[.map b]:=id rfl
@[simp] theorem Dl (l:List UInt8):CV.bL (.str l)=[.str l]:=id rfl
@[simp] theorem ba (l:List CV):CV.bL (.agg l)=l:=id rfl
@[simp] theorem Mj (k:IntKind)(n:Int):CV.isAny (.int k n)=false:=id rfl
@[simp] theorem Kj (b:Bool):CV.isAny (.bool b)=false:=id rfl
@[simp] theorem Iz (b o l c g:Nat):CV.isAny (.slice b o l c g)=false:=id rfl
@[simp] theorem Mh (b o:Nat):CV.isAny (.ptr b o)=false:=id rfl
@[simp] theorem Mi (b:Nat):CV.isAny (.map b)=false:=id rfl
@[simp] theorem Mg (l:List UInt8):CV.isAny (.str l)=false:=id rfl
@[simp] theorem Mk (l:List CV):CV.isAny (.agg l)=false:=id rfl
@[simp] theorem GP:bu []=true:=id rfl
@[simp] theorem tR (v:CV)(l:List CV):bu (v::l)=(bW v&&bu l):=id rfl
@[simp] theorem mK (l:List UInt8):bu (l.map bo)=true:=by
  simp only[bu,List.all_eq_true,agJ];rintro x ⟨b,_,rfl⟩;rfl
@[simp] theorem Iu (k:IntKind)(n:Int):bW (.int k n)=true:=id rfl
@[simp] theorem GQ (b:Bool):bW (.bool b)=true:=id rfl
@[simp] theorem BH:bW .aa=true:=id rfl
@[simp] theorem It (b:Nat):bW (.map b)=true:=id rfl
def bB (l:List CV)(off:Nat)(t:List CV):List CV:=l.take off++(t++l.drop (off+t.length))
@[simp] theorem aQ (n b off:Nat)(x:CV)(st:St)(k:CV->St->Prop):upon (aT n (.ptr b off) x st) k=
 SJ (st.mem.get b) fun l t g=>(x.bL.length=n/\bu x.bL=true/\off+n<=l.length)/\k .undef (St.set st b (.cells (bB l off x.bL) t g)):=by
  simp only[aT];cases st.mem.get b with
  |none=>rfl
  |some blk=>
   cases blk with
   |cells l t g=>
    simp only[SJ,aO,agp,agA]
    by_cases h:x.bL.length=n/\bu x.bL=true
    ·rw[agl h];obtain⟨rfl,h2⟩:=h;unfold dM
     by_cases h3:off+x.bL.length<=l.length
     ·rw[agl h3];simp only[upon,bB,h2,h3,true_and]
      rfl
     ·rw[agf h3];simp[upon,h3]
    ·rw[agf h];simp only[upon,eq_iff_iff,false_iff];rintro⟨⟨h1,h2,_⟩,_⟩;exact h ⟨h1,h2⟩
   |map es c=>rfl
   |lmap es=>rfl
   |ro l o=>rfl
@[simp] theorem Dh (st:St)(b:Nat)(blk:mc):(St.set st b blk).next=st.next:=id rfl
theorem As (st:St)(b q:Nat)(blk:mc):(St.set st b blk).mem.get q=if q=b then some blk else st.mem.get q:=rfl
@[simp] theorem az (st:St)(b:Nat)(blk:mc):(St.set st b blk).mem.get b=some blk:=by simp[As]
theorem aq (st:St)(b q:Nat)(blk:mc)(h:q≠b):(St.set st b blk).mem.get q=st.mem.get q:=by simp[As,h]
@[simp] theorem pf (st:St)(blk:mc):(St.new st blk).next=st.next+1:=id rfl
theorem vY (st:St)(q:Nat)(blk:mc):(St.new st blk).mem.get q=if q=st.next then some blk else st.mem.get q:=rfl
@[simp] theorem aG (st:St)(blk:mc):(St.new st blk).mem.get st.next=some blk:=by simp[vY]
theorem aU (st:St)(q:Nat)(blk:mc)(h:q<st.next):(St.new st blk).mem.get q=st.mem.get q:=by simp[vY,Nat.ne_of_lt h]
@[simp] theorem Bq (st:St):(St.skip st).next=st.next+1:=id rfl
@[simp] theorem xh (st:St):(St.skip st).mem=st.mem:=id rfl
@[simp] theorem cn (t:TypeId)(z:List CV)(st:St):dd t z st= .ok (.ptr st.next 0) (St.new st (.cells z t false)):=id rfl
@[simp] theorem ft (st:St):fU none st= .ok (.map st.next) (St.new st (.map [] 0)):=id rfl
@[simp] theorem br (t:TypeId)(x:CV)(st:St)(k:CV->St->Prop):upon (eO t x st) k=(x.isAny=false/\k (.ptr st.next 0) (St.new st (.cells x.bL t false))):=by
  unfold eO;cases h:x.isAny<;>simp
@[simp] theorem GR (c:Prop)[Decidable c](x:List CV)(k:List CV->Prop):Nq (if c then some x else none) k=(c/\k x):=by
  by_cases h:c<;>simp[h,Nq]
@[simp] theorem pa (l:List CV)(off n:Nat)(k:List CV->Prop):Nq (fG l off n) k=(off+n<=l.length/\k ((l.drop off).take n)):=by
  unfold fG;exact GR _ _ _
@[simp] theorem nf (st:St)(b:Nat)(x y:mc):St.set (St.set st b x) b y=St.set st b y:=by
  simp only[St.set,St.mk.injEq,and_true];exact PT.ext fun p=>by simp only[PT.np];split<;>rfl
@[simp] theorem mJ (l:List CV)(off:Nat)(t:List CV)(h:off+t.length<=l.length):(bB l off t).length=l.length:=by
  simp[bB];omega
theorem eF (z:List CV)(parts:List nI)(st:St):bf z parts st=match eZ parts z with|some s=> .ok (.agg s) st|none=> .bad:=by
 unfold bf;cases eZ parts z<;>rfl
theorem dG (off size:Nat)(x:CV)(l:List nI)(s:List CV):eZ ((off,size,x)::l) s=if (x.bL.length=size/\x.isAny=false)/\off+x.bL.length<=s.length then eZ l (bB s off x.bL)else none:=by
 have e:eZ ((off,size,x)::l) s=bk (Nat.beq x.bL.length size&& !x.isAny) (Option.rec none (fun s'=>eZ l s') (dM s off x.bL)) none:=rfl;rw[e];simp only[aO,agp,agA,aib]
 by_cases h:x.bL.length=size/\x.isAny=false
 ·simp only[h,and_self,ags,true_and];unfold dM bB
  by_cases h2:off+x.bL.length<=s.length
  ·rw[agl h2,agl (by rw[<-h.1];exact h2)]
  ·rw[agf h2,agf (by rw[<-h.1];exact h2)]
 ·rw[agf h,agf (fun h2=>h h2.1)]
@[simp] theorem nq (s:List CV):eZ [] s=some s:=id rfl
def dw (st:St):Prop:=∀b,st.next<=b->st.mem.get b=none
theorem dw.new {st:St}(h:dw st)(blk:mc):dw (St.new st blk):=fun b hb=>by
 simp only[pf]at hb;rw[vY,agf (by omega)];exact h b (by omega)
theorem dw.skip {st:St}(h:dw st):dw (St.skip st):=fun b hb=>h b (by simp only[Bq]at hb;omega)
theorem dw.set {st:St}(h:dw st){p:Nat}(hp:p<st.next)(blk:mc):dw (St.set st p blk):=fun b hb=>by
 simp only[Dh]at hb;rw[aq _ _ _ _ (by omega)];exact h b hb
structure Kp (F:List Nat)(st st':St):Prop where
 next:st.next<=st'.next
 keep:∀b,(_:b<st.next:=by omega)->(_:b∉F:=by simp)->st'.mem.get b=st.mem.get b
 fresh:dw st->dw st'
theorem Kp.refl (F:List Nat)(st:St):Kp F st st:=⟨aga _,fun _ _ _=>rfl,id⟩
theorem Kp.trans {F G:List Nat}{a b c:St}(h:Kp F a b)(k:Kp G b c)(hg:∀q∈G,q∈F\/a.next<=q:=by simp):Kp F a c:=
 ⟨aha h.next k.next,fun q h1 h2=>by rw[k.keep q (ago h1 h.next) (fun h3=>by rcases hg q h3 with h4|h4;exact h2 h4;omega),h.keep q h1 h2],fun hf=>k.fresh (h.fresh hf)⟩
theorem Kp.new {F:List Nat}{a b:St}(h:Kp F a b)(blk:mc):Kp F a (St.new b blk):=
 ⟨by have:=h.next;simp;omega,fun q h1 h2=>by rw[aU _ _ _ (ago h1 h.next),h.keep q h1 h2],fun hf=>(h.fresh hf).new _⟩
theorem Kp.skip {F:List Nat}{a b:St}(h:Kp F a b):Kp F a (St.skip b):=⟨by have:=h.next;simp;omega,fun q h1 h2=>h.keep q h1 h2,fun hf=>(h.fresh hf).skip⟩
theorem Kp.set {F:List Nat}{a b:St}(h:Kp F a b){p:Nat}(blk:mc)(hp:p∈F\/a.next<=p)(hl:p<b.next):Kp F a (St.set b p blk):=
 ⟨h.next,fun q h1 h2=>by rw[aq _ _ _ _ (fun e=>by subst e;rcases hp with h3|h3;exact h2 h3;omega),h.keep q h1 h2],fun hf=>(h.fresh hf).set hl _⟩
theorem Kp.mono {F G:List Nat}{a b:St}(h:Kp F a b)(hs:∀q∈F,q∈G\/a.next<=q):Kp G a b:=
 ⟨h.next,fun q h1 h2=>h.keep q h1 fun h3=>by rcases hs q h3 with h4|h4;exact h2 h4;omega,h.fresh⟩
theorem da {s s1:St}{b:mc}(h:St.new s b=s1):Kp [] s s1/\s1.mem.get s.next=some b/\s1.next=s.next+1:=by
 subst h;exact⟨(Kp.refl [] s).new _,aG _ _,rfl⟩
theorem mG {b e n:Nat}{z:List CV}{parts:List nI}{st:St}{s:List CV}(h:st.mem.get b=none)(hs:eZ parts z=some s):dW b e n z parts st= .ok (.slice b 0 n n 0) (St.set st b (.cells s e false)):=by
 unfold dW;rw[h,hs];rfl
theorem Ax {k n b:Nat}{z s:List CV}{e:TypeId}{g:Bool}{st:St}(h:st.mem.get b=some (.cells s e g))(hn:0<n)(hs:s.length=n*k):dJ .slice k z (.slice b 0 n n 0) st=some (n,s):=by
 have e0:dJ .slice k z (.slice b 0 n n 0) st=(match cY k n (.slice b 0 n n 0) st with|some s=>some (n,s)|none=>none):=rfl
 have e1:cY k n (.slice b 0 n n 0) st=some s:=by
  have e2:cY k n (.slice b 0 n n 0) st=bk (Nat.beq n 0) (some []) (bk (Bool.or (Nat.beq 0 0) (Nat.ble n n)) (match st.mem.get b with|some (.cells s _ _)=>fG s 0 (n*k)|some (.ro s _)=>fG s 0 (n*k)|_=>none) none):=rfl;have e3:Nat.beq n 0=false:=by cases h:Nat.beq n 0 with|false=>rfl|true=>rw[agA]at h;omega
  rw[e2,e3,h];simp only[aO,afY,agn];rw[agl (by simp)];unfold fG;rw[agl (by omega),agC,agk (by omega)]
 rw[e0,e1]
def Bv (W:World)(b:Nat):Option (Array Value×TypeId×Nat×Nat):=match W.heap[b]? with
 |some (.cells c t (lo,hi))=>some (c,t,lo,hi)
 |_=>none
def tH (W:World)(N:Nat):Ren:=fun b=>if b<N then some (b,match Bv W b with|some (c,_)=>c.size|none=>0)else none
def HW (N:Nat):Value->CV
 | .int k n=> .int k n
 | .string s=> .str s.data.toList
 | .bool b=> .bool b
 | .slice none 0 0=> .aa
 | .slice (some ⟨b,off,none⟩) len cap=>if b<N then .slice b off len cap 0 else (if len=0/\cap=0 then .lx else .any)
 | .slice (some _) 0 0=> .lx
 |_=> .any
def J1 (W:World)(N:Nat):PT mc:=fun b=>(Bv W b).map fun x=> .ro (x.1.toList.map (HW N)) (.cells x.1 x.2.1 (x.2.2.1,x.2.2.2))
def Ip (W:World)(N:Nat):St:=⟨J1 W N,N⟩
theorem HV (W:World)(N:Nat)(v:Value):VR (tH W N) (HW N v) v:=by
 unfold HW
 split
 ·exact .int _ _
 ·rename_i s;have:=VR.str (ρ:=tH W N) s.data.toList
  rwa [uj]at this
 ·exact .bool _
 ·exact .aa
 ·split
  ·rename_i b off len cap h;exact .slice b off len cap b _ (by unfold tH;rw[agl h])
  ·split
   ·rename_i h;obtain⟨rfl,rfl⟩:=h;exact .lx _
   ·exact .any _
 ·exact .lx _
 ·exact .any _
theorem Bu {W:World}{b:Nat}{c:Array Value}{t:TypeId}{lo hi:Nat}(h:Bv W b=some (c,t,lo,hi)):W.heap[b]?=some (.cells c t (lo,hi)):=by
 unfold Bv at h
 split at h
 ·rename_i e;rw[e];cases h;rfl
 ·cases h
theorem vn {W:World}{N b:Nat}{blk:mc}(h:(Ip W N).mem.get b=some blk):b<W.heap.size/\∃c t lo hi,W.heap[b]?=some (.cells c t (lo,hi))/\Bv W b=some (c,t,lo,hi)/\blk= .ro (c.toList.map (HW N)) (.cells c t (lo,hi)):=by
 have h:J1 W N b=some blk:=h;unfold J1 at h;cases hr:Bv W b with
 |none=>rw[hr]at h;cases h
 |some x=>
  rw[hr]at h;obtain⟨c,t,lo,hi⟩:=x;have h1:=Bu hr;cases h;refine⟨?_,c,t,lo,hi,h1,rfl,rfl⟩;rcases ahD b W.heap.size with h2|h2
  ·exact h2
  ·rw[Array.getElem?_eq_none h2]at h1;cases h1
theorem LO (W:World)(N:Nat):WR (tH W N) (Ip W N) W:=by
 refine⟨fun b blk r sz h1 h2=> ?_,fun b b' blk dz r sz C7 h1 h2 h3 h4=> ?_,fun b x h=> ?_⟩
 ·obtain⟨_,c,t,lo,hi,e1,e2,rfl⟩:=vn h1;unfold tH at h2
  split at h2
  ·rw[e2]at h2;cases h2;refine⟨_,e1, .ro _ c t lo hi (by simp) ⟨by simp,fun i v v' a b=> ?_⟩⟩;rw[agB]at a;rw[ahn]at b
   split at b
   ·rw[b]at a;cases a;exact HV W N v'
   ·cases b
  ·cases h2
 ·unfold tH at h3 h4
  split at h3
  ·split at h4
   ·cases h3;cases h4;rfl
   ·cases h4
  ·cases h3
 ·unfold tH at h;show b<N
  split at h
  ·assumption
  ·cases h
theorem Bo {W:World}{N:Nat}(h:W.heap.size<=N):dw (Ip W N):=fun b hb=>by
 cases hm:(Ip W N).mem.get b with
 |none=>rfl
 |some blk=>have:=(vn hm).1;have:N<=b:=hb;omega
abbrev I (n:Int):CV:= .int .i64 n
def aj (l:List UInt8):List CV:=l.map bo
@[simp] theorem bJ (l:List UInt8):(aj l).length=l.length:=by simp[aj]
def Sl (st:St)(X:List Nat)(v:CV)(k:Nat)(L:List CV):Prop:=
 (v= .aa/\L=[])\/
 ∃b off len cap grow,v= .slice b off len cap grow/\L.length=len*k/\(len<=cap/\(grow=0\/grow=k))/\
  (len=0\/(b∉X/\b<st.next/\∃l t g,st.mem.get b=some (.cells l t g)/\off+len*k<=l.length/\(l.drop off).take (len*k)=L))
theorem Sl.mono {st st':St}{X:List Nat}{v:CV}{k:Nat}{L:List CV}(h:Sl st X v k L)(hk:Kp X st st'):Sl st' X v k L:=by
 rcases h with h|⟨b,off,len,cap,grow,h1,h2,h3,h4⟩
 ·exact .inl h
 ·refine .inr ⟨b,off,len,cap,grow,h1,h2,h3, ?_⟩;rcases h4 with h4|⟨h5,h6,l,t,g,h7,h8⟩
  ·exact .inl h4
  ·exact .inr ⟨h5,ago h6 hk.next,l,t,g,by rw[hk.keep b h6 h5];exact h7,h8⟩
theorem Sl.oE {st:St}{X Y:List Nat}{v:CV}{k:Nat}{L:List CV}(h:Sl st X v k L)(hy:∀q∈Y,q∈X\/st.next<=q):Sl st Y v k L:=by
 rcases h with h|⟨b,off,len,cap,grow,h1,h2,h3,h4⟩
 ·exact .inl h
 ·refine .inr ⟨b,off,len,cap,grow,h1,h2,h3, ?_⟩;rcases h4 with h4|⟨h5,h6,h7⟩
  ·exact .inl h4
  ·exact .inr ⟨fun hq=>by rcases hy b hq with h|h;exact h5 h;omega,h6,h7⟩
theorem Sl.len {st:St}{X:List Nat}{v:CV}{k:Nat}{L:List CV}(h:Sl st X v k L)(n:Nat)(hn:L.length=n*k)(hk:0<k)(s:St):bO .slice v s= .ok (I n) s:=by
 rcases h with⟨rfl,rfl⟩|⟨b,off,len,cap,grow,rfl,h2,_⟩
 ·have:n=0:=by
   rcases Nat.mul_eq_zero.1 (show n*k=0 from by simpa using hn.symm)with h|h<;>omega
  subst this;rfl
 ·have:len=n:=ahw hk (by rw[<-h2,hn]);subst this;rfl
theorem pT (k n b off len cap grow:Nat)(st:St):cY k n (.slice b off len cap grow) st=if n=0 then some []else if grow=0\/n<=len then (match st.mem.get b with|some (.cells s _ _)=>fG s off (n*k)|some (.ro s _)=>fG s off (n*k)|_=>none)else none:=by
 have e:cY k n (.slice b off len cap grow) st=bk (Nat.beq n 0) (some []) (bk (Bool.or (Nat.beq grow 0) (Nat.ble n len)) (match st.mem.get b with|some (.cells s _ _)=>fG s off (n*k)|some (.ro s _)=>fG s off (n*k)|_=>none) none):=rfl;rw[e];simp only[aO,agA,agU,agw]
theorem Sl.cells {st:St}{X:List Nat}{b off len cap grow k:Nat}{L:List CV}(h:Sl st X (.slice b off len cap grow) k L):L.length=len*k/\cY k len (.slice b off len cap grow) st=some L:=by
 rcases h with⟨h,_⟩|⟨b',cx,Kc,cap',Yi,h1,h2,h3,h4⟩
 ·cases h
 ·cases h1;refine⟨h2, ?_⟩;rw[pT]
  by_cases h0:len=0
  ·subst h0;have:L=[]:=by apply agu.1;simpa using h2
   subst this;rfl
  ·rcases h4 with h4|⟨_,_,l,t,g,h7,h8,h9⟩
   ·exact absurd h4 h0
   ·rw[agf h0,agl (.inr (aga _)),h7];unfold fG;dsimp only;rw[agl h8,h9]
theorem Sl.src {st:St}{X:List Nat}{v:CV}{k:Nat}{L:List CV}(h:Sl st X v k L)(z:List CV):∃n,L.length=n*k/\dJ .slice k z v st=some (n,L):=by
 have h':=h;rcases h with⟨rfl,rfl⟩|⟨b,off,len,cap,grow,rfl,h2,h3,h4⟩
 ·exact⟨0,by simp,rfl⟩
 ·refine⟨len,h2, ?_⟩;have e:dJ .slice k z (.slice b off len cap grow) st=(match cY k len (.slice b off len cap grow) st with|some s=>some (len,s)|none=>none):=rfl;rw[e,h'.cells.2]
theorem Sl.idx {st:St}{X:List Nat}{v:CV}{L:List CV}(h:Sl st X v 1 L){i:Nat}(hi:i<L.length)(k:CV->Prop)(hk:k L[i]):Lim.idx 1 v (I i) st k:=by
 rcases h with⟨rfl,rfl⟩|⟨b,off,len,cap,grow,rfl,h2,h3,h4⟩
 ·simp at hi
 ·have hl:L.length=len:=by simpa using h2
  rcases h4 with h4|⟨_,_,l,t,g,h7,h8,h9⟩
  ·omega
  ·have hc:(Bool.and (Nat.ble (Nat.succ i) len) (Bool.or (Nat.beq grow 0) (Nat.ble len cap)))=true:=by
    simp only[agp,agU,agw,agA];exact⟨by omega, .inr h3.1⟩
   have e:cm 1 (.slice b off len cap grow) (I i) st= .ok (.ptr b (off+i*1)) st:=by
    show bk _ _ _=_;rw[aO,agl hc];rfl
   unfold Lim.idx;rw[e];simp only[ae,av,h7,ao,ahJ]
   have:l[off+i]?=some L[i]:=by
    have h9':=h9.symm;rw[agh (by omega)]
    congr 1
    subst h9';simp
   rw[this];exact hk
def Own (st:St)(v:CV)(k e:Nat)(L:List CV)(F:List Nat):Prop:=
 (v= .aa/\L=[]/\F=[])\/
 (∃b l t g,v= .slice b 0 0 0 0/\L=[]/\F=[b]/\st.mem.get b=some (.cells l t g))\/
 (∃b n,v= .slice b 0 n n k/\0<n/\L.length=n*k/\F=[b]/\st.mem.get b=some (.cells L e true))
theorem Own.mono {st st':St}{v:CV}{k e:Nat}{L:List CV}{F:List Nat}(h:Own st v k e L F)(hk:∀b∈F,st'.mem.get b=st.mem.get b):Own st' v k e L F:=by
 rcases h with h|⟨b,l,t,g,h1,h2,h3,h4⟩|⟨b,n,h1,h2,h3,h4,h5⟩
 ·exact .inl h
 ·exact .inr (.inl ⟨b,l,t,g,h1,h2,h3,by rw[hk b (by simp[h3])];exact h4⟩)
 ·exact .inr (.inr ⟨b,n,h1,h2,h3,h4,by rw[hk b (by simp[h4])];exact h5⟩)
theorem Own.sl {st:St}{X:List Nat}{v:CV}{k e:Nat}{L:List CV}{F:List Nat}(h:Own st v k e L F)(hx:∀b∈F,b∉X/\b<st.next):Sl st X v k L:=by
 rcases h with⟨h1,h2,_⟩|⟨b,l,t,g,h1,h2,h3,h4⟩|⟨b,n,h1,h2,h3,h4,h5⟩
 ·exact .inl ⟨h1,h2⟩
 ·exact .inr ⟨b,0,0,0,0,h1,by simp[h2],⟨aga _, .inl rfl⟩, .inl rfl⟩
 ·exact .inr ⟨b,0,n,n,k,h1,h3,⟨aga _, .inr rfl⟩, .inr ⟨(hx b (by simp[h4])).1,(hx b (by simp[h4])).2,L,e,true,h5,by omega,by rw[agC,agk (by omega)]⟩⟩
theorem Own.bW {st:St}{v:CV}{k e:Nat}{L:List CV}{F:List Nat}(h:Own st v k e L F):bW v=true/\v.bL=[v]:=by
 rcases h with⟨rfl,_⟩|⟨b,l,t,g,rfl,_⟩|⟨b,n,rfl,_⟩<;>exact⟨rfl,rfl⟩
theorem Own.append {st:St}{v:CV}{k e n bytes:Nat}{L T:List CV}{F:List Nat}(h:Own st v k e L F)(hk:0<k)(hT:T.length=n*k)(kR:bu T=true)(hF:∀b∈F,b<st.next)
 (hsz:(L.length+T.length)*(bytes+1)<=140737488355328):∃v' st' F',cy e k bytes v (some (n,T)) st= .ok v' st'/\Own st' v' k e (L++T) F'/\Kp F st st'/\(∀b∈F',(b∈F\/b=st.next)/\b<st'.next):=by
 have hm:∀m,m*k<=L.length+T.length->m*bytes<=140737488355328/\m<=140737488355328:=by
  intro m hm;have h1:=aha (by simpa using Nat.mul_le_mul_left m hk) hm;have h2:m*bytes<=(L.length+T.length)*(bytes+1):=Nat.mul_le_mul h1 (by omega);have h3:=aha h1 (by simpa using Nat.mul_le_mul_left (L.length+T.length) (show 1<=bytes+1 by omega));exact⟨by omega,by omega⟩
 by_cases h0:n=0
 ·subst h0;have:T=[]:=by apply agu.1;simpa using hT
  subst this;rw[ahc];refine⟨v,st,F, ?_,h,Kp.refl _ _,fun b hb=>⟨.inl hb,hF b hb⟩⟩;rcases h with⟨rfl,_⟩|⟨b,l,t,g,rfl,_⟩|⟨b,m,rfl,_⟩
  ·rfl
  ·rfl
  ·show bk (Nat.beq 0 0) (bk (Nat.ble m m) _ _) _=_;rw[show Nat.ble m m=true by rw[agw];exact aga _];rfl
 ·have HI:Nat.beq n 0=false:=by cases h:Nat.beq n 0 with|false=>rfl|true=>rw[agA]at h;exact absurd h h0
  have mg:Nat.ble 1 k=true:=by rw[agw];exact hk
  rcases h with⟨rfl,rfl,rfl⟩|⟨b,l,t,g,rfl,rfl,rfl,h4⟩|⟨b,m,rfl,h2,h3,rfl,h5⟩
  ·obtain⟨q1,q2⟩:=hm n (by simp[hT]);refine⟨.slice st.next 0 n n k,⟨st.mem.put st.next (some (.cells T e true)),st.next+1⟩,[st.next], ?_, ?_,(Kp.refl [] st).new _,fun b hb=>⟨.inr (by simpa using hb),by simp at hb;simp;omega⟩⟩
   ·show bk _ _ _=_;rw[HI,mg,show Nat.ble (Nat.mul n bytes) 140737488355328=true by rw[agw];exact q1,show Nat.ble n 140737488355328=true by rw[agw];exact q2];rfl
   ·exact .inr (.inr ⟨st.next,n,rfl,by omega,by simpa using hT,rfl,PT.dF _ _ _⟩)
  ·obtain⟨q1,q2⟩:=hm n (by simp[hT]);refine⟨.slice st.next 0 n n k,⟨st.mem.put st.next (some (.cells T e true)),st.next+1⟩,[st.next], ?_, ?_,(Kp.refl [b] st).new _,fun b hb=>⟨.inr (by simpa using hb),by simp at hb;simp;omega⟩⟩
   ·unfold cy;simp only[HI,aO,afY,agn,dj];have e1:Nat.add 0 n=n:=afZ n;rw[e1,agf (by rw[agw];omega),agl (by simp only[agp,agw];exact⟨hk,q1,q2⟩),h4];simp[fG]
   ·exact .inr (.inr ⟨st.next,n,rfl,by omega,by simpa using hT,rfl,PT.dF _ _ _⟩)
  ·have hlt:=hF b (by simp);obtain⟨q1,q2⟩:=hm (m+n) (by rw[ahm,<-h3,<-hT];exact aga _);refine⟨.slice st.next 0 (m+n) (m+n) k,⟨(st.mem.put b none).put st.next (some (.cells (L++T) e true)),st.next+1⟩,[st.next], ?_, ?_, ?_,fun b hb=>⟨.inr (by simpa using hb),by simp at hb;simp;omega⟩⟩
   ·unfold cy;simp only[HI,aO,afY,agn,dj];rw[show Nat.add m n=m+n from rfl,agf (by rw[agw];omega),agl (by simp only[agp,agw];exact⟨hk,q1,q2⟩),h5];have e2:fG L 0 (m*k)=some L:=by unfold fG;rw[agl (by omega),agC,agk (by omega)]
    dsimp only;rw[e2];dsimp only;rw[agf (by rw[agA];omega),agl (by simp only[agp,agA,agw];exact⟨trivial,trivial,trivial,kR,h2⟩)]
   ·exact .inr (.inr ⟨st.next,m+n,rfl,by omega,by rw[agq,h3,hT,ahm],rfl,PT.dF _ _ _⟩)
   ·refine⟨by simp,fun q h1 h2=> ?_,fun hf q hq=> ?_⟩
    ·show((st.mem.put b none).put st.next _).get q=_;rw[PT.dh _ _ _ _ (by omega),PT.dh _ _ _ _ (by simpa using h2)]
    ·show((st.mem.put b none).put st.next _).get q=_;simp only at hq;rw[PT.dh _ _ _ _ (by omega),PT.dh _ _ _ _ (by omega)];exact hf q (by omega)
abbrev MZ:=List (Int×CV)
def iW:MZ->Int->Option (Nat×CV)
 |[],_=>none
 |p::r,i=>if i=p.1 then some (0,p.2)else (iW r i).map fun q=>(q.1+1,q.2)
def ic:MZ->Int->Option CV
 |[],_=>none
 |p::r,i=>if i=p.1 then some p.2 else ic r i
def jT:MZ->Int->CV->MZ
 |[],i,x=>[(i,x)]
 |p::r,i,x=>if i=p.1 then (i,x)::r else p::jT r i x
def BL:MZ->Int->MZ
 |[],_=>[]
 |p::r,i=>if i=p.1 then r else p::BL r i
theorem uF (m:MZ)(i:Int):ic m i=(iW m i).map (·.2):=by
 induction m with
 |nil=>rfl
 |cons p r ih=>
  simp only[ic,iW]
  split
  ·rfl
  ·rw[ih];cases iW r i<;>rfl
theorem xP (m:MZ)(i j:Int)(x:CV):ic (jT m i x) j=if j=i then some x else ic m j:=by
 induction m with
 |nil=>simp[jT,ic]
 |cons p r ih=>
  simp only[jT]
  split
  ·rename_i h;subst h;simp only[ic];split<;>simp_all
  ·rename_i h;simp only[ic,ih]
   split
   ·rename_i h2;subst h2;rw[agf (fun e=>h e.symm)]
   ·rfl
theorem zK {m:MZ}{i:Int}{j:Nat}{u:CV}(h:iW m i=some (j,u)):m[j]?=some (i,u)/\∀x,jT m i x=m.set j (i,x)/\BL m i=m.eraseIdx j:=by
 induction m generalizing j with
 |nil=>cases h
 |cons p r ih=>
  simp only[iW]at h
  split at h
  ·rename_i e;cases h;subst e;exact⟨rfl,fun x=>⟨by simp[jT],by simp[BL]⟩⟩
  ·rename_i e;cases hf:iW r i with
   |none=>rw[hf]at h;cases h
   |some q=>
    rw[hf]at h;obtain⟨q1,q2⟩:=q;cases h;obtain⟨h1,h2⟩:=ih hf;exact⟨h1,fun x=>⟨by simp[jT,e,(h2 x).1],by simp[BL,e,(h2 x).2]⟩⟩
theorem rZ {m:MZ}{i:Int}(h:iW m i=none):i∉m.map (·.1)/\∀x,jT m i x=m++[(i,x)]/\BL m i=m:=by
 induction m with
 |nil=>exact⟨by simp,fun x=>⟨rfl,rfl⟩⟩
 |cons p r ih=>
  simp only[iW]at h
  split at h
  ·cases h
  ·rename_i e;obtain⟨h1,h2⟩:=ih (by cases hf:iW r i with|none=>rfl|some q=>rw[hf]at h;cases h);exact⟨by simp only[agH,age,ahO];exact⟨e,h1⟩,fun x=>⟨by simp[jT,e,(h2 x).1],by simp[BL,e,(h2 x).2]⟩⟩
theorem mem_keys {m:MZ}{i:Int}:i∈m.map (·.1)↔(ic m i).isSome=true:=by
 induction m with
 |nil=>simp[ic]
 |cons p r ih=>
  simp only[agH,age,ic]
  split
  ·rename_i e;simp[e]
  ·rename_i e;rw[<-ih];simp[e]
theorem lL {m:MZ}(h:(m.map (·.1)).Nodup)(i:Int)(x:CV):((jT m i x).map (·.1)).Nodup:=by
 induction m with
 |nil=>simp[jT]
 |cons p r ih=>
  simp only[jT];simp only[agH,agF]at h
  split
  ·rename_i e;subst e;simpa using h
  ·rename_i e;simp only[agH,agF];refine⟨fun h2=> ?_,ih h.2⟩;rw[mem_keys,xP]at h2
   split at h2
   ·rename_i e2;exact e e2.symm
   ·exact h.1 (mem_keys.2 h2)
def cJ (es:List eK)(m:MZ):Prop:=es.map (fun e=>(e.1,e.2.1))=m.map (fun p=>(I p.1,p.2))
theorem uY {es:List eK}{m:MZ}(h:cJ es m)(i:Int)(j:Nat):ir .int (I i) es j=some ((iW m i).map fun q=>(j+q.1,q.2)):=by
 induction es generalizing m j with
 |nil=>cases m with
  |nil=>rfl
  |cons p r=>simp[cJ]at h
 |cons e es ih=>
  cases m with
  |nil=>simp[cJ]at h
  |cons p r=>
   simp only[cJ,agH,ahM,ahI]at h;obtain⟨⟨h1,h2⟩,h3⟩:=h;have e0:ir .int (I i) (e::es) j=Option.rec none (fun b=>bk b (some (some (j,e.2.1))) (ir .int (I i) es (Nat.succ j))) (jx .int (I i) e.1):=rfl;rw[e0,h1];have e1:jx .int (I i) (I p.1)=some (decide (i=p.1)):=by simp[jx]
   rw[e1];simp only[aO,ahB,iW,ih h3 (j+1),Nat.succ_eq_add_one]
   split
   ·simp[h2]
   ·cases iW r i with
    |none=>rfl
    |some q=>simp only[ahe];congr 3;omega
theorem BK (es:List eK)(i:Nat)(e:eK):rY es i e=es.set i e:=by
 induction es generalizing i with
 |nil=>rfl
 |cons x r ih=>cases i with
  |zero=>rfl
  |succ i=>show x::rY r i e=_;rw[ih];rfl
theorem Cl (es:List eK)(i:Nat):uV es i=es[i]?:=by
 induction es generalizing i with
 |nil=>rfl
 |cons x r ih=>cases i with
  |zero=>rfl
  |succ i=>show uV r i=_;rw[ih];rfl
theorem qd (i:Int):qG .int (I i)=true:=by simp[qG,NG,jx]
def dH (st:St)(b:Nat)(m:MZ):Prop:=∃es c,st.mem.get b=some (.map es c)/\cJ es m/\(m.map (·.1)).Nodup/\(es.map (·.2.2)).Nodup/\∀e∈es,e.2.2<c
def IsMap (st:St)(b:Nat)(m:MZ):Prop:=dH st b m\/∃es,st.mem.get b=some (.lmap es)/\cJ es m/\(m.map (·.1)).Nodup
theorem dH.nd {st:St}{b:Nat}{m:MZ}(h:dH st b m):(m.map (·.1)).Nodup:=by obtain⟨es,c,_,_,h,_⟩:=h;exact h
theorem IsMap.nd {st:St}{b:Nat}{m:MZ}(h:IsMap st b m):(m.map (·.1)).Nodup:=by rcases h with h|⟨es,_,_,h⟩;exact h.nd;exact h
theorem dH.mono {st st':St}{b:Nat}{m:MZ}(h:dH st b m)(hk:st'.mem.get b=st.mem.get b):dH st' b m:=by
 obtain⟨es,c,h1,h2⟩:=h;exact⟨es,c,by rw[hk];exact h1,h2⟩
theorem IsMap.mono {st st':St}{b:Nat}{m:MZ}(h:IsMap st b m)(hk:st'.mem.get b=st.mem.get b):IsMap st' b m:=by
 rcases h with h|⟨es,h1,h2⟩
 ·exact .inl (h.mono hk)
 ·exact .inr ⟨es,by rw[hk];exact h1,h2⟩
theorem dH.new (st:St):dH (St.new st (.map [] 0)) st.next []:=⟨[],0,by simp,rfl,by simp,by simp,by simp⟩
theorem xR {es:List eK}{m:MZ}(h:cJ es m)(i:Int):sb i es=ic m i:=by
 induction es generalizing m with
 |nil=>cases m with
  |nil=>rfl
  |cons p r=>simp[cJ]at h
 |cons e es ih=>
  cases m with
  |nil=>simp[cJ]at h
  |cons p r=>
   simp only[cJ,agH,ahM,ahI]at h;obtain⟨⟨h1,h2⟩,h3⟩:=h;have e0:sb i (e::es)=bk (wh i e.1) (some e.2.1) (sb i es):=rfl;rw[e0,h1,ih h3,h2];simp only[wh,aO,ic,ahB]
theorem IsMap.lookup {st:St}{b:Nat}{m:MZ}(h:IsMap st b m)(z:CV)(ok:Bool)(i:Int)(s:St)(hs:s.mem.get b=st.mem.get b):fO .int z ok (.map b) (I i) s=
 if ok=true then .ok (.tuple [(ic m i).getD z, .bool (ic m i).isSome]) s else .ok ((ic m i).getD z) s:=by
 unfold fO;rw[qd,aO,agl rfl];rcases h with⟨es,c,h1,h2,_⟩|⟨es,h1,h2,_⟩
 ·have e1:lN (.map b) s=none:=by simp[lN,hs,h1]
  have e2:sI (.map b) s=some es:=by simp[sI,hs,h1]
  rw[e1,e2];simp only[uY h2,uF];cases iW m i with
  |none=>simp
  |some q=>simp
 ·have e1:lN (.map b) s=some es:=by simp[lN,hs,h1]
  rw[e1];simp only[oV,BS,xR h2];cases ic m i with
  |none=>simp
  |some u=>simp
theorem cJ.len {es:List eK}{m:MZ}(h:cJ es m):es.length=m.length:=by simpa using congrArg List.length h
theorem cJ.set {es:List eK}{m:MZ}(h:cJ es m)(j:Nat)(i:Int)(x:CV)(bn:Nat):cJ (es.set j (I i,x,bn)) (m.set j (i,x)):=by
 unfold cJ at*;rw[List.map_set,List.map_set,h]
theorem cJ.snoc {es:List eK}{m:MZ}(h:cJ es m)(i:Int)(x:CV)(bn:Nat):cJ (es++[(I i,x,bn)]) (m++[(i,x)]):=by
 unfold cJ at*;simp[h]
theorem cJ.at {es:List eK}{m:MZ}(h:cJ es m){j:Nat}{i:Int}{u:CV}(hj:m[j]?=some (i,u)):∃bn,es[j]?=some (I i,u,bn):=by
 have h1:(es.map fun e=>(e.1,e.2.1))[j]?=some (I i,u):=by rw[h,agB,hj];rfl
 rw[agB]at h1;cases he:es[j]? with
 |none=>rw[he]at h1;cases h1
 |some e=>
  rw[he]at h1;simp only[ahe,ahq,ahI]at h1;exact⟨e.2.2,by rw[<-h1.1,<-h1.2]⟩
theorem Di {es:List eK}{j:Nat}{e e':eK}(h:es[j]?=some e)(hb:e'.2.2=e.2.2):(es.set j e').map (·.2.2)=es.map (·.2.2):=by
 rw[List.map_set];apply ahL;intro k;rw[List.getElem?_set]
 split
 ·rename_i e1;subst e1;obtain⟨h1,h2⟩:=agt.1 h;simp[hb,h1,h2]
 ·rfl
theorem IsMap.update {st:St}{b:Nat}{m:MZ}(h:IsMap st b m)(i:Int)(x:CV):∃blk,ef .int (.map b) (I i) x st= .ok .undef (St.set st b blk)/\IsMap (St.set st b blk) b (jT m i x)/\(dH st b m->dH (St.set st b blk) b (jT m i x)):=by
 rcases h with⟨es,c,h1,h2,h3,h4,h5⟩|⟨es,h1,h2,h3⟩
 ·have key:∃blk,ef .int (.map b) (I i) x st= .ok .undef (St.set st b blk)/\dH (St.set st b blk) b (jT m i x):=by
   unfold ef;rw[qd,aO,agl rfl];simp only[h1,uY h2];cases hf:iW m i with
   |none=>
    simp only[Option.map_none,dj];refine⟨.map (es++[(I i,x,c)]) (c+1),rfl,es++[(I i,x,c)],c+1,by simp, ?_,lL h3 i x, ?_, ?_⟩
    ·rw[((rZ hf).2 x).1];exact h2.snoc i x c
    ·rw[ahp,ahz];refine⟨h4,by simp,fun a ha b hb=> ?_⟩;simp only[agH,List.map_nil,ahu]at hb;obtain⟨e,he,rfl⟩:=agJ.1 ha;have:=h5 e he;omega
    ·intro e he;rcases agz.1 he with he|he
     ·have:=h5 e he;omega
     ·simp only[ahu]at he;subst he;exact Nat.lt_succ_self c
   |some q=>
    obtain⟨j,u⟩:=q;obtain⟨m1,m2⟩:=zK hf;obtain⟨bn,he⟩:=h2.at m1;simp only[ahe,afZ,Cl,he,BK];rw[show uu (I i) (I i)=true by simp[uu,xp],aO,agl rfl];refine⟨.map (es.set j (I i,x,bn)) c,rfl,es.set j (I i,x,bn),c,by simp, ?_,lL h3 i x, ?_, ?_⟩
    ·rw[(m2 x).1];exact h2.set j i x bn
    ·rw[Di (e':=(I i,x,bn)) he rfl];exact h4
    ·intro e hm;rcases List.mem_or_eq_of_mem_set hm with hm|rfl
     ·exact h5 e hm
     ·exact h5 (I i,u,bn) (agK he)
  obtain⟨blk,k1,k2⟩:=key;exact⟨blk,k1, .inl k2,fun _=>k2⟩
 ·have qT:¬dH st b m:=fun ⟨es',c,h,_⟩=>by rw[h1]at h;cases h
  unfold ef;rw[qd,aO,agl rfl];simp only[h1,xF,BS,xR h2]
  have zQ:∀(es:List eK) (m:MZ),cJ es m->ic m i=none->mO i x es=es:=by
   intro es
   induction es with
   |nil=>intro m _ _;rfl
   |cons e es ih=>
    intro m h hs;cases m with
    |nil=>simp[cJ]at h
    |cons p r=>
     simp only[cJ,agH,ahM,ahI]at h;obtain⟨⟨g1,g2⟩,g3⟩:=h;have e0:mO i x (e::es)=bk (wh i e.1) ((e.1,x,e.2.2)::mO i x es) (e::mO i x es):=rfl;simp only[ic]at hs
     split at hs
     ·cases hs
     ·rename_i iJ;have hA:wh i e.1=false:=by rw[g1];simp[wh,iJ]
      rw[e0,hA,ih r g3 hs];rfl
  have Tl:∀(es:List eK) (m:MZ),cJ es m->(m.map (·.1)).Nodup->(ic m i).isSome=true->cJ (mO i x es) (jT m i x):=by
   intro es
   induction es with
   |nil=>intro m h hd hs;cases m with
    |nil=>cases hs
    |cons p r=>simp[cJ]at h
   |cons e es ih=>
    intro m h hd hs;cases m with
    |nil=>cases hs
    |cons p r=>
     simp only[cJ,agH,ahM,ahI]at h;obtain⟨⟨g1,g2⟩,g3⟩:=h;simp only[agH,agF]at hd;have e0:mO i x (e::es)=bk (wh i e.1) ((e.1,x,e.2.2)::mO i x es) (e::mO i x es):=rfl
     by_cases hi:i=p.1
     ·have hA:wh i e.1=true:=by rw[g1];simp[wh,hi]
      have hn:ic r i=none:=by
       cases hg:ic r i with
       |none=>rfl
       |some u=>exact absurd (mem_keys.2 (by rw[<-hi,hg];rfl)) hd.1
      rw[e0,hA,zQ es r g3 hn];simp only[aO,ags,jT,agl hi,cJ,agH,ahM,ahI];exact⟨⟨by rw[g1,hi],trivial⟩,g3⟩
     ·have hA:wh i e.1=false:=by rw[g1];simp[wh,hi]
      have qf:(ic r i).isSome=true:=by simpa[ic,hi]using hs
      rw[e0,hA];simp only[aO,afY,agn,jT,agf hi,cJ,agH,ahM,ahI];exact⟨⟨g1,g2⟩,ih r g3 hd.2 qf⟩
  cases hg:ic m i with
  |none=>
   have hf:iW m i=none:=by
    rw[uF]at hg;cases hf:iW m i with
    |none=>rfl
    |some q=>rw[hf]at hg;cases hg
   refine⟨.lmap (es++[(I i,x,0)]),rfl, .inr ⟨es++[(I i,x,0)],by simp, ?_,lL h3 i x⟩,fun h=>absurd h qT⟩;rw[((rZ hf).2 x).1];exact h2.snoc i x 0
  |some u=>exact⟨.lmap (mO i x es),rfl, .inr ⟨mO i x es,by simp,Tl es m h2 h3 (by rw[hg];rfl),lL h3 i x⟩,fun h=>absurd h qT⟩
theorem fh {α:Type}{L:List (List α)}{w:Nat}(h:∀x∈L,x.length=w):L.flatten.length=L.length*w:=by
 induction L with
 |nil=>simp
 |cons a L ih=>
  rw[ahr,agq,ih (fun x hx=>h x (agO _ hx)),h a (aho ..),agT,ahm,ahW,Nat.add_comm]
theorem uT {α:Type}{L:List (List α)}{w:Nat}(h:∀x∈L,x.length=w)(i:Nat)(hi:i<=L.length):L.flatten.drop (i*w)=(L.drop i).flatten:=by
 induction L generalizing i with
 |nil=>simp
 |cons a L ih=>
  cases i with
  |zero=>simp
  |succ i=>
   rw[ahr,ahm,ahW,List.drop_append,agR (by rw[h a (aho ..)];omega),agE,h a (aho ..),ahU,
    ih (fun x hx=>h x (agO _ hx)) i (by simpa using hi)]
   rfl
theorem Ch {α:Type}{L:List (List α)}{w:Nat}(h:∀x∈L,x.length=w)(i:Nat)(hi:i<=L.length):L.flatten.take (i*w)=(L.take i).flatten:=by
 induction L generalizing i with
 |nil=>simp
 |cons a L ih=>
  cases i with
  |zero=>simp
  |succ i=>
   rw[ahr,ahm,ahW,ahR,agk (by rw[h a (aho ..)];omega),h a (aho ..),ahU,
    ih (fun x hx=>h x (agO _ hx)) i (by simpa using hi)]
   rfl
theorem mR {α:Type}{L:List (List α)}{w:Nat}(h:∀x∈L,x.length=w)(i:Nat)(hi:i<L.length):(L.flatten.drop (i*w)).take w=L[i]:=by
 rw[uT h i (Nat.le_of_lt hi),ahh hi,ahr,ahR,agk (by rw[h _ (agx ..)];omega),h _ (agx ..)];simp
theorem EU {α:Type}{L:List (List α)}{w:Nat}(h:∀x∈L,x.length=w)(i:Nat)(hi:i<L.length)(o n:Nat)(ho:o+n<=w):(L.flatten.drop (i*w+o)).take n=(L[i].drop o).take n:=by
 rw[<-mR h i hi,ahs,List.drop_drop,agV,agD (by omega)]
theorem EV {α:Type}{L:List (List α)}{w:Nat}(h:∀x∈L,x.length=w)(i:Nat)(hi:i<L.length)(o:Nat)(ho:o<w):L.flatten[i*w+o]?=L[i][o]?:=by
 rw[<-mR h i hi,ahn,agl ho,ahS]
theorem Ci {L:List (List CV)}{w:Nat}(h:∀x∈L,x.length=w)(i:Nat)(hi:i<L.length)(x:List CV)(hx:x.length=w):bB L.flatten (i*w) x=(L.set i x).flatten:=by
 unfold bB;rw[Ch h i (Nat.le_of_lt hi),hx,show i*w+w=(i+1)*w by rw[ahm,ahW],uT h (i+1) hi,List.set_eq_take_append_cons_drop,agl hi];simp
theorem bA {body:List CV->St->(List CV->St->Prop)->Prop}(Inv:Nat->List CV->St->Prop)(step:∀n vs s k,Inv n vs s->(∀n' uh s',n'<n->Inv n' uh s'->k uh s')->body vs s k){n:Nat}{vs:List CV}{s:St}(h:Inv n vs s):cf body vs s:=by
 have key:∀m n vs s,n<m->Inv n vs s->uI body m vs s:=by
  intro m
  induction m with
  |zero=>intro n vs s h;omega
  |succ m ih=>intro n vs s h hi;exact step n vs s _ hi fun n' uh s' hn gK=>ih n' uh s' (by omega) gK
 exact⟨n+1,key (n+1) n vs s (by omega) h⟩
def Row (st:St)(v:CV)(k n:Nat)(L:List CV)(b:Nat):Prop:=
 ∃t g gr,v= .slice b 0 n n gr/\(gr=0\/gr=k)/\L.length=n*k/\st.mem.get b=some (.cells L t g)
theorem Row.mono {st st':St}{v:CV}{k n b:Nat}{L:List CV}(h:Row st v k n L b)(hk:st'.mem.get b=st.mem.get b):Row st' v k n L b:=by
 obtain⟨t,g,gr,h1,h2,h3,h4⟩:=h;exact⟨t,g,gr,h1,h2,h3,by rw[hk];exact h4⟩
theorem du {size b off len cap grow:Nat}{i:Nat}(h:i<len)(hg:grow=0\/len<=cap)(st:St):cm size (.slice b off len cap grow) (I i) st= .ok (.ptr b (off+i*size)) st:=by
 have hc:(Bool.and (Nat.ble (Nat.succ i) len) (Bool.or (Nat.beq grow 0) (Nat.ble len cap)))=true:=by
  simp only[agp,agU,agw,agA];exact⟨by omega,hg⟩
 show bk _ _ _=_;rw[aO,agl hc];rfl
theorem Own.keep {F:List Nat}{st st':St}{v:CV}{k e:Nat}{L:List CV}{G:List Nat}(h:Own st v k e L G)(hk:Kp F st st')(hl:∀b∈G,b<st.next/\b∉F):Own st' v k e L G:=
 h.mono fun b hb=>hk.keep b (hl b hb).1 (hl b hb).2
def Made (k e:Nat)(L:List CV)(st:St)(x:CV)(st':St):Prop:=∃F,Kp [] st st'/\Own st' x k e L F/\∀b∈F,st.next<=b/\b<st'.next
theorem Made.sl {k e:Nat}{L:List CV}{st st':St}{x:CV}(h:Made k e L st x st')(X:List Nat)(hX:∀b∈X,b<st.next):Sl st' X x k L:=by
 obtain⟨F,h1,h2,h3⟩:=h;exact h2.sl fun b hb=>⟨fun h=>by have:=hX b h;have:=h3 b hb;omega,(h3 b hb).2⟩
theorem rn (n d cap:Nat):yT (some (I n)) d cap=if n<=cap then some n else none:=by
 have e:yT (some (I n)) d cap=bk (Nat.ble n cap) (some n) none:=rfl;rw[e,aO];simp only[agw]
theorem sP (l h len cap:Nat):jU (some (I l)) (some (I h)) len cap=if l<=h/\h<=cap then some (l,h)else none:=by
 unfold jU;rw[rn]
 by_cases h1:h<=cap<;>by_cases h2:l<=h<;>simp[h1,h2,rn]
theorem wH (l len cap:Nat):jU (some (I l)) none len cap=if l<=len then some (l,len)else none:=by
 unfold jU;have e:yT none len cap=some len:=rfl;rw[e]
 by_cases h2:l<=len<;>simp[h2,rn]
theorem Bf (h len cap:Nat):jU none (some (I h)) len cap=if h<=cap then some (0,h)else none:=by
 unfold jU;have e:yT none 0 h=some 0:=rfl
 by_cases h2:h<=cap<;>simp[h2,rn,e]
theorem rS {k b off len cap grow l h:Nat}{lo hi:Option CV}{st:St}(hb:jU lo hi len cap=some (l,h))(hc:len<=cap)(hg:grow=0\/grow=k):
 ∃cx,cc k (.slice b off len cap grow) lo hi st= .ok (.slice b cx (h-l) (cap-l) grow) st/\(cx=off+l*k\/(l=cap/\cx=off)):=by
 have e:cc k (.slice b off len cap grow) lo hi st=bk (Nat.ble len cap) (match jU lo hi len cap with
  |some (l,h)=>j9 (Nat.sub h l) fun n=>j9 (Nat.sub cap l) fun c=>
   bk (Bool.and (Nat.beq grow 0) (Nat.beq l cap)) (.ok (.slice b off n c grow) st) (j9 (Nat.add off (Nat.mul l k)) fun o=>bk (Bool.or (Nat.beq grow 0) (Nat.beq grow k)) (.ok (.slice b o n c grow) st) .bad)
  |none=> .bad) .bad:=rfl
 rw[e,hb];simp only[dj,aO,agw,agp,agU,agA];rw[agl hc]
 by_cases h1:grow=0/\l=cap
 ·rw[agl h1];exact⟨off,rfl, .inr ⟨h1.2,rfl⟩⟩
 ·rw[agf h1,agl hg];exact⟨_,rfl, .inl rfl⟩
theorem Sl.part {st:St}{X:List Nat}{v:CV}{k n:Nat}{L:List CV}(hs:Sl st X v k L)(hk:0<k)(hn:L.length=n*k){l h:Nat}(h1:l<=h)(h2:h<=n){lo hi:Option CV}(hb:∀cap,n<=cap->jU lo hi n cap=some (l,h))(HI:n=0->jU lo hi 0 0=some (0,0))(s:St):
 ∃v',cc k v lo hi s= .ok v' s/\Sl st X v' k ((L.drop (l*k)).take ((h-l)*k)):=by
 rcases hs with⟨rfl,rfl⟩|⟨b,off,len,cap,grow,rfl,g2,g3,g4⟩
 ·have:n=0:=by
   rcases Nat.mul_eq_zero.1 (show n*k=0 from by simpa using hn.symm)with h|h<;>omega
  refine⟨.aa, ?_, .inl ⟨rfl,by simp⟩⟩;show(match jU lo hi 0 0 with|some _=>OR.ok .aa s|none=> .bad)=_;rw[HI this]
 ·have:len=n:=ahw hk (by rw[<-g2,hn]);subst this;obtain⟨cx,e1,e2⟩:=rS (k:=k) (b:=b) (off:=off) (st:=s) (hb cap g3.1) g3.1 g3.2;have wS:l*k+(h-l)*k=h*k:=by rw[<-ahm];congr 1;omega
  have hhk:=agS k h2;refine⟨_,e1, .inr ⟨b,cx,h-l,cap-l,grow,rfl, ?_,⟨by omega,g3.2⟩, ?_⟩⟩
  ·rw[agy,ahd,hn];omega
  ·by_cases h0:h-l=0
   ·exact .inl h0
   ·right;rcases g4 with g4|⟨g5,g6,c,t,g,g7,g8,g9⟩
    ·omega
    ·have e3:cx=off+l*k:=by rcases e2 with e2|⟨e2,_⟩;exact e2;omega
     subst e3;refine⟨g5,g6,c,t,g,g7,by omega, ?_⟩;rw[<-g9,ahs,List.drop_drop,agV,agD (by omega)]
theorem Sl.lo {st:St}{X:List Nat}{v:CV}{k n:Nat}{L:List CV}(hs:Sl st X v k L)(hk:0<k)(hn:L.length=n*k){l:Nat}(h:l<=n)(s:St):∃v',cc k v (some (I l)) none s= .ok v' s/\Sl st X v' k (L.drop (l*k)):=by
 obtain⟨v',h1,h2⟩:=hs.part hk hn (l:=l) (h:=n) h (aga _) (lo:=some (I l)) (hi:=none) (fun cap hc=>by rw[wH,agl h]) (fun h0=>by rw[wH,agl (by omega)];congr 2;omega) s;refine⟨v',h1, ?_⟩
 rwa [agk (by rw[ahd,hn,Nat.sub_mul];exact aga _)]at h2
theorem Sl.hi {st:St}{X:List Nat}{v:CV}{k n:Nat}{L:List CV}(hs:Sl st X v k L)(hk:0<k)(hn:L.length=n*k){h:Nat}(hh:h<=n)(s:St):∃v',cc k v none (some (I h)) s= .ok v' s/\Sl st X v' k (L.take (h*k)):=by
 obtain⟨v',h1,h2⟩:=hs.part hk hn (l:=0) (h:=h) (Nat.zero_le _) hh (lo:=none) (hi:=some (I h)) (fun cap hc=>by rw[Bf,agl (by omega)]) (fun h0=>by rw[Bf,agl (by omega)];congr 2;omega) s;exact⟨v',h1,by simpa using h2⟩
theorem Sl.both {st:St}{X:List Nat}{v:CV}{k n:Nat}{L:List CV}(hs:Sl st X v k L)(hk:0<k)(hn:L.length=n*k){l h:Nat}(hl:l<=h)(hh:h<=n)(s:St):∃v',cc k v (some (I l)) (some (I h)) s= .ok v' s/\Sl st X v' k ((L.drop (l*k)).take ((h-l)*k)):=
 hs.part hk hn hl hh (fun cap hc=>by rw[sP,agl ⟨hl,by omega⟩]) (fun h0=>by rw[sP,agl ⟨hl,by omega⟩];congr 2<;>omega) s
theorem Sl.str {st:St}{X:List Nat}{v:CV}{l:List UInt8}(hs:Sl st X v 1 (aj l)):bQ .strOf v st= .ok (.str l) st:=by
 rcases hs with⟨rfl,h⟩|⟨b,off,len,cap,grow,rfl,g2,g3,g4⟩
 ·have:l=[]:=by cases l with|nil=>rfl|cons a l=>cases h
  subst this;rfl
 ·have qf:Sl st X (.slice b off len cap grow) 1 (aj l):= .inr ⟨b,off,len,cap,grow,rfl,g2,g3,g4⟩
  have e:bQ .strOf (.slice b off len cap grow) st=(match cY 1 len (.slice b off len cap grow) st with
   |some t=>(match yN t with|some l=> .ok (.str l) st|none=> .bad)
   |_=> .bad):=rfl
  rw[e,qf.cells.2];show(match yN (l.map bo)with|some l=>OR.ok (.str l) st|none=> .bad)=_;rw[vf]
theorem Fp {e k:Nat}{z:List CV}{x:CV}(hz:z.length=k)(hx:x.bL.length=k)(ha:x.isAny=false)(st:St):bI e 1 (cM 1 z) [(0,k,x)] st= .ok (.slice st.next 0 1 1 0) (St.new st (.cells x.bL e false)):=by
 have e1:eZ [(0,k,x)] (cM 1 z)=some x.bL:=by
  have:cM 1 z=z:=by simp[cM]
  rw[dG,agl ⟨⟨hx,ha⟩,by rw[this];omega⟩,this];simp[bB,agR (show z.length<=x.bL.length by omega)]
 unfold bI;rw[e1];rfl
theorem LK {st:St}{v:CV}{k e:Nat}(bytes:Nat){L z:List CV}{F:List Nat}{x:CV}{K:CV->St->Prop}(h:Own st v k e L F)(hk:0<k)(hF:∀b∈F,b<st.next)(hz:z.length=k)(hx:x.bL.length=k)(ha:x.isAny=false)(kR:bu x.bL=true)
 (hsz:(L.length+k)*(bytes+1)<=140737488355328) (hK:∀v' st' F',Own st' v' k e (L++x.bL) F'->Kp F st st'->(∀b∈F',(b∈F\/st.next<=b)/\b<st'.next)->K v' st'):
 upon (bI e 1 (cM 1 z) [(0,k,x)] st) fun x8 s3=>upon (cy e k bytes v (dJ .slice k z x8 s3) s3) K:=by
 rw[Fp hz hx ha,bj];have mg:Kp F st (St.new st (.cells x.bL e false)):=(Kp.refl F st).new _;have h1:Own (St.new st (.cells x.bL e false)) v k e L F:=h.mono fun b hb=>aU _ _ _ (hF b hb);have h2:=Ax (k:=k) (n:=1) (z:=z) (aG st (.cells x.bL e false)) (by omega) (by omega);obtain⟨v',st',F',e1,e2,e3,e4⟩:=h1.append (n:=1) (bytes:=bytes) (T:=x.bL) hk (by omega) kR (fun b hb=>by have:=hF b hb;simp;omega) (by rw[hx];exact hsz);rw[h2,e1,bj];refine hK v' st' F' e2 (mg.trans e3 fun q hq=> .inl hq) fun b hb=>⟨(e4 b hb).1.imp id fun h=>by simp at h;omega,(e4 b hb).2⟩
theorem oK {r:OR}{k k':CV->Prop}(h:us r k)(hk:∀v,k v->k' v):us r k':=by
 cases r with
 |ok v s=>exact hk v h
 |bad=>exact h
theorem pB {k:List CV->St->Prop}{body:(List CV->St->Prop)->Prop}(Inv:List CV->St->Prop)(h1:∀k',(∀vs s,Inv vs s->k' vs s)->body k')(h2:∀vs s,Inv vs s->k vs s):cN k body:=h1 k h2
theorem Sl.Fj {st:St}{X:List Nat}{v:CV}{k:Nat}{L:List CV}(h:Sl st X v k L)(hk:0<k)(n:Nat)(hn:L.length=n*k):cY k n v st=some L/\zL v=some n:=by
 rcases h with⟨rfl,rfl⟩|⟨b,off,len,cap,grow,rfl,g2,g3,g4⟩
 ·have:n=0:=by
   rcases Nat.mul_eq_zero.1 (show n*k=0 from by simpa using hn.symm)with h|h<;>omega
  subst this;exact⟨rfl,rfl⟩
 ·have:len=n:=ahw hk (by rw[<-g2,hn]);subst this;exact⟨(Sl.cells (.inr ⟨b,off,len,cap,grow,rfl,g2,g3,g4⟩)).2,rfl⟩
theorem DK {st:St}{X:List Nat}{v:CV}{T L:List CV}{b off n cap:Nat}{t:TypeId}{g:Bool}(h:Sl st X v 1 T)(hb:st.mem.get b=some (.cells L t g))(hn:T.length<=n)(hl:off+T.length<=L.length)(ho:bu T=true):
 ∃st',jF false 1 (.slice b off n cap 0) v st= .ok (I T.length) st'/\st'.next=st.next/\st'.mem.get b=some (.cells (bB L off T) t g)/\(∀q,q≠b->st'.mem.get q=st.mem.get q):=by
 obtain⟨h1,h2⟩:=h.Fj (by omega) T.length (by omega)
 have e:jF false 1 (.slice b off n cap 0) v st=(match zL v with
  |some m=>(match cellsOf false 1 (min m n) v st with
   |some t=>bk (Nat.beq (min m n) 0) (ri .i64 st 0)
    (bk (Bool.and (bu t) (Bool.or (Nat.beq 0 0) (Nat.ble 1 cap)))
     (match st.mem.get b with
     |some (.cells s ty g)=>Option.rec (Option.rec .bad (fun s'=>ri .i64 ⟨st.mem.put b (some (.cells s' ty g)),st.next⟩ (min m n)) (yq s off t (off+cap*0))) (fun s'=>ri .i64 ⟨st.mem.put b (some (.cells s' ty g)),st.next⟩ (min m n)) (dM s off t)
     |_=> .bad) .bad)
   |none=> .bad)
  |none=> .bad):=by
  unfold jF;cases zL v<;>rfl
 rw[e,h2];dsimp only;rw[agD hn];have e2:cellsOf false 1 T.length v st=some T:=h1;rw[e2];dsimp only;rw[ho,hb]
 by_cases h0:T.length=0
 ·have:=agu.1 h0;subst this;refine⟨st,rfl,rfl, ?_,fun q _=>rfl⟩;rw[hb];simp[bB]
 ·have HI:Nat.beq T.length 0=false:=by cases h:Nat.beq T.length 0 with|false=>rfl|true=>rw[agA]at h;omega
  rw[HI];have e3:dM L off T=some (bB L off T):=by unfold dM;rw[agl hl];rfl
  dsimp only;rw[e3];refine⟨St.set st b (.cells (bB L off T) t g),rfl,rfl,az _ _ _,fun q hq=>aq _ _ _ _ hq⟩
theorem lE {n b l h:Nat}(h1:l<=h)(h2:h<=n)(h3:l<n)(st:St):bM n 1 (.ptr b 0) (some (I l)) (some (I h)) st= .ok (.slice b l (h-l) (n-l) 0) st:=by
 have e:bM n 1 (.ptr b 0) (some (I l)) (some (I h)) st=(match jU (some (I l)) (some (I h)) n n with
  |some (l,h)=>j9 (Nat.sub h l) fun k=>j9 (Nat.sub n l) fun c=>bk (Nat.beq n l) (.ok (.slice b 0 k c 0) st) (j9 (Nat.add 0 (Nat.mul l 1)) fun o=> .ok (.slice b o k c 0) st)
  |none=> .bad):=rfl
 rw[e,sP,agl ⟨h1,h2⟩];simp only[dj,aO,agA];rw[agf (by omega)];have:Nat.add 0 (Nat.mul l 1)=l:=by simp
 rw[this];rfl
theorem jz {b t:Nat}{z:List CV}{g:Bool}{st:St}(h:st.mem.get b=some (.cells z t g)):gO b z t st= .ok (.ptr b 0) st:=by
 unfold gO;rw[h];simp
theorem pW {b off n:Nat}{l:List CV}{t:TypeId}{g:Bool}{st:St}(h:st.mem.get b=some (.cells l t g))(hn:off+n<=l.length):aP n (.ptr b off) st= .ok (.agg ((l.drop off).take n)) st:=by
 have e:fG l off n=some ((l.drop off).take n):=by unfold fG;rw[agl hn]
 unfold aP;simp only[h,e]
theorem aR {b n:Nat}{l:List CV}{t:TypeId}{g:Bool}{st:St}(h:st.mem.get b=some (.cells l t g))(hn:l.length=n):aP n (.ptr b 0) st= .ok (.agg l) st:=by
 rw[pW h (by omega),agC,agk (by omega)]
def P0:Program:=Go.Proofs.Tryz.prog
def lvs (f:Nat):Nat->Option (List Nat):=
 if f=3 then (fun i=>if i=6 then some [1,2,3,7,8]else none)else
 if f=9 then (fun i=>if i=5 then some [0,3,16,17,18]else none)else
 if f=12 then (fun i=>if i=16 then some [0,3,6,12,16,88,89]else none)else
 if f=16 then (fun i=>if i=4 then some [5,6,14,15,16]else none)else
 if f=17 then (fun i=>if i=4 then some [5,6,16,17,18]else none)else
 if f=28 then (fun i=>if i=7 then some [0,4,26,27]else none)else
 if f=37 then (fun i=>if i=2 then some [23,24,25]else none)else
 if f=38 then (fun i=>if i=11 then some [0,10,12]else if i=16 then some [15,61,62,63]else none)else
 if f=39 then (fun i=>if i=5 then some [0,4,6,7,8,9,28,29,30]else if i=18 then some [0,4,6,7,8,9,12,28,29,30,78,79]else if i=30 then some [0,4,6,7,8,9,14,16,28,29,30,120,121,122]else if i=39 then some [4,6,7,8,9,19]else none)else
 if f=42 then (fun i=>if i=2 then some [0,1,15,16]else none)else
 if f=44 then (fun i=>if i=6 then some [0,5,31,32,33]else none)else
 if f=50 then (fun i=>if i=10 then some [7]else none)else
 if f=53 then (fun i=>if i=3 then some [2,3,14,15,16]else none)else
 if f=56 then (fun i=>if i=8 then some [1,12,57,58]else none)else
 if f=58 then (fun i=>if i=3 then some [3,6,7,8]else none)else
 if f=59 then (fun i=>if i=2 then some [0,11,12,13]else if i=5 then some [0,7,11,12,13]else none)else
 if f=60 then (fun i=>if i=2 then some [0,1,19,20,21]else none)else
 if f=62 then (fun i=>if i=10 then some [0,5]else none)else
 if f=76 then (fun i=>if i=4 then some [2,5,47,48]else none)else
 if f=78 then (fun i=>if i=7 then some [4,5,7,27,28]else if i=13 then some [4,5,7,70,71]else none)else
 if f=87 then (fun i=>if i=5 then some [0,1]else if i=9 then some [0,1,5,6]else if i=12 then some [0,1,5,7]else none)else
 if f=94 then (fun i=>if i=1 then some [0,1,6,7]else none)else
 if f=95 then (fun i=>if i=1 then some [0,1,9,10,11]else none)else
 if f=98 then (fun i=>if i=4 then some [0,4,5,6]else none)else
 if f=106 then (fun i=>if i=3 then some [0,1]else none)else
 if f=107 then (fun i=>if i=3 then some [0,1]else none)else
 if f=117 then (fun i=>if i=6 then some [0,3,4,5,34,35,36]else if i=18 then some [0,2,3,4,5,13,78,79,80]else none)else
 if f=119 then (fun i=>if i=5 then some [0,3,25,26,27]else if i=10 then some [3,45,46,47]else none)else
 if f=122 then (fun i=>if i=4 then some [0,1,12,13]else none)else
 if f=130 then (fun i=>if i=4 then some [3,12,13]else none)else
 if f=137 then (fun i=>if i=3 then some [1,2,4,5,16]else none)else
 if f=145 then (fun i=>if i=3 then some [4,7,8,9]else none)else
 if f=152 then (fun i=>if i=4 then some [4,6,7]else if i=9 then some [4,7,8]else none)else
 if f=157 then (fun i=>if i=4 then some [0,3]else if i=9 then some [0,3,4,5]else none)else
 if f=158 then (fun i=>if i=2 then some [0,1,7,8]else none)else
 if f=159 then (fun i=>if i=2 then some [0,1,7,8]else none)else
 if f=165 then (fun i=>if i=3 then some [1,2,3,5]else if i=9 then some [1,2,3]else none)else
 if f=168 then (fun i=>if i=2 then some [0,1,2,3,8,9]else if i=10 then some [0,1,2,3,8,9,10]else if i=15 then some [0,1,2,3,8,9,10,11,12]else if i=17 then some [0,1,2,3,8,9,10,11]else none)else
 if f=178 then (fun i=>if i=4 then some [0,2]else if i=7 then some [0,2]else if i=10 then some [0,2]else none)else
 if f=180 then (fun i=>if i=6 then some [0,2,4,5,18,19]else if i=10 then some [0,2,4,5]else if i=11 then some [0,2,4,5,6]else none)else
 if f=181 then (fun i=>if i=3 then some [0,2,4,7,16,17]else none)else
 if f=183 then (fun i=>if i=2 then some [1,5]else none)else
 if f=184 then (fun i=>if i=1 then some [0,1,2,6]else if i=4 then some [0,1,2,6,7]else none)else
 if f=199 then (fun i=>if i=8 then some [4,5]else none)else
 if f=200 then (fun i=>if i=2 then some [1,7,8,9]else if i=10 then some [1,5]else none)else
 if f=204 then (fun i=>if i=3 then some [3,6,7,8]else none)else
 if f=212 then (fun i=>if i=2 then some [0,1,7,8]else none)else
 fun _=>none
set_option maxRecDepth 100000
def gP (es:List eK):List Int:=es.map fun e=>match e.1 with| .int _ a=>a|_=>0
def jX (l:List Int):List Int:=l.mergeSort fun a b=>decide (a<=b)
def mY (es:List eK):Prop:=(∀e∈es,∃a:Int,e.1= .int .i64 a/\0<=a/\a<=9223372036854775807)/\(gP es).Nodup/\es.length<=100000000
def FO (clock:Nat)(es:List eK):Prop:=(∀e∈es,e.2.2<clock)/\(es.map (·.2.2)).Nodup
def pz (x:Option mc)(es:List eK):Prop:=
 match x with
 |some (.map es' clock)=>es'=es/\FO clock es
 |some (.lmap es')=>es'=es
 |_=>False
def oP (t:TypeId)(es:List eK)(st:St):OR:=
 if es=[]then .ok .aa st else .ok (.slice st.next 0 es.length es.length 1) (St.new st (.cells ((jX (gP es)).map I) t true))
def wz (x:Option mc):List eK:=match x with|some (.map es _)=>es|some (.lmap es)=>es|_=>[]
open Classical in
def xg (K:Nat)(t:TypeId)(args:List CV)(st:St):Option OR:=
 match args with
 |[.func (.func k) [] [.ptr bb 0]]=>(match st.mem.get bb with
  |some (.cells [.map mb] _ _)=>if k=K/\pz (st.mem.get mb) (wz (st.mem.get mb))/\mY (wz (st.mem.get mb))then some (oP t (wz (st.mem.get mb)) st)else none
  |_=>none)
 |_=>none
def LN (args:List CV)(st:St):Option OR:=
 match args with
 |[.ptr b 0, .int .i64 _]=>(match st.mem.get b with
  |some (.cells l _ _)=>(match l[4]? with
   |some (CV.map mb)=>(match st.mem.get mb with|some (.map [] _)=>some (.ok .aa st)|_=>none)
   |_=>none)
  |_=>none)
 |_=>none
def Co (a b:Nat)(st:St):St:=St.new (St.new (St.new st (.cells (List.replicate (3*a) (.int .i64 0)) 67 false)) (.cells (List.replicate b (.bool false)) 4 false)) (.cells [.slice st.next 0 a a 0, .slice (st.next+1) 0 b b 0] 115 false)
def LF (args:List CV)(st:St):Option OR:=
 match args with
 |[.int .i64 (.ofNat a), .int .i64 (.ofNat b)]=>if (1<=a/\a<=4)/\1<=b/\b<=5 then some (.ok (.tuple [.ptr (st.next+2) 0, .int .i64 0]) (Co a b st))else none
 |_=>none
def I0:tc:=fun f args st=>bk (Nat.beq f 100) (xg 143 3 args st) (bk (Nat.beq f 33) (LN args st) (bk (Nat.beq f 118) (LF args st) none))
abbrev R:=ma P0 lvs I0
theorem bp {f:Nat}{args:List CV}{st:St}{Q:CV->St->Prop}(h:aH P0 R (lvs f) f args st Q)(hI:I0 f args st=none:=by rfl):R f args st Q:=LR (P:=P0) (lvs:=lvs) (I:=I0) (f:=f) (args:=args) (st:=st) hI h
theorem Ij {f:Nat}{args:List CV}{st st':St}{v:CV}{Q:CV->St->Prop}(hI:I0 f args st=some (.ok v st'))(hq:Q v st'):R f args st Q:=by
 refine⟨v,st',⟨1,fun n hn=> ?_⟩,hq⟩;obtain⟨m,rfl⟩:∃m,n=m+1:=⟨n-1,by omega⟩;unfold RF;simp only[vB,hI]
theorem R.mono {f:Nat}{args:List CV}{st:St}{Q Q':CV->St->Prop}(h:R f args st Q)(hq:∀v st',Q v st'->Q' v st'):R f args st Q':=ma.mono h hq
open Go Go.Sort
structure Ad (P:Program)(f K:Nat)(t:TypeId):Prop where
 eV:eV P f=true
 Wk:P.underlying t=some (.int .i64)
 out:∀(B b nn:Nat) (D0:DataW Unit) (R:Value->Option (DataW Unit×List MemPlace)) (w:World),w.cell? ⟨B,0,none⟩=some (.map (some b))->B<w.heap.size->w.ownsMap P t R b nn D0->Maps.size D0<=maxLen->Maps.size D0*8<=140737488355328->
  Calls P f #[.func (.func K) #[] #[.pointer (some ⟨B,0,none⟩)]] w fun e w'=>∃(v:Value) (ss:List Int),e= .returned v/\ss.Perm (intKeys D0)/\
   w'.ownsRow w.heap.size t 1 v ss.length ((ss.mergeSort leI).map encZ)/\(v= .slice none 0 0↔ss=[])/\Go.RowKit.Below w.heap.size w w'
section
variable {P:Program} {ρ:Ren} {st st':St} {w w':World} {v:CV}
theorem aY.below (h:WR ρ st w)(hb:Go.RowKit.Below w.heap.size w w'):aY ρ st w ρ st w':=
 ⟨⟨fun b blk r sz h1 h2=>by
  obtain⟨o,e2,e3⟩:=h.ji b blk r sz h1 h2;exact⟨o,by rw[hb.block r (agG.1 e2).1];exact e2,e3⟩,h.inj,h.fresh⟩,fun _ _ h=>h,fun _ _ h=>h,aga _,fun b blk _ sz h1 h2=> .inl ⟨b,blk,sz,h1,h2⟩,
   fun r hr _=>hb.block r hr,hb.size,hb.os,hb.output⟩
theorem aY.later (h:WR ρ st w)(hb:Go.RowKit.Below w.heap.size w w'){g sz:Nat}{o:Obj}{blk:mc}(hg:w.heap.size<=g)(ho:w'.heap[g]?=some o)(F9:BR (ρ.set st.next (g,sz)) blk o sz):
 aY ρ st w (ρ.set st.next (g,sz)) (st.new blk) w':=by
 have hA:=(aY.below h hb).trans (aY.BA (aY.below h hb).wr blk)
 have hn:ρ st.next=none:=by
  cases hh:ρ st.next with
  |none=>rfl
  |some x=>have:=h.fresh _ x hh;omega
 have hle:ρ.le (ρ.set st.next (g,sz)):=fun q x hx=>by rw[Ren.bX _ _ _ _ (fun e=>by rw[e,hn]at hx;cases hx)];exact hx
 have hold:∀q b2,q≠st.next->(st.new blk).mem.get q=some b2->st.mem.get q=some b2:=fun q b2 hq h1=>by simpa[St.new,PT.dh _ _ _ _ hq]using h1
 have IL:∀q b2 r s,st.mem.get q=some b2->ρ q=some (r,s)->r<w.heap.size:=fun q b2 r s h1 h2=>by
  obtain⟨o,e2,_⟩:=h.ji q b2 r s h1 h2;exact(agG.1 e2).1
 have Mq:∀q b2 r s,(st.new blk).mem.get q=some b2->ρ.set st.next (g,sz) q=some (r,s)->(∃b0 gw vj,st.mem.get b0=some gw/\ρ b0=some (r,vj))\/w.heap.size<=r:=fun q b2 r s h1 h2=>by
  by_cases e:q=st.next
  ·subst e;rw[Ren.cE]at h2;cases h2;exact .inr hg
  ·rw[Ren.bX _ _ _ _ e]at h2;exact hA.origin q b2 r s h1 h2
 refine⟨⟨fun q b2 r s h1 h2=> ?_,fun q q' b1 b2 r s s' h1 h2 h3 h4=> ?_,fun q x hx=> ?_⟩,hle,fun q hq hr=> ?_,hA.next,Mq,hA.kept,hb.size,hb.os,hb.output⟩
 ·by_cases e:q=st.next
  ·subst e;simp only[St.new,PT.dF,ahq]at h1;subst h1;rw[Ren.cE]at h2;cases h2;exact⟨o,ho,F9⟩
  ·rw[Ren.bX _ _ _ _ e]at h2;obtain⟨o',e2,e3⟩:=hA.wr.ji q b2 r s h1 h2;exact⟨o',e2,e3.mono hle⟩
 ·by_cases e:q=st.next
  ·by_cases e':q'=st.next
   ·rw[e,e']
   ·rw[e,Ren.cE]at h3;cases h3;rw[Ren.bX _ _ _ _ e']at h4;have:=IL q' b2 _ _ (hold q' b2 e' h2) h4;omega
  ·by_cases e':q'=st.next
   ·rw[e',Ren.cE]at h4;cases h4;rw[Ren.bX _ _ _ _ e]at h3;have:=IL q b1 _ _ (hold q b1 e h1) h3;omega
   ·rw[Ren.bX _ _ _ _ e]at h3;rw[Ren.bX _ _ _ _ e']at h4;exact h.inj q q' b1 b2 r s s' (hold q b1 e h1) (hold q' b2 e' h2) h3 h4
 ·show q<st.next+1
  by_cases e:q=st.next
  ·omega
  ·rw[Ren.bX _ _ _ _ e]at hx;have:=h.fresh q x hx;omega
 ·rw[Ren.bX _ _ _ _ (fun e=>by rw[e]at hq;omega)];exact hr
theorem Ds (l:List Int):cL ρ (l.map I) (l.map encZ):=by
 induction l with
 |nil=>exact cL.nil ρ
 |cons x l ih=>exact cL.cons (.int _ _) ih
theorem HU {b:Nat}{es:List eK}{r sz:Nat}(hw:WR ρ st w)(he:pz (st.mem.get b) es)(hk:mY es)(hr:ρ b=some (r,sz)):
 ∃(es':List MapEntry) (clock:Nat) (pl:List eK),w.heap[r]?=some (.map es'.toArray clock)/\pl.Perm es/\pl.length=es'.length/\
  (∀(i:Nat) (e:eK) (e':MapEntry),pl[i]?=some e->es'[i]?=some e'->VR ρ e.1 e'.key/\VR ρ e.2.1 e'.val)/\(∀x∈es',x.born<clock)/\(es'.map (·.born)).Nodup:=by
 unfold pz at he
 split at he
 ·rename_i Lw clock hm;obtain⟨rfl,b1,b2⟩:=he;obtain⟨es',h1,h2,h3⟩:=hw.map hm hr
  have Ja:es'.map (·.born)=Lw.map (·.2.2):=by
   apply ahL;intro i;rw[agB,agB];rcases ahD i es'.length with hlt|sw
   ·rw[agh hlt,agh (by omega)];have:=(h3 i Lw[i] es'[i] (agh (by omega)) (agh hlt)).2.2;simp[this]
   ·have KP:Lw.length<=i:=by omega
    rw[agL sw,agL KP];rfl
  refine⟨es',clock,Lw,h1,List.Perm.refl _,h2,fun i e e' g1 g2=>⟨(h3 i e e' g1 g2).1,(h3 i e e' g1 g2).2.1⟩,fun x hx=> ?_,by rw[Ja];exact b2⟩;have:x.born∈es'.map (·.born):=ahy hx;rw[Ja,agJ]at this;obtain⟨e,he,he2⟩:=this;rw[<-he2];exact b1 e he
 ·rename_i Lw hm;subst he;obtain⟨pl,clock,es',h1,h2,h3,h4,h5,h6,h7⟩:=hw.lmap hm hr;exact⟨es',clock,pl,h1,h2,h6,h7,fun x hx=>h5.1 x (by simpa using hx),by simpa using h5.2.1⟩
 ·exact he.elim
theorem tD {f K:Nat}{t:TypeId}(hf:Ad P f K t){es:List eK}{bb mb:Nat}{ty:TypeId}{g:Bool}(hk:mY es)
 (Jb:st.mem.get bb=some (.cells [.map mb] ty g)) (he:pz (st.mem.get mb) es) (h:oP t es st= .ok v st'):
 Lim.eV P f=true/\wN P f [.func (.func K) [] [.ptr bb 0]] st v st':=by
 refine⟨hf.eV, ?_⟩;intro ρ w args' hw ha;obtain⟨x',t',e1,hx,Ga⟩:=ha.inv;have e3:t'=[]:=by have:=Ga.len;simpa using this.symm
 subst e3;have e4:args'= #[x']:=by rw[<-ahi (xs:=args'),e1]
 subst e4;obtain⟨mg,OD,UF⟩:=hk;cases hx with
 |func _ _ _ f' c' g1 g2 g3 g4=>
  have OO:f'=[]:=by have:(0:Nat)=f'.length:=g1;exact agu.1 this.symm
  subst OO;obtain⟨p',rest,rfl,hp,N7⟩:=(cL.mk (ρ:=ρ) g2 g4).inv;have pq:=agu.1 N7.len.symm;subst pq;cases hp with
  |ptr _ _ B zB hB=>
   obtain⟨c,lo,hi,a1,a2,a3,a4,a5⟩:=hw.row Jb hB
   obtain⟨m',sq,Hz⟩:∃m',(c.toList.take 1)[0]?=some m'/\VR ρ (.map mb) m':=by
    have hl:=a4.len;obtain⟨m',tt,q1,q2,_⟩:=a4.inv;exact⟨m',by rw[show(1:Nat)=[CV.map mb].length from rfl,q1];rfl,q2⟩
   cases Hz with
   |map _ r sz hr=>
    obtain⟨es',clock,pl,b1,b2,b3,b4,b5,b6⟩:=HU hw he ⟨mg,OD,UF⟩ hr
    have mQ:w.cell? ⟨B,0,none⟩=some (.map (some r)):=by
     have:c.toList[0]?=some (.map (some r)):=by
      rw[ahn]at sq
      split at sq
      ·exact sq
      ·cases sq
     simp only[World.cell?,a1];simpa using this
    have hBl:=(agG.1 a1).1
    have hat:∀i (gK:i<es'.length),∃(hlt:i<pl.length) (a:Int),pl[i].1= .int .i64 a/\es'[i].key= .int .i64 a/\0<=a/\a<=9223372036854775807:=by
     intro i gK;have hlt:i<pl.length:=by omega
     have hv:=(b4 i pl[i] _ (agh hlt) (agh gK)).1;obtain⟨a,k2,k3,k4⟩:=mg _ (b2.mem_iff.1 (agx hlt));rw[k2]at hv;exact⟨hlt,a,k2,wi hv,k3,k4⟩
    have Ez:∀x∈es',∃a:Int,x.key= .int .i64 a/\0<=a/\a<=9223372036854775807:=by
     intro x hx;obtain⟨i,gK,rfl⟩:=ahb hx;obtain⟨_,a,_,k2,k3,k4⟩:=hat i gK;exact⟨a,k2,k3,k4⟩
    have IQ:(es'.map fun x=>(match x.key with| .int _ a=>a|_=>0)).Perm (gP es):=by
     have h1:es'.map (fun x=>(match x.key with| .int _ a=>a|_=>0))=gP pl:=by
      unfold gP;apply ahL;intro i;rw[agB,agB];rcases ahD i es'.length with hlt|sw
      ·obtain⟨zR,a,k1,k2,_⟩:=hat i hlt;rw[agh hlt,agh zR];simp[k1,k2]
      ·have KP:pl.length<=i:=by omega
       rw[agL sw,agL KP];rfl
     rw[h1];exact b2.map _
    have wq:(es'.map (·.key)).Nodup:=by
     have hn:=IQ.nodup_iff.2 OD;unfold List.Nodup at hn⊢;rw[List.pairwise_map]at hn⊢;exact hn.imp fun tW e=>tW (by rw[e])
    have kQ:Go.MapKept.Stamped es'.toArray clock:=⟨fun x hx=>b5 x (by simpa using hx),by simpa using b6,by simpa using wq⟩;have hlen:es'.length=es.length:=by rw[<-b3,b2.length_eq]
    have XO:∀x∈es',∃a:Int,x.key= .int .i64 a/\Go.keyOf P t x.key=some (.int .i64 a):=by
     intro x hx;obtain⟨a,EN,Ga,Vj⟩:=Ez x hx;refine⟨a,EN, ?_⟩;unfold Go.keyOf mapKey;rw[hf.Wk,EN];have m1:IntKind.i64.min= -9223372036854775808:=by decide
     have m2:IntKind.i64.max=9223372036854775807:=by decide
     simp[Lit.wf,m1,m2];omega
    have CA:∀x∈es',∃y,Go.WideElems.rd P t (fun _=>some ((.nil:DataW Unit),([]:List MemPlace))) x=some y:=by
     intro x hx;obtain⟨a,_,h2⟩:=XO x hx;exact⟨(.int .i64 a, .nil),by simp[Go.WideElems.rd,h2]⟩
    have Es:w.ownsMap P t (fun _=>some ((.nil:DataW Unit),([]:List MemPlace))) r es'.length (.map ((es'.toArray.toList.map (Go.WideElems.rg P t fun _=>some ((.nil:DataW Unit),([]:List MemPlace)))).foldr DataW.insert [])):=
     ⟨es'.toArray,clock,b1,⟨by show es'.toArray.size<=maxLen;simp only[ahK,maxLen];omega,kQ,fun x hx=>CA x (by simpa using hx)⟩,by simp,rfl⟩
    have jM:Maps.size (H:=Unit) (.map ((es'.toArray.toList.map (Go.WideElems.rg P t fun _=>some ((.nil:DataW Unit),([]:List MemPlace)))).foldr DataW.insert []))=es'.length:=by
     show(List.foldr (DataW.insert (H:=Unit)) _ _).length=_;rw[Go.length_sorted];simp
    have Ey:(intKeys (H:=Unit) (.map ((es'.toArray.toList.map (Go.WideElems.rg P t fun _=>some ((.nil:DataW Unit),([]:List MemPlace)))).foldr DataW.insert []))).Perm (gP es):=by
     refine(List.Perm.map _ (Go.WideShapes.sorted_perm _)).trans ?_;rw[aid]
     have:es'.toArray.toList.map ((fun p=>intOf p.1)∘Go.WideElems.rg P t fun _=>some ((.nil:DataW Unit),([]:List MemPlace)))=es'.map fun x=>(match x.key with| .int _ a=>a|_=>0):=by
      apply List.map_congr_left;intro x hx;obtain⟨a,EN,h2⟩:=XO x hx;rw[EN]at h2;simp[Go.WideElems.rg,Go.WideElems.rd,h2,EN,intOf]
     rw[this];exact IQ
    refine(hf.out B r es'.length _ _ w mQ hBl Es (by rw[jM];simp only[maxLen];omega) (by rw[jM];omega)).mono ?_;rintro e w' ⟨v',ss,rfl,hss,hrow,hnil,hbl⟩;have IN:=hss.trans Ey;have CD:ss.mergeSort leI=jX (gP es):=mergeSort_of_perm_i IN;have lO:ss.length=es.length:=by rw[IN.length_eq];simp[gP]
    unfold oP at h
    split at h
    ·rename_i h0;cases h;subst h0;have P8:=agu.1 (by rw[lO];rfl);have:=hnil.2 P8;subst this;exact⟨_,ρ,rfl, .aa,aY.below hw hbl⟩
    ·rename_i h0;cases h;have QC:=ahQ.2 h0;rcases hrow.2 with⟨q1,q2⟩|⟨gg,cap,cur,q1,q2,q3,q4,q5,q6,q7⟩
     ·have:=q2;omega
     ·rw[CD]at q7
      have hsz:((jX (gP es)).map I).length=ss.length:=by
       rw[<-CD,agM,List.length_mergeSort]
      have hiv:cL (ρ.set st.next (gg,cur.size)) ((jX (gP es)).map I) (cur.toList.take ((jX (gP es)).map I).length):=by
       rw[hsz,show ss.length=ss.length*1 from(ahJ _).symm,q7];exact Ds _
      have F9:=BR.cells (ρ:=ρ.set st.next (gg,cur.size)) ((jX (gP es)).map I) t true cur 0 0 (by rw[hsz,q6];omega) hiv (by omega) (fun hh=>by cases hh);have hA:=aY.later hw hbl q2 q3 F9;refine⟨v',_,rfl, ?_,hA⟩;rw[q1,lO];exact .lu _ 0 0 _ _ cap 1 gg cur.size (Ren.cE _ _ _) (by omega) (aga _) (by omega) (fun _=>rfl) (by omega)
theorem xf {f K:Nat}{t:TypeId}(hf:Ad P f K t){args:List CV}(h:xg K t args st=some (.ok v st')):pM P f args st v st':=by
 left;unfold xg at h
 split at h
 ·rename_i k bb
  split at h
  ·rename_i mb ty g Jb
   split at h
   ·rename_i hc;obtain⟨rfl,h2,h3⟩:=hc;exact tD hf h3 Jb h2 (Option.some.inj h)
   ·cases h
  ·cases h
 ·cases h
end
