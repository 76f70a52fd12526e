import Derived.Test.YtomffjeofpafnaaGreatDoorLimE
namespace Lim
open Go
noncomputable section
def AY.bare:AY->Bool
 | .Ud _| .pick .. | .nil _| .un .. | .Hk .. | .iface .. | .func .. | .ni .. | .pR .. | .slice3 .. | .nk .. | .fieldAddr .. | .field .. =>true
 | .uo .. | .zj .. | .um .. | .uq .. | .extract .. | .ru .. | .bin .. | .build .. =>true
 | .conv c _=>(match c with| .toInt _| .same=>true|_=>false)
 | .len k _=>(match k with| .map=>false|_=>true)
 |_=>false
structure bV (x y:OR):Prop where
 eq:∀v s,x= .ok v s->∃s',y= .ok v s'
section
variable {st st':St}
theorem bV.bad {y:OR}:bV .bad y:=⟨fun _ _ h=>by cases h⟩
theorem bV.ok (v:CV):bV (.ok v st) (.ok v st'):=⟨fun _ _ h=>by cases h;exact⟨_,rfl⟩⟩
theorem bV.bC {b:Bool}{x y x' y':OR}(hx:bV x x')(hy:bV y y'):bV (bC b x y) (bC b x' y'):=by cases b;exact hy;exact hx
theorem bV.opt {α:Type}{x:Option α}{n n':OR}{f f':α->OR}(hn:bV n n')(h:∀v,bV (f v) (f' v)):bV (Option.rec (motive:=fun _=>OR) n f x) (Option.rec (motive:=fun _=>OR) n' f' x):=by cases x;exact hn;exact h _
theorem bV.Wv {op:BinOp}{k:IntKind}{a b:Int}:bV (la op k a b st) (la op k a b st'):=by
 cases op<;>simp only[la]<;>first|exact bV.ok _|exact bV.bad|(split<;>first|exact bV.ok _|exact bV.bad)
theorem bV.int {op:BinOp}{k j:IntKind}{a b:Int}:bV (jr op k a j b st) (jr op k a j b st'):=by
 cases op<;>simp only[jr]<;>split<;>first|exact bV.ok _|exact bV.bad|exact bV.Wv
theorem bV.str {op:BinOp}{a b:List UInt8}:bV (rj op a b st) (rj op a b st'):=by
 cases op<;>simp only[rj]<;>first|exact bV.ok _|exact bV.bad|(split<;>first|exact bV.ok _|exact bV.bad)
theorem bV.bin {op:BinOp}{d:Option jL}{An:Bool}{x y:CV}:bV (aj op d An x y st) (aj op d An x y st'):=by
 unfold aj
 split<;>first
  |exact bV.int
  |exact bV.str
  |exact bV.bad
  |(unfold uV;split<;>first|exact bV.bad|exact bV.bC bV.bad (bV.ok _))
  |(split
    ·unfold Y3;split<;>first|exact bV.ok _|exact bV.bad
    ·exact bV.bad)
end
theorem Hq {call:fT}{op:AY}{fr:Fr}{st st':St}(h:op.bare=true):bV (cY call op fr st) (cY call op fr st'):=by
 cases op with
 |Ud x=>exact bV.ok _
 |pick c a b=>simp only[cY];unfold bk;split<;>first|exact bV.bC (bV.ok _) (bV.ok _)|exact bV.bad
 |nil x=>simp only[cY];unfold dU;split<;>first|exact bV.ok _|exact bV.bad
 |bin op d An x y=>exact bV.bin
 |un op x=>simp only[cY];unfold mo;split<;>first|exact bV.ok _|exact bV.bad|(split<;>first|exact bV.ok _|exact bV.bad)
 |conv c x=>cases c<;>first|(cases h;done)|(simp only[cY];cases ev fr x<;>first|exact bV.ok _|exact bV.bad)
 |Hk n x=>simp only[cY];unfold ow;split<;>first|exact bV.bC (bV.ok _) bV.bad|exact bV.bad
 |iface t x=>exact bV.ok _
 |func fn f c=>exact bV.ok _
 |ni x lo hi=>simp only[cY];unfold kD;split<;>first|exact bV.bad|(split<;>first|exact bV.ok _|exact bV.bad)
 |pR size x lo hi=>
  simp only[cY];unfold aN;split
  ·split<;>first|exact bV.ok _|exact bV.bad
  ·refine bV.bC ?_ bV.bad
   split
   ·exact bV.bC (bV.ok _) (bV.bC (bV.ok _) bV.bad)
   ·exact bV.bad
  ·exact bV.bad
 |slice3 size x lo hi mx=>
  simp only[cY];unfold iz;split
  ·split
   ·split
    ·exact bV.bC (bV.bC (bV.ok _) (bV.ok _)) bV.bad
    ·exact bV.bad
   ·exact bV.bad
  ·split
   ·split<;>first|exact bV.ok _|exact bV.bad
   ·exact bV.bad
  ·exact bV.bad
 |nk n size x lo hi=>simp only[cY];unfold bP;split<;>first|exact bV.bad|(split<;>first|exact bV.bad|exact bV.bC (bV.ok _) (bV.ok _))
 |fieldAddr off x=>simp only[cY];unfold an;split<;>first|exact bV.ok _|exact bV.bad
 |field agg off size x=>simp only[cY];unfold yQ;split<;>first|exact bV.opt bV.bad (fun _=>bV.ok _)|exact bV.bad
 |uo n size x i=>simp only[cY];unfold fK;split<;>first|exact bV.bC (bV.ok _) bV.bad|exact bV.bad
 |zj size x i=>simp only[cY];unfold cU;split<;>first|exact bV.bC (bV.ok _) bV.bad|exact bV.bad
 |um x i=>simp only[cY];unfold oz;split<;>first|exact bV.bad|(split<;>first|exact bV.ok _|exact bV.bad)
 |uq n size agg x i=>simp only[cY];unfold uT;split<;>first|exact bV.bC (bV.opt bV.bad (fun _=>bV.ok _)) bV.bad|exact bV.bad
 |extract x i=>simp only[cY];unfold aA;split<;>first|exact bV.opt bV.bad (fun _=>bV.ok _)|exact bV.bad
 |len k x=>cases k<;>first|(cases h;done)|(simp only[cY];unfold bo;cases ev fr x<;>first|exact bV.ok _|exact bV.bad|exact bV.bC (bV.ok _) (bV.ok _))
 |ru mx x y=>simp only[cY];unfold Bm;split<;>first|exact bV.bC (bV.ok _) bV.bad|exact bV.bad
 |build z parts=>simp only[cY];unfold bJ;exact bV.opt bV.bad (fun _=>bV.ok _)
 |_=>cases h
abbrev aY:=Nat->List CV->St->(CV->St->Prop)->Prop
def upon (r:OR)(k:CV->St->Prop):Prop:=match r with| .ok v st=>k v st| .bad=>False
def us (r:OR)(k:CV->Prop):Prop:=match r with| .ok v _=>k v| .bad=>False
def bg (g:Option Bool)(st:St)(r:OR):OR:=match g with|some true=>r|some false=> .ok .undef st|none=> .bad
def gdW (g:Option Bool)(st:St)(yes:Prop)(k:CV->St->Prop):Prop:=match g with|some true=>yes|some false=>k .undef st|none=>False
def al (b:Bool)(v:CV):Option Bool:=match v with| .bool c=>some (bC b c (Bool.not c))| .undef=>some false|_=>none
def fD (C:aY)(f:CV)(args:List CV)(st:St)(k:CV->St->Prop):Prop:=match f with| .func (.func g) first captured=>C g (first++(args++captured)) st k|_=>False
def aB (v:CV)(x y:Prop):Prop:=match v with| .bool true=>x| .bool false=>y|_=>False
def nu:fT:=fun _ _ _=> .bad
def lP (ops:Array Oper)(fr:Fr)(gb:Nat×Bool):Option Bool:=
 match (ops[gb.1]?).bind (·.dst)with|none=>some false|some d=>al gb.2 (fB fr d)
def opW (C:aY)(g:Option Bool)(op:AY)(fr:Fr)(st:St)(k:CV->St->Prop):Prop:=
 match op with
 | .call f args=>gdW g st (C f (JN fr args) st k) k
 | .BU f args=>gdW g st (fD C (ev fr f) (JN fr args) st k) k
 |op=>bif op.still then us (bg g st (cY nu op fr st)) (fun v=>k v st)else upon (bg g st (cY nu op fr st)) k
def V4 (C:aY)(op:AY)(fr:Fr)(st:St)(k:CV->St->Prop):Prop:=
 match op with
 | .call f args=>C f (JN fr args) st k
 | .BU f args=>fD C (ev fr f) (JN fr args) st k
 |op=>bif op.still then us (cY nu op fr st) (fun v=>k v st)else upon (cY nu op fr st) k
def IS (P:Program)(C:aY)(ops:Array Oper)(o:Oper)(fr:Fr)(st:St)(k:CV->St->Prop):Prop:=
 match lI P o.op with
 |none=>False
 |some op=>match o.guard with
  |none=>V4 C op fr st k
  |some gb=>opW C (lP ops fr gb) op fr st k
def VW (n:Nat)(dst:Option Tmp)(v:CV)(fr:Fr)(k:Fr->Prop):Prop:=match dst with|none=>k fr|some d=>bif Nat.ble (d+1) n then k (fr.put d (some v))else False
def RQ (P:Program)(C:aY)(n:Nat)(ops:Array Oper):List Oper->Fr->St->(Fr->St->Prop)->Prop
 |[],fr,st,k=>k fr st
 |o::l,fr,st,k=>IS P C ops o fr st fun v st=>VW n o.dst v fr fun fr=>RQ P C n ops l fr st k
def vY (P:Program)(C:aY)(ops:Array Oper)(ab:Option Nat)(o:Oper)(fr:Fr)(st:St)(k:CV->St->Prop):Prop:=
 match nv P o,ab with
 |none,none=>IS P C ops o fr st k
 |some tz,some b=>upon (match o.guard with|none=>iO b tz.2 tz.1 st|some gb=>bg (lP ops fr gb) st (iO b tz.2 tz.1 st)) k
 |none,some b=>(match kH P o with
  |some x=>upon (match o.guard with
   |none=>fR b x.1 x.2.1 (cO x.2.1 x.2.2.1) (Lz fr x.2.2.2) st
   |some gb=>bg (lP ops fr gb) st (fR b x.1 x.2.1 (cO x.2.1 x.2.2.1) (Lz fr x.2.2.2) st)) k
  |none=>False)
 |_,_=>False
def Ch (P:Program)(C:aY)(n:Nat)(ops:Array Oper):List (Oper×Option Nat)->Nat->Nat->Fr->St->(List TR->List St->Fr->St->Prop)->Prop
 |[],_,_,fr,st,k=>k [] [] fr st
 |o::l,i,c,fr,st,k=>vY P C ops o.2 o.1 fr st fun v st'=>VW n o.1.dst v fr fun fr'=>bif mg P o.1
   then Ch P C n ops l (i+1) (c+1) fr' st' (fun eI ch=>k (⟨i,o.2,o.1,true,c,fr,v,st,st'⟩::eI) (st::ch))
   else Ch P C n ops l (i+1) c fr' st' (fun eI ch=>k (⟨i,o.2,o.1,false,c,fr,v,st,st'⟩::eI) ch)
def cj (b:Bool)(p q:Prop):Prop:=match b with|true=>q|false=>p/\q
abbrev Vu:=Nat×Nat×Oper
def AV (P:Program):List Oper->Nat->Nat->List Vu
 |[],_,_=>[]
 |o::l,i,c=>(i,c,o)::AV P l (i+1) (bif mg P o then c+1 else c)
def Gp (P:Program)(o:Oper):Bool:=match nv P o with|some _=>false|none=>match lI P o.op with|some op=>op.bare|none=>false
def noB (P:Program)(a:List Vu):Bool:=AW a fun u=>Bool.not (oU P u.2.2)
def IU (P:Program)(ops:Array Oper)(a:List Vu)(i c:Nat)(c':Nat):Bool:=
 Bool.or (Bool.and (noB P a) (Nat.beq c' c)) (Bool.or (DJ a fun u=>Bool.and (mg P u.2.2) (Bool.and (Nat.ble (Nat.succ u.2.1) c') (fG ops ops.size u.1 i)))
  (DJ a fun u=>Bool.and (mg P u.2.2) (Bool.and (Nat.ble c' u.2.1) (fG ops ops.size i u.1))))
def reW (P:Program)(ops:Array Oper)(t:TR)(s:St):Prop:=vY P (fun _ _ _ _=>False) ops t.ab t.o t.fr s fun v _=>v=t.v
def R6 (P:Program)(ops:Array Oper)(a:List Vu)(t:TR):Nat->List St->Prop
 |_,[]=>True
 |c',s::r=>cj (IU P ops a t.i t.c c') (reW P ops t s) (R6 P ops a t (c'+1) r)
def NY (P:Program)(ops:Array Oper)(a:List Vu)(chain:List St):List TR->Prop
 |[]=>True
 |t::r=>(match Bool.or (oU P t.o) (Bool.or (mg P t.o) (Gp P t.o))with|true=>NY P ops a chain r|false=>R6 P ops a t 0 chain/\NY P ops a chain r)
def I9 (P:Program)(ops:Array Oper)(b:Nat)(j:Nat):List TR->List St->Prop
 |[],_=>True
 |u::r,chain=>cj (Bool.or (Bool.not (mg P u.o)) (Bool.or (fG ops ops.size u.i j) (fG ops ops.size j u.i)))
   (match Nat.ble (u.i+1) j with|true=>u.s.mem.get b=none|false=>u.s1.mem.get b=u.s.mem.get b) (I9 P ops b j r chain)
def N0 (P:Program)(ops:Array Oper)(all:List TR)(chain:List St):List TR->Prop
 |[]=>True
 |t::r=>(match oU P t.o with|false=>N0 P ops all chain r|true=>(match t.ab with|some b=>I9 P ops b t.i all chain|none=>True)/\N0 P ops all chain r)
def PV (P:Program)(C:aY)(n:Nat)(ops:Array Oper)(fr:Fr)(st:St)(k:Fr->St->Prop):Prop:=
 Nc P ops=true/\Hw P ops.toList st fun as gh=>Ch P C n ops (ops.toList.zip as) 0 0 fr gh fun eI ch fr' st'=>
  NY P ops (AV P ops.toList 0 0) (ch++[st']) eI/\N0 P ops eI (ch++[st']) eI/\k fr' st'
def ew (k:List CV->St->Prop)(body:(List CV->St->Prop)->Prop):Prop:=body k
def EU (body:List CV->St->(List CV->St->Prop)->Prop):Nat->List CV->St->Prop
 |0,_,_=>False
 |m+1,vs,st=>body vs st (EU body m)
def dn (body:List CV->St->(List CV->St->Prop)->Prop)(vs:List CV)(st:St):Prop:=∃m,EU body m vs st
def Iw (fr:Fr)(c:Operand)(x y:Prop):Prop:=match eU c with|some c=>aB (ev fr c) x y|none=>False
def iI (P:Program)(C:aY)(lv:Nat->Option (List Nat))(n:Nat):Code->Fr->St->(Fr->St->Prop)->(Nat->Fr->St->Prop)->(Fr->St->Prop)->Prop
 | .skip,fr,st,kn,_,_=>kn fr st
 | .region _ ops draw,fr,st,kn,_,_=>bif draw then PV P C n ops fr st kn else RQ P C n ops ops.toList fr st kn
 | .seq x y,fr,st,kn,ke,kr=>(match lv (GV y)with
   |none=>iI P C lv n x fr st (fun fr st=>iI P C lv n y fr st kn ke kr) ke kr
   |some L=>ew (fun vs st=>iI P C lv n y (Ja L vs) st kn ke kr) fun k=>iI P C lv n x fr st (fun fr st=>k (L.map (fB fr)) st) ke kr)
 | .cond c x y,fr,st,kn,ke,kr=>Iw fr c (iI P C lv n x fr st kn ke kr) (iI P C lv n y fr st kn ke kr)
 | .block id x,fr,st,kn,ke,kr=>iI P C lv n x fr st kn (fun i fr st=>bif Nat.beq i id then kn fr st else ke i fr st) kr
 | .loop x,fr,st,_,ke,kr=>(match lv (GV x)with
   |none=>False
   |some L=>dn (fun vs st next=>iI P C lv n x (Ja L vs) st (fun fr st=>next (L.map (fB fr)) st) ke kr) (L.map (fB fr)) st)
 | .exit id,fr,st,_,ke,_=>ke id fr st
 | .scope x,fr,st,kn,ke,kr=>iI P C lv n x fr st kn ke kr
 | .label _,fr,st,kn,_,_=>kn fr st
 | .ret,fr,st,_,_,kr=>kr fr st
 |_,_,_,_,_,_=>False
def yE (P:Program)(fr:Fr)(st:St):List ResultVar->(List CV->Prop)->Prop
 |[],k=>k []
 | .tmp t::l,k=>yE P fr st l fun vs=>k (fB fr t::vs)
 | .cell a t::l,k=>(match P.underlying t,P.info? t with
   |some u,some i=>us (bif ib u then aI i.size (fB fr a) st else aC (fB fr a) st) fun v=>yE P fr st l fun vs=>k (v::vs)
   |_,_=>False)
def RJ (P:Program)(fr:Fr)(st:St)(l:List ResultVar)(Q:CV->St->Prop):Prop:=
 yE P fr st l fun vs=>match vs with|[]=>Q .undef st|[v]=>Q v st|v::u::vs=>Q (.tuple (v::u::vs)) st
def aP (P:Program)(C:aY)(lv:Nat->Option (List Nat))(f:Nat)(args:List CV)(st:St)(Q:CV->St->Prop):Prop:=
 match gN P f,P.funcs[f]? with
 |true,some fn=>(match fn.body with
  |some c=>iI P C lv fn.ntmps c (ql args) st (fun fr st=>RJ P fr st fn.results.toList Q) (fun _ _ _=>False) (fun fr st=>RJ P fr st fn.results.toList Q)
  |none=>False)
 |_,_=>False
abbrev zr (n:Nat):List CV:=List.replicate n (.int .u8 0)
def aw:Nat->List CV->CV
 |0,vs=>vs.headD .any
 |i+1,vs=>aw i (vs.drop 1)
def ig (t:TypeId)(x:CV)(st:St):OR:=bC x.isAny .bad (dD t x.cK st)
def St.skip (st:St):St:=⟨st.mem,st.next+1⟩
def gE (g:Option Bool)(st:St)(y:(CV->St->Prop)->Prop)(k:CV->St->Prop):Prop:=gdW g st (y k) k
def cn (p:Prop):Prop:=(true=true)/\p
def fH (off:Nat)(p:CV)(st:St)(k:CV->Prop):Prop:=us (dU p st) fun p=>us (an off p st) fun a=>us (aC a st) k
def rJ (o1 o2:Nat)(p:CV)(st:St)(k:CV->Prop):Prop:=us (dU p st) fun p=>us (an o1 p st) fun a=>us (an o2 a st) fun a=>us (aC a st) k
def ki (g:Option Bool)(off:Nat)(p:CV)(st:St)(k:CV->Prop):Prop:=us (bg g st (dU p st)) fun p=>us (bg g st (an off p st)) fun a=>us (bg g st (aC a st)) k
def zA (n off:Nat)(p:CV)(st:St)(k:CV->Prop):Prop:=us (dU p st) fun p=>us (an off p st) fun a=>us (aI n a st) k
def nV (n off:Nat)(p x:CV)(st:St)(k:St->Prop):Prop:=us (dU p st) fun p=>us (an off p st) fun a=>upon (aR n a x st) fun _ s=>k s
def Ar (n o1 o2:Nat)(p x:CV)(st:St)(k:St->Prop):Prop:=us (dU p st) fun p=>us (an o1 p st) fun a=>us (an o2 a st) fun a=>upon (aR n a x st) fun _ s=>k s
def fl (off:Nat)(p:CV)(st:St)(k:CV->Prop):Prop:=us (an off p st) fun a=>us (aC a st) k
def iU (g:Option Bool)(off:Nat)(p:CV)(st:St)(k:CV->Prop):Prop:=us (bg g st (an off p st)) fun a=>us (bg g st (aC a st)) k
def JM (n off:Nat)(p:CV)(st:St)(k:CV->Prop):Prop:=us (an off p st) fun a=>us (aI n a st) k
def fst (n off:Nat)(p x:CV)(st:St)(k:St->Prop):Prop:=us (an off p st) fun a=>upon (aR n a x st) fun _ s=>k s
def idx (size:Nat)(x i:CV)(st:St)(k:CV->Prop):Prop:=us (cU size x i st) fun a=>us (aC a st) k
def zk (g:Option Bool)(size:Nat)(x i:CV)(st:St)(k:CV->Prop):Prop:=us (bg g st (cU size x i st)) fun a=>us (bg g st (aC a st)) k
def jG (n size:Nat)(x i:CV)(st:St)(k:CV->Prop):Prop:=us (cU size x i st) fun a=>us (aI n a st) k
def Db (n size:Nat)(x i y:CV)(st:St)(k:St->Prop):Prop:=us (cU size x i st) fun a=>upon (aR n a y st) fun _ s=>k s
def abt (size off:Nat)(x i:CV)(st:St)(k:CV->Prop):Prop:=us (cU size x i st) fun a=>us (an off a st) fun a=>us (aC a st) k
def gM (g:Option Bool)(size off:Nat)(x i:CV)(st:St)(k:CV->Prop):Prop:=us (bg g st (cU size x i st)) fun a=>us (bg g st (an off a st)) fun a=>us (bg g st (aC a st)) k
def Up (n size off:Nat)(x i:CV)(st:St)(k:CV->Prop):Prop:=us (cU size x i st) fun a=>us (an off a st) fun a=>us (aI n a st) k
section
variable (P:Program) (lvs:Nat->Nat->Option (List Nat)) (I:xx)
def RF (n:Nat):fT:=Ax P (fy P) lvs I n
def oJ (f:Nat)(args:List CV)(st:St)(Q:CV->St->Prop):Prop:=∃v st',(∃N,∀n,N<=n->RF P lvs I n f args st= .ok v st')/\Q v st'
end
def GA (F:Nat->OR)(k:CV->St->Prop):Prop:=∃v st',(∃N,∀n,N<=n->F n= .ok v st')/\k v st'
section
variable {P:Program} {lvs:Nat->Nat->Option (List Nat)} {I:xx}
theorem oJ.mono {f:Nat}{args:List CV}{st:St}{Q Q':CV->St->Prop}(h:oJ P lvs I f args st Q)(hq:∀v st',Q v st'->Q' v st'):oJ P lvs I f args st Q':=by
 obtain⟨v,st',h1,h2⟩:=h;exact⟨v,st',h1,hq _ _ h2⟩
theorem GA.const {r:OR}{k:CV->St->Prop}(h:upon r k){F:Nat->OR}(hF:∀n,F n=r):GA F k:=by
 cases r with
 |ok v st=>exact⟨v,st,⟨0,fun n _=>hF n⟩,h⟩
 |bad=>exact h.elim
theorem II {r:OR}{st:St}{k:CV->St->Prop}(hs:Still st r)(h:us r fun v=>k v st):upon r k:=by
 cases r with
 |ok v s=>have:=hs.eq v s rfl;subst this;exact h
 |bad=>exact h
theorem BT {f:CV}{args:List CV}{st:St}{k:CV->St->Prop}(h:fD (oJ P lvs I) f args st k):GA (fun n=>we (RF P lvs I n) f args st) k:=by
 unfold fD at h
 split at h
 ·exact h
 ·exact h.elim
theorem pW (call:fT)(op:AY)(fr:Fr)(st:St)(h1:∀f args,op≠ .call f args)(h2:∀f args,op≠ .BU f args):cY call op fr st=cY nu op fr st:=by
 cases op<;>first|rfl|exact absurd rfl (h1 _ _)|exact absurd rfl (h2 _ _)
theorem RS {op:AY}{fr:Fr}{st:St}{k:CV->St->Prop}(h:V4 (oJ P lvs I) op fr st k):GA (fun n=>cY (RF P lvs I n) op fr st) k:=by
 unfold V4 at h
 split at h
 ·exact h
 ·exact BT h
 ·rename_i h1 h2
  have h':upon (cY nu op fr st) k:=by
   cases hs:op.still with
   |true=>rw[hs]at h;exact II (ri hs) h
   |false=>rw[hs]at h;exact h
  exact GA.const h' fun n=>pW _ _ _ _ (fun f a e=>h1 f a e) (fun f a e=>h2 f a e)
theorem GA.gd {g:Option Bool}{st:St}{F:Nat->OR}{yes:Prop}{k:CV->St->Prop}(h:gdW g st yes k)(hy:yes->GA F k):GA (fun n=>bg g st (F n)) k:=by
 cases g with
 |none=>exact h.elim
 |some b=>cases b with
  |true=>exact hy h
  |false=>exact⟨_,_,⟨0,fun n _=>rfl⟩,h⟩
theorem V3 {g:Option Bool}{op:AY}{fr:Fr}{st:St}{k:CV->St->Prop}(h:opW (oJ P lvs I) g op fr st k):GA (fun n=>bg g st (cY (RF P lvs I n) op fr st)) k:=by
 unfold opW at h
 split at h
 ·exact GA.gd h fun h=>h
 ·exact GA.gd h fun h=>BT h
 ·rename_i h1 h2
  have h':upon (bg g st (cY nu op fr st)) k:=by
   cases hs:op.still with
   |true=>
    rw[hs]at h;refine II ?_ h;cases g with
    |none=>exact Still.bad
    |some b=>cases b with
     |true=>exact ri hs
     |false=>exact Still.ok _
   |false=>rw[hs]at h;exact h
  refine GA.const h' fun n=> ?_;rw[pW _ _ _ _ (fun f a e=>h1 f a e) (fun f a e=>h2 f a e)]
theorem zy {ops:Array Oper}{fr:Fr}{o:Oper}{gb:Nat×Bool}(h:o.guard=some gb):ff ops fr o=lP ops fr gb:=by
 unfold ff lP;rw[h];dsimp only;cases (ops[gb.1]?).bind (·.dst)with
 |none=>rfl
 |some d=>dsimp only;cases fB fr d<;>rfl
theorem Nb {call:fT}{ops:Array Oper}{o:Oper}{fr:Fr}{st:St}{op:AY}(Df:lI P o.op=some op):lV P call ops o fr st=match o.guard with|none=>cY call op fr st|some gb=>bg (lP ops fr gb) st (cY call op fr st):=by
 unfold lV;cases hg:o.guard with
 |none=>
  have:ff ops fr o=some true:=by unfold ff;rw[hg]
  rw[this,Df]
 |some gb=>
  rw[zy hg,Df];dsimp only;cases lP ops fr gb with
  |none=>rfl
  |some b=>cases b<;>rfl
theorem Ee {ops:Array Oper}{o:Oper}{fr:Fr}{st:St}{k:CV->St->Prop}(h:IS P (oJ P lvs I) ops o fr st k):GA (fun n=>lV P (RF P lvs I n) ops o fr st) k:=by
 unfold IS at h;cases Df:lI P o.op with
 |none=>rw[Df]at h;exact h.elim
 |some op=>
  rw[Df]at h;dsimp only at h;have e:(fun n=>lV P (RF P lvs I n) ops o fr st)=fun n=>(match o.guard with|none=>cY (RF P lvs I n) op fr st|some gb=>bg (lP ops fr gb) st (cY (RF P lvs I n) op fr st)):=funext fun n=>Nb Df;rw[e];cases hg:o.guard with
  |none=>rw[hg]at h;exact RS h
  |some gb=>rw[hg]at h;exact V3 h
theorem Ey {n:Nat}{dst:Option Tmp}{v:CV}{fr:Fr}{k:Fr->Prop}(h:VW n dst v fr k):∃fr',EA n dst v fr=some fr'/\k fr':=by
 cases dst with
 |none=>exact⟨fr,rfl,h⟩
 |some d=>
  have h':(bif Nat.ble (d+1) n then k (fr.put d (some v))else False):=h;cases hb:Nat.ble (d+1) n with
  |false=>rw[hb]at h';exact h'.elim
  |true=>
   rw[hb]at h';refine⟨_, ?_,h'⟩;unfold EA;simp only[dE,aM];rw[aBb hb]
theorem RP {n:Nat}{ops:Array Oper}:∀{l:List Oper} {fr:Fr} {st:St} {k:Fr->St->Prop},RQ P (oJ P lvs I) n ops l fr st k->
 ∃fr' st',(∃N,∀m,N<=m->oM P (RF P lvs I m) n ops l fr st= .norm fr' st')/\k fr' st':=by
 intro l
 induction l with
 |nil=>intro fr st k h;exact⟨fr,st,⟨0,fun _ _=>rfl⟩,h⟩
 |cons o l ih=>
  intro fr st k h;obtain⟨v,gh,⟨N,hN⟩,h1⟩:=Ee h;obtain⟨lE,p1,h2⟩:=Ey h1;obtain⟨fr',st',⟨N',ZH⟩,h3⟩:=ih h2;refine⟨fr',st',⟨max N N',fun m hm=> ?_⟩,h3⟩;have QY:=hN m (by omega);dsimp only at QY;rw[wS,QY];dsimp only;rcases Bh p1 with⟨e,rfl⟩|⟨d,e,hd,rfl⟩
  ·rw[e];exact ZH m (by omega)
  ·rw[e];dsimp only;rw[aBb hd];exact ZH m (by omega)
theorem A7 {ops:Array Oper}{ab:Option Nat}{o:Oper}{fr:Fr}{st:St}{k:CV->St->Prop}(h:vY P (oJ P lvs I) ops ab o fr st k):GA (fun n=>gK P (RF P lvs I n) ops ab o fr st) k:=by
 have key:∀(r:OR),upon (match o.guard with|none=>r|some gb=>bg (lP ops fr gb) st r) k->GA (fun _=>(match ff ops fr o with|some true=>r|some false=> .ok .undef st|none=> .bad)) k:=by
  intro r hr;refine GA.const hr fun n=> ?_;cases hg:o.guard with
  |none=>
   have:ff ops fr o=some true:=by unfold ff;rw[hg]
   rw[this]
  |some gb=>
   rw[zy hg];dsimp only;cases lP ops fr gb with
   |none=>rfl
   |some b=>cases b<;>rfl
 unfold vY at h;unfold gK
 split at h
 ·rename_i h1;rw[h1];exact Ee h
 ·rename_i tz b h1;rw[h1];exact key _ h
 ·rename_i b h1;rw[h1];dsimp only
  split at h
  ·rename_i x hx;rw[hx];exact key _ h
  ·exact h.elim
 ·exact h.elim
theorem Hb {ops:Array Oper}{ab:Option Nat}{o:Oper}{fr:Fr}{st:St}{k:CV->St->Prop}(h:vY P (fun _ _ _ _=>False) ops ab o fr st k):GA (fun _=>gK P nu ops ab o fr st) k:=by
 have h2:vY P (oJ P (fun _ _=>none) (fun _ _ _=>some .bad)) ops ab o fr st k:=by
  have e:(oJ P (fun _ _=>none) (fun _ _ _=>some OR.bad))=fun _ _ _ _=>False:=by
   funext f args st k
   refine propext ⟨?_,fun h=>h.elim⟩;rintro⟨v,st',⟨N,hN⟩,_⟩;have:=hN (N+1) (by omega);unfold RF at this;simp only[Ax]at this;cases this
  rw[e];exact h
 obtain⟨v,s1,⟨N,hN⟩,hk⟩:=A7 h2;refine⟨v,s1,⟨0,fun _ _=> ?_⟩,hk⟩
 have e:∀n,RF P (fun _ _=>none) (fun _ _ _=>some OR.bad) n=nu:=by
  intro n
  funext f args st
  cases n with
  |zero=>rfl
  |succ n=>unfold RF;simp only[Ax];rfl
 have:=hN N (aAU _);dsimp only at this;rw[e]at this;exact this
theorem Kk {n:Nat}{ops:Array Oper}:∀{l:List (Oper×Option Nat)} {i c:Nat} {fr:Fr} {st:St} {k:List TR->List St->Fr->St->Prop},Ch P (oJ P lvs I) n ops l i c fr st k->
 ∃eI ch fr' st',(∃N,∀m,N<=m->qB P (RF P lvs I m) n ops l i c fr st=some (eI,ch,fr',st'))/\k eI ch fr' st':=by
 intro l
 induction l with
 |nil=>intro i c fr st k h;exact⟨[],[],fr,st,⟨0,fun _ _=>rfl⟩,h⟩
 |cons o l ih=>
  intro i c fr st k h;obtain⟨v,gh,⟨N,hN⟩,h1⟩:=A7 h;obtain⟨lE,p1,h2⟩:=Ey h1
  have e:∀call,qB P call n ops (o::l) i c fr st=OR.rec (fun v st'=>nS v fun v=>nS st' fun st'=>
   Option.rec none (fun fr'=>bC (mg P o.1)
    (Option.rec none (fun r=>some (⟨i,o.2,o.1,true,c,fr,v,st,st'⟩::r.1,st::r.2.1,r.2.2)) (qB P call n ops l (Nat.succ i) (Nat.succ c) fr' st'))
    (Option.rec none (fun r=>some (⟨i,o.2,o.1,false,c,fr,v,st,st'⟩::r.1,r.2.1,r.2.2)) (qB P call n ops l (Nat.succ i) c fr' st'))) (EA n o.1.dst v fr)) none (gK P call ops o.2 o.1 fr st):=fun _=>rfl
  cases hw:mg P o.1 with
  |true=>
   rw[hw]at h2;obtain⟨eI,ch,fr',st',⟨N',ZH⟩,h3⟩:=ih h2;refine⟨_,_,fr',st',⟨max N N',fun m hm=> ?_⟩,h3⟩;have QY:=hN m (by omega);dsimp only at QY;rw[e,QY];simp only[dE,p1,aM,hw,aBr];rw[ZH m (by omega)]
  |false=>
   rw[hw]at h2;obtain⟨eI,ch,fr',st',⟨N',ZH⟩,h3⟩:=ih h2;refine⟨_,_,fr',st',⟨max N N',fun m hm=> ?_⟩,h3⟩;have QY:=hN m (by omega);dsimp only at QY;rw[e,QY];simp only[dE,p1,aM,hw,aAR,aBf];rw[ZH m (by omega)]
theorem Cl {call:fT}{ops:Array Oper}{ab:Option Nat}{o:Oper}{fr:Fr}{st s1:St}{v:CV}(hw:mg P o=false)(h:gK P nu ops ab o fr st= .ok v s1):gK P call ops ab o fr st= .ok v s1:=by
 unfold gK at h⊢
 split at h
 ·unfold lV at h⊢
  split at h
  ·rename_i hwt
   try rw[hwt]
   split at h
   ·rename_i op Df;rw[pW call op]
    ·exact h
    ·intro f args e;subst e;cases h
    ·intro f args e;subst e;have h':we nu (ev fr f) (JN fr args) st= .ok v s1:=h;unfold we at h'
     split at h'<;>cases h'
   ·cases h
  ·exact h
  ·cases h
 ·exact h
 ·exact h
 ·cases h
theorem Ha {call:fT}{ops:Array Oper}{o:Oper}{ab:Option Nat}{fr:Fr}{st s1:St}{v:CV}(hb:Gp P o=true)(tk:oU P o=false)(h:gK P call ops ab o fr st= .ok v s1)(s:St):∃s2,gK P call ops ab o fr s= .ok v s2:=by
 have hl:kH P o=none:=by
  unfold oU at tk;cases hl:kH P o with
  |none=>rfl
  |some x=>rw[hl]at tk;cases tk
 unfold Gp at hb;unfold gK at h⊢;cases hn:nv P o with
 |some tz=>rw[hn]at hb;cases hb
 |none=>
  rw[hn]at hb h;dsimp only at hb h;cases ab with
  |some b=>dsimp only at h;rw[hl]at h;cases h
  |none=>
   dsimp only at h⊢;unfold lV at h⊢;cases hw:ff ops fr o with
   |none=>rw[hw]at h;cases h
   |some b=>
    rw[hw]at h;cases b with
    |false=>cases h;exact⟨_,rfl⟩
    |true=>
     dsimp only at h⊢;cases Df:lI P o.op with
     |none=>rw[Df]at h;cases h
     |some op=>
      rw[Df]at h hb;exact(Hq hb).eq _ _ h
theorem JX (P:Program):∀(l:List Oper) (i c k:Nat) (o:Oper),l[k]?=some o->(AV P l i c)[k]?=some (i+k,c+iV P l k,o):=by
 intro l
 induction l with
 |nil=>intro i c k o h;simp at h
 |cons o' l ih=>
  intro i c k o h;cases k with
  |zero=>simp at h;subst h;rfl
  |succ k=>
   show(AV P l (i+1) (bif mg P o' then c+1 else c))[k]?=_;rw[ih _ _ k o (by simpa using h),vK];cases mg P o'<;>simp<;>omega
theorem Gr (P:Program):∀(l:List Oper) (i c:Nat),(AV P l i c).length=l.length:=by
 intro l
 induction l with
 |nil=>intro i c;rfl
 |cons o l ih=>intro i c;show(AV P l _ _).length+1=_;rw[ih];rfl
theorem Qe {l:List Oper}{x:Vu}(h:x∈AV P l 0 0):∃o,l[x.1]?=some o/\x=(x.1,iV P l x.1,o):=by
 obtain⟨k,hk,rfl⟩:=aBT h;rw[Gr]at hk;have h1:=JX P l 0 0 k l[k] (aAV hk);rw[aAV (by rw[Gr];exact hk)]at h1;have h2:=aCB h1;rw[h2];simp only[aAT];exact⟨l[k],aAV hk,rfl⟩
theorem Yj {call:fT}{n:Nat}{ops:Array Oper}{as:List (Option Nat)}{eI:List TR}{ch:List St}{yp mT kY:St}{zz FU:Fr}(dq:tM P ops.toList yp as mT)(jH:Gv (ops.toList.zip as) P call n ops 0 0 zz mT eI ch FU kY)(qJ:∀(j:Nat) (o:Oper),ops.toList[j]?=some o->oU P o=false){k:Nat}:
 ∀{k':Nat},k<=k'->k'<=ops.toList.length->(∀(j:Nat) (o:Oper),k<=j->j<k'->ops.toList[j]?=some o->mg P o=false)->jD eI kY k'=jD eI kY k:=by
 intro k'
 induction k' with
 |zero=>intro h _ _;have:k=0:=by omega
        subst this;rfl
 |succ k' ih=>
  intro h hl hw
  by_cases hk:k=k'+1
  ·subst hk;rfl
  have i1:=ih (by omega) (by omega) (fun j o h1 h2=>hw j o h1 (by omega));have ho:ops.toList[k']?=some ops.toList[k']:=aAV (by omega);generalize ops.toList[k']=o at ho;obtain⟨t,ab,h1,h2,h3,h4,h5,h6,h7,h8,h9,FO,h11⟩:=mD dq jH ho;rw[<-jH.pv k' t h1,<-i1,qY (hw k' o (by omega) (by omega) ho) (qJ k' o ho) FO];unfold jD;rw[h1]
theorem P7 {b:Bool}{p q:Prop}(h:cj b p q):q/\(b=false->p):=by
 cases b with
 |true=>exact⟨h,fun e=>by cases e⟩
 |false=>exact⟨h.2,fun _=>h.1⟩
theorem R5 {ops:Array Oper}{a:List Vu}{t:TR}:∀{chain:List St} {c0:Nat},R6 P ops a t c0 chain->∀(j:Nat) (s:St),chain[j]?=some s->IU P ops a t.i t.c (c0+j)=false->reW P ops t s:=by
 intro chain
 induction chain with
 |nil=>intro c0 _ j s h;simp at h
 |cons s0 r ih=>
  intro c0 h j s hj hs;obtain⟨h1,h2⟩:=P7 (show cj _ _ _ from h);cases j with
  |zero=>simp at hj;subst hj;exact h2 hs
  |succ j=>exact ih h1 j s (by simpa using hj) (by rw[show c0+1+j=c0+(j+1) by omega];exact hs)
theorem RZ {ops:Array Oper}{a:List Vu}{chain:List St}:∀{eI:List TR},NY P ops a chain eI->∀t∈eI,oU P t.o=false->mg P t.o=false->Gp P t.o=false->R6 P ops a t 0 chain:=by
 intro eI
 induction eI with
 |nil=>intro _ t h;cases h
 |cons t0 r ih=>
  intro h t ht h1 h2 h3;simp only[NY]at h;rcases aAX.1 ht with rfl|ht
  ·rw[h1,h2,h3]at h;exact h.1
  ·split at h
   ·exact ih h t ht h1 h2 h3
   ·exact ih h.2 t ht h1 h2 h3
theorem NZ {ops:Array Oper}{b j:Nat}{chain:List St}:∀{eI:List TR},I9 P ops b j eI chain->∀u∈eI,mg P u.o=true->fG ops ops.size u.i j=false->fG ops ops.size j u.i=false->
 (u.i<j->u.s.mem.get b=none)/\(j<u.i->u.s1.mem.get b=u.s.mem.get b):=by
 intro eI
 induction eI with
 |nil=>intro _ t h;cases h
 |cons t0 r ih=>
  intro h t ht h1 h2 h3;obtain⟨k1,k2⟩:=P7 (show cj _ _ _ from h);rcases aAX.1 ht with rfl|ht
  ·have:=k2 (by rw[h1,h2,h3];rfl);constructor
   ·intro hlt;rw[show Nat.ble (t.i+1) j=true by rw[aBy];exact hlt]at this;exact this
   ·intro hlt;rw[show Nat.ble (t.i+1) j=false by cases hb:Nat.ble (t.i+1) j with|false=>rfl|true=>rw[aBy]at hb;omega]at this;exact this
  ·exact ih k1 t ht h1 h2 h3
theorem R4 {ops:Array Oper}{all:List TR}{chain:List St}:∀{eI:List TR},N0 P ops all chain eI->∀t∈eI,oU P t.o=true->∀b,t.ab=some b->I9 P ops b t.i all chain:=by
 intro eI
 induction eI with
 |nil=>intro _ t h;cases h
 |cons t0 r ih=>
  intro h t ht h1 b hb;simp only[N0]at h;rcases aAX.1 ht with rfl|ht
  ·rw[h1]at h;have:=h.1;rw[hb]at this;exact this
  ·split at h
   ·exact ih h t ht h1 b hb
   ·exact ih h.2 t ht h1 b hb
theorem PU {n:Nat}{ops:Array Oper}{fr:Fr}{st:St}{k:Fr->St->Prop}(h:PV P (oJ P lvs I) n ops fr st k):
 ∃fr' st',(∃N,∀m,N<=m->fy P (RF P lvs I m) n ops fr st= .norm fr' st')/\k fr' st':=by
 obtain⟨abK,h⟩:=h;have hst:=Hc abK;obtain⟨as,gh,dq,hk⟩:=IZ (P:=P) ops.toList st;rw[hk]at h;obtain⟨eI,ch,fr',st',⟨N,hN⟩,hR,hL,GN⟩:=Kk h;refine⟨fr',st',⟨N,fun m hm=> ?_⟩,GN⟩;have OA:=hN m hm;unfold fy;rw[hk,OA];dsimp only;have Dl:(ops.toList.zip as).map (·.1)=ops.toList:=List.map_fst_zip (by rw[dq.len];exact aAU _);have jH:=D8 OA (by rw[Dl];exact hst.s3)
 have acn:∀(i:Nat) (o:Oper),ops.toList[i]?=some o->(i,iV P ops.toList i,o)∈AV P ops.toList 0 0:=fun i o hoi=>by
  have:=JX P ops.toList 0 0 i o hoi;simp only[aAT]at this;exact aBO this
 rw[aBb];refine⟨hst, ?_, ?_⟩
 ·intro i t WK htw htB c s hc;have hoi:=wM dq jH WK;obtain⟨t',ab,g1,vE,g2,g3,g4,g5,g6,g7,g8,Ra,g11⟩:=mD dq jH hoi;rw[WK]at g1;cases g1
  have hu:∀u∈AV P ops.toList 0 0,mg P u.2.2=true->∃tu∈eI,tu.w=true/\tu.c=u.2.1/\tu.i=u.1:=by
   intro u hu huw;obtain⟨ou,ho,e⟩:=Qe hu;obtain⟨tu,_,k1,_,k2,k3,k4,k5,k6,_⟩:=mD dq jH ho;have e2:u.2.2=ou:=by rw[e]
   have e3:u.2.1=iV P ops.toList u.1:=by rw[e]
   exact⟨tu,aBO k1,by rw[k5,<-e2];exact huw,by rw[k6,e3],k2⟩
  cases U3:Gp P t.o with
  |true=>exact .inr (.inr (by rw[g3];exact Ha U3 htB Ra s))
  |false=>
   cases iL:IU P ops (AV P ops.toList 0 0) t.i t.c c with
   |true=>
    unfold IU at iL;simp only[aBS,aBp,aBB,zQ]at iL;rcases iL with⟨Fh,iL⟩|⟨u,Zm,Ur,QH⟩|⟨u,Zm,Ur,QH⟩
    ·have qJ:∀(j:Nat) (o:Oper),ops.toList[j]?=some o->oU P o=false:=fun j o hj=>by
      unfold noB at Fh;rw[nM]at Fh;have:=Fh _ (acn j o hj)
      simpa using this
     have DQ:=(aBg.1 hoi).1;obtain⟨k2,n1,n2,n3,n4,n5,n6⟩:=vf dq jH (ops.toList.length-i) i (by omega);have e6:=Yj dq jH qJ n1 n2 n3;have e7:jD eI st' i=t.s:=by unfold jD;rw[WK]
     rw[iL,g6,n5]at hc;cases hc;refine .inr (.inr ⟨t.s1, ?_⟩);rw[e6,e7,g3];exact Ra
    ·simp only[aBy]at QH;obtain⟨tu,k1,k2,k3,k4⟩:=hu u Zm Ur;exact .inl ⟨tu,k1,k2,by rw[k3];exact QH.1,by rw[k4];exact QH.2⟩
    ·simp only[aBy]at QH;obtain⟨tu,k1,k2,k3,k4⟩:=hu u Zm Ur;exact .inr (.inl ⟨tu,k1,k2,by rw[k3];exact QH.1,by rw[k4];exact QH.2⟩)
   |false=>
    refine .inr (.inr ?_);have h1:=R5 (RZ hR t (aBO WK) htB htw U3) c s hc (by rw[aAT];exact iL);obtain⟨v,s1,⟨N1,QY⟩,hv⟩:=Hb h1;subst hv;exact⟨s1,Cl htw (QY N1 (aAU _))⟩
 ·intro j tj b hj hjB hjb d td hd hdW a1 a2;have QK:=wM dq jH hj;have hod:=wM dq jH hd;obtain⟨tj',_,m1,m5,m2,m3,_,_,m4,_⟩:=mD dq jH QK;rw[hj]at m1;cases m1;obtain⟨td',_,p1,_,p2,_,p3,_,p4,_,_,_,p11⟩:=mD dq jH hod;rw[hd]at p1;cases p1
  have hb:tj.ab=some b:=by
   rw[hjb]at m5;have:=aCB m5;rw[m3,<-this]
  have h1:=NZ (R4 hL tj (aBO hj) hjB b hb) td (aBO hd) hdW (by rw[p2,m2];exact a1) (by rw[p2,m2];exact a2);rw[p2,m2]at h1;have e1:=p11 hdW;rw[<-p4]at e1;constructor
  ·intro hlt s hs;rw[e1]at hs;cases hs;exact h1.1 hlt
  ·intro hlt s s' hs tD;rw[e1]at hs;cases hs;have e2:(ch++[st'])[td.c+1]?=some td.s1\/True:= .inr trivial;obtain⟨k2,n1,n2,n3,n4,n5,n6⟩:=vf dq jH (ops.toList.length-(d+1)) (d+1) (by have:=(aBg.1 hod).1;omega);have e3:iV P ops.toList (d+1)=td.c+1:=by rw[nK hod,hdW,p4];rfl
   rw[e3]at n5;rw[n5]at tD;cases tD;obtain⟨q1,q2⟩:=gap dq jH n1 n2 n3;have e4:jD eI st' (d+1)=td.s1:=(jH.pv d td hd).symm
   by_cases jx:∃j2 t2,d+1<=j2/\j2<k2/\eI[j2]?=some t2/\oU P t2.o=true/\as[j2]?=some (some b)
   ·exfalso;obtain⟨j2,t2,r1,r2,r3,r4,r5⟩:=jx;have:=dq.uniq j j2 b hjb r5;omega
   ·rw[q2 b (fun j2 t2 r1 r2 r3 r4 r5=>jx ⟨j2,t2,r1,r2,r3,r4,r5⟩),e4];exact h1.2 hlt
def KR (kn:Fr->St->Prop)(ke:Nat->Fr->St->Prop)(kr:Fr->St->Prop):Rs->Prop
 | .norm fr st=>kn fr st
 | .exit i fr st=>ke i fr st
 | .ret fr st=>kr fr st
 | .bad=>False
theorem P6 {n:Nat}{lv:Nat->Option (List Nat)}(c:Code):∀{fr:Fr} {st:St} {kn:Fr->St->Prop} {ke:Nat->Fr->St->Prop} {kr:Fr->St->Prop},iI P (oJ P lvs I) lv n c fr st kn ke kr->
 ∃r,(∃N,∀m,N<=m->kZ P (RF P lvs I m) (fy P) lv m n c fr st=r)/\KR kn ke kr r:=by
 induction c with
 |skip=>intro fr st kn ke kr h;exact⟨.norm fr st,⟨0,fun _ _=>rfl⟩,h⟩
 |region id ops draw=>
  intro fr st kn ke kr h;cases draw with
  |true=>
   obtain⟨fr',st',⟨N,hN⟩,h1⟩:=PU (show PV P (oJ P lvs I) n ops fr st kn from h);exact⟨.norm fr' st',⟨N,fun m hm=>hN m hm⟩,h1⟩
  |false=>
   obtain⟨fr',st',⟨N,hN⟩,h1⟩:=RP (show RQ P (oJ P lvs I) n ops ops.toList fr st kn from h);exact⟨.norm fr' st',⟨N,fun m hm=>hN m hm⟩,h1⟩
 |seq x y hx hy=>
  intro fr st kn ke kr h
  have key:iI P (oJ P lvs I) lv n x fr st (fun fr st=>iI P (oJ P lvs I) lv n y (wE (lv (GV y)) fr) st kn ke kr) ke kr:=by
   have h':(match lv (GV y)with
    |none=>iI P (oJ P lvs I) lv n x fr st (fun fr st=>iI P (oJ P lvs I) lv n y fr st kn ke kr) ke kr
    |some L=>ew (fun vs st=>iI P (oJ P lvs I) lv n y (Ja L vs) st kn ke kr) fun k=>iI P (oJ P lvs I) lv n x fr st (fun fr st=>k (L.map (fB fr)) st) ke kr):=h
   cases hl:lv (GV y)with
   |none=>rw[hl]at h';exact h'
   |some L=>rw[hl]at h';exact h'
  obtain⟨r,⟨N,hN⟩,hr⟩:=hx key;cases r with
  |norm lE gh=>
   obtain⟨r2,⟨N2,hN2⟩,Aj⟩:=hy (show iI P (oJ P lvs I) lv n y (wE (lv (GV y)) lE) gh kn ke kr from hr);refine⟨r2,⟨max N N2,fun m hm=> ?_⟩,Aj⟩;show tr (kZ P (RF P lvs I m) (fy P) lv m n x fr st) _=r2;rw[hN m (by omega)];exact hN2 m (by omega)
  |exit i lE gh=>
   refine⟨.exit i lE gh,⟨N,fun m hm=> ?_⟩,hr⟩;show tr (kZ P (RF P lvs I m) (fy P) lv m n x fr st) _=_;rw[hN m hm];rfl
  |ret lE gh=>
   refine⟨.ret lE gh,⟨N,fun m hm=> ?_⟩,hr⟩;show tr (kZ P (RF P lvs I m) (fy P) lv m n x fr st) _=_;rw[hN m hm];rfl
  |bad=>exact(show False from hr).elim
 |cond c x y hx hy=>
  intro fr st kn ke kr h;have h':Iw fr c (iI P (oJ P lvs I) lv n x fr st kn ke kr) (iI P (oJ P lvs I) lv n y fr st kn ke kr):=h;have e:∀m,kZ P (RF P lvs I m) (fy P) lv m n (.cond c x y) fr st=BQ c (kZ P (RF P lvs I m) (fy P) lv m n x) (kZ P (RF P lvs I m) (fy P) lv m n y) fr st:=fun _=>rfl;unfold Iw at h';cases hc:eU c with
  |none=>rw[hc]at h';exact h'.elim
  |some a=>
   rw[hc]at h';dsimp only at h';unfold aB at h'
   split at h'
   ·rename_i hv;obtain⟨r,⟨N,hN⟩,hr⟩:=hx h';exact⟨r,⟨N,fun m hm=>by rw[e];unfold BQ;rw[hc];dsimp only;rw[hv];exact hN m hm⟩,hr⟩
   ·rename_i hv;obtain⟨r,⟨N,hN⟩,hr⟩:=hy h';exact⟨r,⟨N,fun m hm=>by rw[e];unfold BQ;rw[hc];dsimp only;rw[hv];exact hN m hm⟩,hr⟩
   ·exact h'.elim
 |block id x hx=>
  intro fr st kn ke kr h;obtain⟨r,⟨N,hN⟩,hr⟩:=hx (show iI P (oJ P lvs I) lv n x fr st kn (fun i fr st=>bif Nat.beq i id then kn fr st else ke i fr st) kr from h);refine⟨rB id r,⟨N,fun m hm=> ?_⟩, ?_⟩
  ·show rB id (kZ P (RF P lvs I m) (fy P) lv m n x fr st)=_;rw[hN m hm]
  ·cases r with
   |norm lE gh=>exact hr
   |ret lE gh=>exact hr
   |bad=>exact hr
   |exit i lE gh=>
    have Ak:(bif Nat.beq i id then kn lE gh else ke i lE gh):=hr;show KR kn ke kr (bC (Nat.beq i id) (.norm lE gh) (.exit i lE gh));cases hb:Nat.beq i id with
    |true=>rw[hb]at Ak;exact Ak
    |false=>rw[hb]at Ak;exact Ak
 |loop x hx=>
  intro fr st kn ke kr h
  have h':(match lv (GV x)with
   |none=>False
   |some L=>dn (fun vs st next=>iI P (oJ P lvs I) lv n x (Ja L vs) st (fun fr st=>next (L.map (fB fr)) st) ke kr) (L.map (fB fr)) st):=h
  cases hl:lv (GV x)with
  |none=>rw[hl]at h';exact h'.elim
  |some L=>
   rw[hl]at h';obtain⟨m0,K0⟩:=h'
   have key:∀(m0:Nat) (fr:Fr) (st:St),EU (fun vs st next=>iI P (oJ P lvs I) lv n x (Ja L vs) st (fun fr st=>next (L.map (fB fr)) st) ke kr) m0 (L.map (fB fr)) st->
    ∃r,(∃N,∀m,N<=m->∀j,m0<=j->wX (kZ P (RF P lvs I m) (fy P) lv m n x) (some L) j fr st=r)/\KR kn ke kr r:=by
    intro m0
    induction m0 with
    |zero=>intro fr st hh;exact hh.elim
    |succ m0 ih=>
     intro fr st hh;obtain⟨r,⟨N,hN⟩,hr⟩:=hx (show iI P (oJ P lvs I) lv n x (Ja L (L.map (fB fr))) st (fun fr st=>EU (fun vs st next=>iI P (oJ P lvs I) lv n x (Ja L vs) st (fun fr st=>next (L.map (fB fr)) st) ke kr) m0 (L.map (fB fr)) st) ke kr from hh);cases r with
     |norm lE gh=>
      obtain⟨r2,⟨N2,hN2⟩,Aj⟩:=ih lE gh hr;refine⟨r2,⟨max N N2,fun m hm j hj=> ?_⟩,Aj⟩;obtain⟨j,rfl⟩:∃i,j=i+1:=⟨j-1,by omega⟩;show tr (kZ P (RF P lvs I m) (fy P) lv m n x (wE (some L) fr) st) _=r2;rw[show wE (some L) fr=Ja L (L.map (fB fr))from rfl,hN m (by omega)];exact hN2 m (by omega) j (by omega)
     |exit i lE gh=>
      refine⟨.exit i lE gh,⟨N,fun m hm j hj=> ?_⟩,hr⟩;obtain⟨j,rfl⟩:∃i,j=i+1:=⟨j-1,by omega⟩;show tr (kZ P (RF P lvs I m) (fy P) lv m n x (wE (some L) fr) st) _=_;rw[show wE (some L) fr=Ja L (L.map (fB fr))from rfl,hN m hm];rfl
     |ret lE gh=>
      refine⟨.ret lE gh,⟨N,fun m hm j hj=> ?_⟩,hr⟩;obtain⟨j,rfl⟩:∃i,j=i+1:=⟨j-1,by omega⟩;show tr (kZ P (RF P lvs I m) (fy P) lv m n x (wE (some L) fr) st) _=_;rw[show wE (some L) fr=Ja L (L.map (fB fr))from rfl,hN m hm];rfl
     |bad=>exact(show False from hr).elim
   obtain⟨r,⟨N,hN⟩,hr⟩:=key m0 fr st K0;refine⟨r,⟨max N m0,fun m hm=> ?_⟩,hr⟩;show wX (kZ P (RF P lvs I m) (fy P) lv m n x) (lv (GV x)) m fr st=r;rw[hl];exact hN m (by omega) m (by omega)
 |exit id=>intro fr st kn ke kr h;exact⟨.exit id fr st,⟨0,fun _ _=>rfl⟩,h⟩
 |scope x hx=>intro fr st kn ke kr h;exact hx h
 |label l=>intro fr st kn ke kr h;exact⟨.norm fr st,⟨0,fun _ _=>rfl⟩,h⟩
 |ret=>intro fr st kn ke kr h;exact⟨.ret fr st,⟨0,fun _ _=>rfl⟩,h⟩
 |rangeFunc f ps x y hx hy=>intro fr st kn ke kr h;exact(show False from h).elim
 |goto l=>intro fr st kn ke kr h;exact(show False from h).elim
 |refuse y=>intro fr st kn ke kr h;exact(show False from h).elim
theorem Ny {fr:Fr}{st:St}:∀{l:List ResultVar} {k:List CV->Prop},yE P fr st l k->∃vs,Hr P fr st l=some vs/\k vs:=by
 intro l
 induction l with
 |nil=>intro k h;exact⟨[],rfl,h⟩
 |cons r l ih=>
  intro k h;have e:Hr P fr st (r::l)=(match Bf P fr st r,Hr P fr st l with|some v,some l=>some (v::l)|_,_=>none):=rfl;cases r with
  |tmp t=>
   obtain⟨vs,h1,h2⟩:=ih (show yE P fr st l fun vs=>k (fB fr t::vs)from h);exact⟨_,by rw[e,h1];rfl,h2⟩
  |cell a t=>
   simp only[yE]at h
   split at h
   ·rename_i u i hu hi
    have e1:Bf P fr st (.cell a t)=(match (bif ib u then aI i.size (fB fr a) st else aC (fB fr a) st)with| .ok v _=>some v| .bad=>none):=by
     show(match P.underlying t,P.info? t with
      |some u,some i=>(match bC (ib u) (aI i.size (fB fr a) st) (aC (fB fr a) st)with| .ok v _=>some v| .bad=>none)
      |_,_=>none)=_
     rw[hu,hi];dsimp only;rw[aM];cases ib u<;>rfl
    generalize (bif ib u then aI i.size (fB fr a) st else aC (fB fr a) st)=rr at h e1;cases rr with
    |bad=>exact h.elim
    |ok v s=>
     obtain⟨vs,h1,h2⟩:=ih (show yE P fr st l fun vs=>k (v::vs)from h);exact⟨_,by rw[e,h1,e1],h2⟩
   ·exact h.elim
theorem RI {fr:Fr}{st:St}{l:List ResultVar}{Q:CV->St->Prop}(h:RJ P fr st l Q):upon (Ay P fr st l) Q:=by
 obtain⟨vs,h1,h2⟩:=Ny h;unfold Ay;rw[h1];cases vs with
 |nil=>exact h2
 |cons v vs=>cases vs with
  |nil=>exact h2
  |cons u vs=>exact h2
def aaz (P:Program)(l:List ResultVar)(r:Rs):OR:=match r with| .norm fr st=>Ay P fr st l| .exit _ _ _=> .bad| .ret fr st=>Ay P fr st l| .bad=> .bad
theorem zW {f:Nat}{args:List CV}{st:St}{Q:CV->St->Prop}(hI:I f args st=none)(h:aP P (oJ P lvs I) (lvs f) f args st Q):oJ P lvs I f args st Q:=by
 unfold aP at h
 split at h
 ·rename_i fn FG hfn
  split at h
  ·rename_i c hb;obtain⟨r,⟨N,hN⟩,hr⟩:=P6 c h
   have e:∀m,N<=m->RF P lvs I (m+1) f args st=aaz P fn.results.toList r:=by
    intro m hm;unfold RF;simp only[Ax,hI];unfold DA;have:=hN m hm;unfold RF at this;rw[FG,aM,aBb rfl,hfn];dsimp only;rw[hb];dsimp only;rw[this];cases r<;>rfl
   have fin:∀lE gh,RJ P lE gh fn.results.toList Q->(∀m,N<=m->RF P lvs I (m+1) f args st=Ay P lE gh fn.results.toList)->oJ P lvs I f args st Q:=by
    intro lE gh WJ he;have hu:=RI WJ;cases HU:Ay P lE gh fn.results.toList with
    |bad=>rw[HU]at hu;exact hu.elim
    |ok v tX=>
     rw[HU]at hu;refine⟨v,tX,⟨N+1,fun m hm=> ?_⟩,hu⟩;obtain⟨m,rfl⟩:∃i,m=i+1:=⟨m-1,by omega⟩;rw[he m (by omega),HU]
   cases r with
   |norm lE gh=>exact fin lE gh hr (fun m hm=>e m hm)
   |ret lE gh=>exact fin lE gh hr (fun m hm=>e m hm)
   |exit i lE gh=>exact(show False from hr).elim
   |bad=>exact(show False from hr).elim
  ·exact h.elim
 ·exact h.elim
theorem Gx {f:Nat}{args:List CV}{st:St}{Q:CV->St->Prop}{v:CV}{st':St}(hI:I f args st=some (.ok v st'))(h:Q v st'):oJ P lvs I f args st Q:=by
 refine⟨v,st',⟨1,fun m hm=> ?_⟩,h⟩;obtain⟨m,rfl⟩:∃i,m=i+1:=⟨m-1,by omega⟩;unfold RF;simp only[Ax,hI]
theorem oJ.out (hm:P.follows .mixedOrders=true)(hI:mZ P I){f:Nat}{args:List CV}{st:St}{Q:CV->St->Prop}(h:oJ P lvs I f args st Q):∃v st',qz P f args st v st'/\Q v st':=by
 obtain⟨v,st',⟨N,hN⟩,hq⟩:=h;exact⟨v,st',yC (nm hm) hI N f args st v st' (hN N (aAU _)),hq⟩
end
@[simp] theorem af (v:CV)(st:St)(k:CV->Prop):us (.ok v st) k=k v:=id rfl
@[simp] theorem aip (k:CV->Prop):us .bad k=False:=id rfl
@[simp] theorem aT (v:CV)(st:St)(k:CV->St->Prop):upon (.ok v st) k=k v st:=id rfl
@[simp] theorem aag (k:CV->St->Prop):upon .bad k=False:=id rfl
@[simp] theorem ag (b:Bool)(x y:Prop):aB (.bool b) x y=if b=true then x else y:=by cases b<;>simp[aB]
@[simp] theorem aG (b c:Bool):al b (.bool c)=some (if b=true then c else !c):=by cases b<;>rfl
@[simp] theorem wL (b:Bool):al b .undef=some false:=id rfl
@[simp] theorem bh (st:St)(r:OR):bg (some true) st r=r:=id rfl
@[simp] theorem cc (st:St)(r:OR):bg (some false) st r= .ok .undef st:=id rfl
@[simp] theorem ea (st:St)(y:(CV->St->Prop)->Prop)(k:CV->St->Prop):gE (some true) st y k=y k:=id rfl
@[simp] theorem xq (st:St)(y:(CV->St->Prop)->Prop)(k:CV->St->Prop):gE (some false) st y k=k .undef st:=id rfl
@[simp] theorem bG (p:Prop):cn p=p:=by simp[cn]
@[simp] theorem db (k:List CV->St->Prop)(b:(List CV->St->Prop)->Prop):ew k b=b k:=id rfl
@[simp] theorem aK (v:CV)(l:List CV):aw 0 (v::l)=v:=id rfl
@[simp] theorem aL (i:Nat)(v:CV)(l:List CV):aw (i+1) (v::l)=aw i l:=id rfl
@[simp] theorem dQ (C:aY)(g:Nat)(f c args:List CV)(st:St)(k:CV->St->Prop):fD C (.func (.func g) f c) args st k=C g (f++(args++c)) st k:=id rfl
@[simp] theorem aF (c:Bool)(a b:CV)(st:St):bk (.bool c) a b st=if c=true then .ok a st else .ok b st:=by cases c<;>rfl
@[simp] theorem MX (c:Prop)[Decidable c](a b:OR)(k:CV->Prop):us (if c then a else b) k=if c then us a k else us b k:=by split<;>rfl
@[simp] theorem aaf (c:Prop)[Decidable c](a b:OR)(k:CV->St->Prop):upon (if c then a else b) k=if c then upon a k else upon b k:=by split<;>rfl
@[simp] theorem av (op:BinOp)(d:Option jL)(c:Bool)(k j:IntKind)(a b:Int)(st:St):aj op d c (.int k a) (.int j b) st=jr op k a j b st:=id rfl
@[simp] theorem cN (k:IntKind)(a b:Int)(st:St):jr .add k a k b st= .ok (.int k (k.wrap (a+b))) st:=by simp[jr,la]
@[simp] theorem dJ (k:IntKind)(a b:Int)(st:St):jr .sub k a k b st= .ok (.int k (k.wrap (a-b))) st:=by simp[jr,la]
@[simp] theorem jQ (k:IntKind)(a b:Int)(st:St):jr .mul k a k b st= .ok (.int k (k.wrap (a*b))) st:=by simp[jr,la]
@[simp] theorem NQ (k:IntKind)(a b:Int)(st:St):jr .quo k a k b st=if b=0 then .bad else .ok (.int k (k.wrap (Int.tdiv a b))) st:=by simp[jr,la]
@[simp] theorem NP (k:IntKind)(a b:Int)(st:St):jr .rem k a k b st=if b=0 then .bad else .ok (.int k (Int.tmod a b)) st:=by simp[jr,la]
@[simp] theorem cB (k:IntKind)(a b:Int)(st:St):jr .eql k a k b st= .ok (.bool (decide (a=b))) st:=by simp[jr,la]
@[simp] theorem fj (k:IntKind)(a b:Int)(st:St):jr .neq k a k b st= .ok (.bool (!decide (a=b))) st:=by simp[jr,la]
@[simp] theorem de (k:IntKind)(a b:Int)(st:St):jr .lss k a k b st= .ok (.bool (decide (a<b))) st:=by simp[jr,la]
@[simp] theorem nt (k:IntKind)(a b:Int)(st:St):jr .leq k a k b st= .ok (.bool (decide (a<=b))) st:=by simp[jr,la]
@[simp] theorem dj (k:IntKind)(a b:Int)(st:St):jr .gtr k a k b st= .ok (.bool (decide (b<a))) st:=by simp[jr,la]
@[simp] theorem rl (k:IntKind)(a b:Int)(st:St):jr .geq k a k b st= .ok (.bool (decide (b<=a))) st:=by simp[jr,la]
@[simp] theorem eT (op:BinOp)(d:Option jL)(c:Bool)(a b:List UInt8)(st:St):aj op d c (.str a) (.str b) st=rj op a b st:=id rfl
theorem bD {x:Int}(h: -9223372036854775808<=x/\x<=9223372036854775807):IntKind.i64.wrap x=x:=IntWalk.i64_in _ h
@[simp] theorem cX (c:Bool)(b o:Nat)(st:St):aj .eql (some .ptr) c (.ptr b o) .bz st= .ok (.bool false) st:=id rfl
@[simp] theorem QB (c:Bool)(b o:Nat)(st:St):aj .neq (some .ptr) c (.ptr b o) .bz st= .ok (.bool true) st:=id rfl
@[simp] theorem TZ (c:Bool)(st:St):aj .eql (some .slice) c .ae .ae st= .ok (.bool true) st:=id rfl
@[simp] theorem du (b:Bool)(st:St):mo .not (.bool b) st= .ok (.bool (!b)) st:=id rfl
def okO (o:Option Bool)(st:St):OR:=match o with|some b=> .ok (.bool b) st|none=> .bad
@[simp] theorem aaJ (b:Bool)(st:St):okO (some b) st= .ok (.bool b) st:=id rfl
theorem uY (d:jL)(c:Bool)(s t:List CV)(st:St):aj .eql (some d) c (.agg s) (.agg t) st=okO (mh d (.agg s) (.agg t)) st:=by
 simp only[aj,Y3,LG];cases mh d (.agg s) (.agg t)<;>rfl
theorem uX (d:jL)(c:Bool)(s t:List CV)(st:St):aj .neq (some d) c (.agg s) (.agg t) st=okO ((mh d (.agg s) (.agg t)).map (!·)) st:=by
 simp only[aj,Y3,LG];cases mh d (.agg s) (.agg t)<;>rfl
@[simp] theorem aD (a:CV)(l:List CV)(st:St):aA (.tuple (a::l)) 0 st= .ok a st:=id rfl
@[simp] theorem aJ (a:CV)(l:List CV)(i:Nat)(st:St):aA (.tuple (a::l)) (i+1) st=aA (.tuple l) i st:=id rfl
@[simp] theorem ns (b o l c g:Nat)(st:St):bo .slice (.slice b o l c g) st= .ok (.int .i64 l) st:=id rfl
@[simp] theorem rk (st:St):bo .slice .ae st= .ok (.int .i64 0) st:=id rfl
@[simp] theorem fh (l:List UInt8)(st:St):bo .str (.str l) st= .ok (.int .i64 l.length) st:=id rfl
@[simp] theorem lW (fn:Fn)(f c:List CV)(st:St):qD fn f c st= .ok (.func fn f c) st:=id rfl
def L5 (o:Option qS)(k:List CV->Prop):Prop:=match o with|some (.cells l _ _)=>k l|some (.ro l _)=>k l|_=>False
def onT (o:Option qS)(k:List CV->TypeId->Bool->Prop):Prop:=match o with|some (.cells l t g)=>k l t g|_=>False
def Y4 (o:Option CV)(k:CV->Prop):Prop:=match o with|some v=>k v|none=>False
def onL (o:Option (List CV))(k:List CV->Prop):Prop:=match o with|some v=>k v|none=>False
@[simp] theorem ar (l:List CV)(t:TypeId)(g:Bool)(k:List CV->Prop):L5 (some (.cells l t g)) k=k l:=id rfl
@[simp] theorem wh (l:List CV)(o:Obj)(k:List CV->Prop):L5 (some (.ro l o)) k=k l:=id rfl
@[simp] theorem aS (l:List CV)(t:TypeId)(g:Bool)(k:List CV->TypeId->Bool->Prop):onT (some (.cells l t g)) k=k l t g:=id rfl
@[simp] theorem au (v:CV)(k:CV->Prop):Y4 (some v) k=k v:=id rfl
@[simp] theorem NV (v:List CV)(k:List CV->Prop):onL (some v) k=k v:=id rfl
@[simp] theorem az (b off:Nat)(st:St)(k:CV->Prop):us (aC (.ptr b off) st) k=L5 (st.mem.get b) fun l=>Y4 l[off]? k:=by
  simp only[aC];cases st.mem.get b with
  |none=>rfl
  |some blk=>cases blk<;>first|rfl|(rename_i l t g;simp only[L5];cases l[off]?<;>rfl)|(rename_i l _;simp only[L5];cases l[off]?<;>rfl)
@[simp] theorem qX (n b off:Nat)(st:St)(k:CV->Prop):us (aI n (.ptr b off) st) k=L5 (st.mem.get b) fun l=>onL (gX l off n) fun s=>k (.agg s):=by
  simp only[aI];cases st.mem.get b with
  |none=>rfl
  |some blk=>cases blk<;>first|rfl|(rename_i l t g;simp only[L5];cases gX l off n<;>rfl)|(rename_i l _;simp only[L5];cases gX l off n<;>rfl)
@[simp] theorem bA (b o:Nat)(st:St):dU (.ptr b o) st= .ok (.ptr b o) st:=id rfl
@[simp] theorem ah (off b o:Nat)(st:St):an off (.ptr b o) st= .ok (.ptr b (o+off)) st:=id rfl
@[simp] theorem iF (k:IntKind)(n:Int):CV.cK (.int k n)=[.int k n]:=id rfl
@[simp] theorem Y0 (b:Bool):CV.cK (.bool b)=[.bool b]:=id rfl
@[simp] theorem VN (b o l c g:Nat):CV.cK (.slice b o l c g)=[.slice b o l c g]:=id rfl
@[simp] theorem Qz:CV.cK .ae=[.ae]:=id rfl
@[simp] theorem El (b o:Nat):CV.cK (.ptr b o)=[.ptr b o]:=id rfl
@[simp] theorem aax (b:Nat):CV.cK (.map b)=[.map b]:=id rfl
@[simp] theorem Ek (l:List UInt8):CV.cK (.str l)=[.str l]:=id rfl
@[simp] theorem aU (l:List CV):CV.cK (.agg l)=l:=id rfl
@[simp] theorem Zh (k:IntKind)(n:Int):CV.isAny (.int k n)=false:=id rfl
@[simp] theorem Wu (b:Bool):CV.isAny (.bool b)=false:=id rfl
@[simp] theorem Un (b o l c g:Nat):CV.isAny (.slice b o l c g)=false:=id rfl
@[simp] theorem Zf (b o:Nat):CV.isAny (.ptr b o)=false:=id rfl
@[simp] theorem Zg (b:Nat):CV.isAny (.map b)=false:=id rfl
@[simp] theorem Ze (l:List UInt8):CV.isAny (.str l)=false:=id rfl
@[simp] theorem Zi (l:List CV):CV.isAny (.agg l)=false:=id rfl
@[simp] theorem RT:aX []=true:=id rfl
@[simp] theorem tx (v:CV)(l:List CV):aX (v::l)=(cq v&&aX l):=id rfl
@[simp] theorem qE (l m:List CV):aX (l++m)=(aX l&&aX m):=by simp[aX]
@[simp] theorem rn (l:List UInt8):aX (l.map bN)=true:=by
  simp only[aX,List.all_eq_true,aBv];rintro x ⟨b,_,rfl⟩;rfl
@[simp] theorem Uc (k:IntKind)(n:Int):cq (.int k n)=true:=id rfl
@[simp] theorem RU (b:Bool):cq (.bool b)=true:=id rfl
@[simp] theorem KI:cq .ae=true:=id rfl
@[simp] theorem Ub (b:Nat):cq (.map b)=true:=id rfl
def bt (l:List CV)(off:Nat)(t:List CV):List CV:=l.take off++(t++l.drop (off+t.length))
@[simp] theorem aH (n b off:Nat)(x:CV)(st:St)(k:CV->St->Prop):upon (aR n (.ptr b off) x st) k=
 onT (st.mem.get b) fun l t g=>(x.cK.length=n/\aX x.cK=true/\off+n<=l.length)/\k .undef (St.set st b (.cells (bt l off x.cK) t g)):=by
  simp only[aR];cases st.mem.get b with
  |none=>rfl
  |some blk=>
   cases blk with
   |cells l t g=>
    simp only[onT,aM,aBp,aBB]
    by_cases h:x.cK.length=n/\aX x.cK=true
    ·rw[aBb h];obtain⟨rfl,h2⟩:=h;unfold dR
     by_cases h3:off+x.cK.length<=l.length
     ·rw[aBb h3];simp only[upon,bt,h2,h3,aCV]
      rfl
     ·rw[aAZ h3];simp[upon,h3]
    ·rw[aAZ h];simp only[upon,eq_iff_iff,false_iff];rintro⟨⟨h1,h2,_⟩,_⟩;exact h ⟨h1,h2⟩
   |map es c=>rfl
   |lmap es=>rfl
   |ro l o=>rfl
@[simp] theorem rh (st:St)(b:Nat)(blk:qS):(St.set st b blk).next=st.next:=id rfl
theorem IW (st:St)(b q:Nat)(blk:qS):(St.set st b blk).mem.get q=if q=b then some blk else st.mem.get q:=rfl
@[simp] theorem ao (st:St)(b:Nat)(blk:qS):(St.set st b blk).mem.get b=some blk:=by simp[IW]
theorem ak (st:St)(b q:Nat)(blk:qS)(h:q≠b):(St.set st b blk).mem.get q=st.mem.get q:=by simp[IW,h]
@[simp] theorem vg (st:St)(blk:qS):(St.new st blk).next=st.next+1:=id rfl
theorem CQ (st:St)(q:Nat)(blk:qS):(St.new st blk).mem.get q=if q=st.next then some blk else st.mem.get q:=rfl
@[simp] theorem aq (st:St)(blk:qS):(St.new st blk).mem.get st.next=some blk:=by simp[CQ]
theorem aW (st:St)(q:Nat)(blk:qS)(h:q<st.next):(St.new st blk).mem.get q=st.mem.get q:=by simp[CQ,Nat.ne_of_lt h]
@[simp] theorem Ko (st:St):(St.skip st).next=st.next+1:=id rfl
@[simp] theorem Ei (st:St):(St.skip st).mem=st.mem:=id rfl
@[simp] theorem cM (t:TypeId)(z:List CV)(st:St):dD t z st= .ok (.ptr st.next 0) (St.new st (.cells z t false)):=id rfl
@[simp] theorem ja (st:St):jE none st= .ok (.map st.next) (St.new st (.map [] 0)):=id rfl
@[simp] theorem cr (t:TypeId)(x:CV)(st:St)(k:CV->St->Prop):upon (ig t x st) k=(x.isAny=false/\k (.ptr st.next 0) (St.new st (.cells x.cK t false))):=by
  unfold ig;cases h:x.isAny<;>simp
@[simp] theorem RV (c:Prop)[Decidable c](x:List CV)(k:List CV->Prop):onL (if c then some x else none) k=(c/\k x):=by
  by_cases h:c<;>simp[h,onL]
@[simp] theorem vd (l:List CV)(off n:Nat)(k:List CV->Prop):onL (gX l off n) k=(off+n<=l.length/\k ((l.drop off).take n)):=by
  unfold gX;exact RV _ _ _
@[simp] theorem set_set (st:St)(b:Nat)(x y:qS):St.set (St.set st b x) b y=St.set st b y:=by
  simp only[St.set,St.mk.injEq,and_true];exact PT.ext fun p=>by simp only[PT.eO];split<;>rfl
@[simp] theorem lX (l:List CV)(off:Nat)(t:List CV)(h:off+t.length<=l.length):(bt l off t).length=l.length:=by
  simp[bt];omega
theorem dO (z:List CV)(parts:List tn)(st:St):bJ z parts st=match fY parts z with|some s=> .ok (.agg s) st|none=> .bad:=by
 unfold bJ;cases fY parts z<;>rfl
theorem cI (off size:Nat)(x:CV)(l:List tn)(s:List CV):fY ((off,size,x)::l) s=if (x.cK.length=size/\x.isAny=false)/\off+x.cK.length<=s.length then fY l (bt s off x.cK)else none:=by
 have e:fY ((off,size,x)::l) s=bC (Nat.beq x.cK.length size&& !x.isAny) (Option.rec none (fun s'=>fY l s') (dR s off x.cK)) none:=rfl;rw[e];simp only[aM,aBp,aBB,aDA]
 by_cases h:x.cK.length=size/\x.isAny=false
 ·simp only[h,and_self,aBr,aCV];unfold dR bt
  by_cases h2:off+x.cK.length<=s.length
  ·rw[aBb h2,aBb (by rw[<-h.1];exact h2)]
  ·rw[aAZ h2,aAZ (by rw[<-h.1];exact h2)]
 ·rw[aAZ h,aAZ (fun h2=>h h2.1)]
@[simp] theorem kJ (s:List CV):fY [] s=some s:=id rfl
def cT (st:St):Prop:=∀b,st.next<=b->st.mem.get b=none
theorem cT.new {st:St}(h:cT st)(blk:qS):cT (St.new st blk):=fun b hb=>by
 simp only[vg]at hb;rw[CQ,aAZ (by omega)];exact h b (by omega)
theorem cT.skip {st:St}(h:cT st):cT (St.skip st):=fun b hb=>h b (by simp only[Ko]at hb;omega)
theorem cT.set {st:St}(h:cT st){p:Nat}(hp:p<st.next)(blk:qS):cT (St.set st p blk):=fun b hb=>by
 simp only[rh]at hb;rw[ak _ _ _ _ (by omega)];exact h b hb
structure Kp (F:List Nat)(st st':St):Prop where
 next:st.next<=st'.next
 keep:∀b,b<st.next->b∉F->st'.mem.get b=st.mem.get b
 fresh:cT st->cT st'
theorem Kp.refl (F:List Nat)(st:St):Kp F st st:=⟨aAU _,fun _ _ _=>rfl,id⟩
theorem Kp.trans {F G:List Nat}{a b c:St}(h:Kp F a b)(k:Kp G b c)(hg:∀q∈G,q∈F\/a.next<=q):Kp F a c:=
 ⟨aCq h.next k.next,fun q h1 h2=>by rw[k.keep q (aBs h1 h.next) (fun h3=>by rcases hg q h3 with h4|h4;exact h2 h4;omega),h.keep q h1 h2],fun hf=>k.fresh (h.fresh hf)⟩
theorem Kp.new {F:List Nat}{a b:St}(h:Kp F a b)(blk:qS):Kp F a (St.new b blk):=
 ⟨by have:=h.next;simp;omega,fun q h1 h2=>by rw[aW _ _ _ (aBs h1 h.next),h.keep q h1 h2],fun hf=>(h.fresh hf).new _⟩
theorem Kp.skip {F:List Nat}{a b:St}(h:Kp F a b):Kp F a (St.skip b):=⟨by have:=h.next;simp;omega,fun q h1 h2=>h.keep q h1 h2,fun hf=>(h.fresh hf).skip⟩
theorem Kp.set {F:List Nat}{a b:St}(h:Kp F a b){p:Nat}(blk:qS)(hp:p∈F\/a.next<=p)(hl:p<b.next):Kp F a (St.set b p blk):=
 ⟨h.next,fun q h1 h2=>by rw[ak _ _ _ _ (fun e=>by subst e;rcases hp with h3|h3;exact h2 h3;omega),h.keep q h1 h2],fun hf=>(h.fresh hf).set hl _⟩
theorem Kp.mono {F G:List Nat}{a b:St}(h:Kp F a b)(hs:∀q∈F,q∈G\/a.next<=q):Kp G a b:=
 ⟨h.next,fun q h1 h2=>h.keep q h1 fun h3=>by rcases hs q h3 with h4|h4;exact h2 h4;omega,h.fresh⟩
theorem jb {b e n:Nat}{z:List CV}{parts:List tn}{st:St}{s:List CV}(h:st.mem.get b=none)(hs:fY parts z=some s):fR b e n z parts st= .ok (.slice b 0 n n 0) (St.set st b (.cells s e false)):=by
 unfold fR;rw[h,hs];rfl
theorem EI {k n b:Nat}{z s:List CV}{e:TypeId}{g:Bool}{st:St}(h:st.mem.get b=some (.cells s e g))(hn:0<n)(hs:s.length=n*k):dg .slice k z (.slice b 0 n n 0) st=some (n,s):=by
 have e0:dg .slice k z (.slice b 0 n n 0) st=(match dH k n (.slice b 0 n n 0) st with|some s=>some (n,s)|none=>none):=rfl
 have e1:dH k n (.slice b 0 n n 0) st=some s:=by
  have e2:dH k n (.slice b 0 n n 0) st=bC (Nat.beq n 0) (some []) (bC (Bool.or (Nat.beq 0 0) (Nat.ble n n)) (match st.mem.get b with|some (.cells s _ _)=>gX s 0 (n*k)|some (.ro s _)=>gX s 0 (n*k)|_=>none) none):=rfl;have e3:Nat.beq n 0=false:=by cases h:Nat.beq n 0 with|false=>rfl|true=>rw[aBB]at h;omega
  rw[e2,e3,h];simp only[aM,aAR,aBf];rw[aBb (by simp)];unfold gX;rw[aBb (by omega),aBx,aBa (by omega)]
 rw[e0,e1]
