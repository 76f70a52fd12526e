import Derived.Test.YtomffjeofpafnaaGreatDoorLimE
namespace Lim
open Go
noncomputable section
def Az.bare:Az->Bool
 | .SX _| .pick .. | .nil _| .un .. | .GS .. | .iface .. | .func .. | .nj .. | .pI .. | .slice3 .. | .nm .. | .fieldAddr .. | .field .. =>true
 | .ud .. | .yM .. | .uc .. | .ue .. | .extract .. | .rh .. | .bin .. | .build .. =>true
 | .conv c _=>(match c with| .toInt _| .same=>true|_=>false)
 | .len k _=>(match k with| .map=>false|_=>true)
 |_=>false
structure bV (x y:OR):Prop where
 eq:∀v s,x= .ok v s->∃s',y= .ok v s'
section
variable {st st':St}
theorem bV.bad {y:OR}:bV .bad y:=⟨fun _ _ h=>by cases h⟩
theorem bV.ok (v:CV):bV (.ok v st) (.ok v st'):=⟨fun _ _ h=>by cases h;exact⟨_,rfl⟩⟩
theorem bV.bu {b:Bool}{x y x' y':OR}(hx:bV x x')(hy:bV y y'):bV (bu b x y) (bu b x' y'):=by cases b;exact hy;exact hx
theorem bV.opt {α:Type}{x:Option α}{n n':OR}{f f':α->OR}(hn:bV n n')(h:∀v,bV (f v) (f' v)):bV (Option.rec (motive:=fun _=>OR) n f x) (Option.rec (motive:=fun _=>OR) n' f' x):=by cases x;exact hn;exact h _
theorem bV.VW {op:BinOp}{k:IntKind}{a b:Int}:bV (ln op k a b st) (ln op k a b st'):=by
 cases op<;>simp only[ln]<;>first|exact bV.ok _|exact bV.bad|(split<;>first|exact bV.ok _|exact bV.bad)
theorem bV.int {op:BinOp}{k j:IntKind}{a b:Int}:bV (ju op k a j b st) (ju op k a j b st'):=by
 cases op<;>simp only[ju]<;>split<;>first|exact bV.ok _|exact bV.bad|exact bV.VW
theorem bV.str {op:BinOp}{a b:List UInt8}:bV (qY op a b st) (qY op a b st'):=by
 cases op<;>simp only[qY]<;>first|exact bV.ok _|exact bV.bad|(split<;>first|exact bV.ok _|exact bV.bad)
theorem bV.bin {op:BinOp}{d:Option jL}{zQ:Bool}{x y:CV}:bV (aj op d zQ x y st) (aj op d zQ x y st'):=by
 unfold aj
 split<;>first
  |exact bV.int
  |exact bV.str
  |exact bV.bad
  |(unfold uS;split<;>first|exact bV.bad|exact bV.bu bV.bad (bV.ok _))
  |(split
    ·unfold Yy;split<;>first|exact bV.ok _|exact bV.bad
    ·exact bV.bad)
end
theorem GZ {call:fT}{op:Az}{fr:Fr}{st st':St}(h:op.bare=true):bV (cX call op fr st) (cX call op fr st'):=by
 cases op with
 |SX x=>exact bV.ok _
 |pick c a b=>simp only[cX];unfold ba;split<;>first|exact bV.bu (bV.ok _) (bV.ok _)|exact bV.bad
 |nil x=>simp only[cX];unfold dH;split<;>first|exact bV.ok _|exact bV.bad
 |bin op d zQ x y=>exact bV.bin
 |un op x=>simp only[cX];unfold lj;split<;>first|exact bV.ok _|exact bV.bad|(split<;>first|exact bV.ok _|exact bV.bad)
 |conv c x=>cases c<;>first|(cases h;done)|(simp only[cX];cases ev fr x<;>first|exact bV.ok _|exact bV.bad)
 |GS n x=>simp only[cX];unfold nZ;split<;>first|exact bV.bu (bV.ok _) bV.bad|exact bV.bad
 |iface t x=>exact bV.ok _
 |func fn f c=>exact bV.ok _
 |nj x lo hi=>simp only[cX];unfold ki;split<;>first|exact bV.bad|(split<;>first|exact bV.ok _|exact bV.bad)
 |pI size x lo hi=>
  simp only[cX];unfold aL;split
  ·split<;>first|exact bV.ok _|exact bV.bad
  ·refine bV.bu ?_ bV.bad
   split
   ·exact bV.bu (bV.ok _) (bV.bu (bV.ok _) bV.bad)
   ·exact bV.bad
  ·exact bV.bad
 |slice3 size x lo hi mx=>
  simp only[cX];unfold iv;split
  ·split
   ·split
    ·exact bV.bu (bV.bu (bV.ok _) (bV.ok _)) bV.bad
    ·exact bV.bad
   ·exact bV.bad
  ·split
   ·split<;>first|exact bV.ok _|exact bV.bad
   ·exact bV.bad
  ·exact bV.bad
 |nm n size x lo hi=>simp only[cX];unfold bR;split<;>first|exact bV.bad|(split<;>first|exact bV.bad|exact bV.bu (bV.ok _) (bV.ok _))
 |fieldAddr off x=>simp only[cX];unfold an;split<;>first|exact bV.ok _|exact bV.bad
 |field agg off size x=>simp only[cX];unfold yu;split<;>first|exact bV.opt bV.bad (fun _=>bV.ok _)|exact bV.bad
 |ud n size x i=>simp only[cX];unfold fI;split<;>first|exact bV.bu (bV.ok _) bV.bad|exact bV.bad
 |yM size x i=>simp only[cX];unfold cQ;split<;>first|exact bV.bu (bV.ok _) bV.bad|exact bV.bad
 |uc x i=>simp only[cX];unfold oe;split<;>first|exact bV.bad|(split<;>first|exact bV.ok _|exact bV.bad)
 |ue n size agg x i=>simp only[cX];unfold uQ;split<;>first|exact bV.bu (bV.opt bV.bad (fun _=>bV.ok _)) bV.bad|exact bV.bad
 |extract x i=>simp only[cX];unfold az;split<;>first|exact bV.opt bV.bad (fun _=>bV.ok _)|exact bV.bad
 |len k x=>cases k<;>first|(cases h;done)|(simp only[cX];unfold bh;cases ev fr x<;>first|exact bV.ok _|exact bV.bad|exact bV.bu (bV.ok _) (bV.ok _))
 |rh mx x y=>simp only[cX];unfold AW;split<;>first|exact bV.bu (bV.ok _) bV.bad|exact bV.bad
 |build z parts=>simp only[cX];unfold bD;exact bV.opt bV.bad (fun _=>bV.ok _)
 |_=>cases h
abbrev aW:=Nat->List CV->St->(CV->St->Prop)->Prop
def upon (r:OR)(k:CV->St->Prop):Prop:=match r with| .ok v st=>k v st| .bad=>False
def us (r:OR)(k:CV->Prop):Prop:=match r with| .ok v _=>k v| .bad=>False
def aY (g:Option Bool)(st:St)(r:OR):OR:=match g with|some true=>r|some false=> .ok .undef st|none=> .bad
def gdW (g:Option Bool)(st:St)(yes:Prop)(k:CV->St->Prop):Prop:=match g with|some true=>yes|some false=>k .undef st|none=>False
def ak (b:Bool)(v:CV):Option Bool:=match v with| .bool c=>some (bu b c (Bool.not c))| .undef=>some false|_=>none
def fB (C:aW)(f:CV)(args:List CV)(st:St)(k:CV->St->Prop):Prop:=match f with| .func (.func g) first captured=>C g (first++(args++captured)) st k|_=>False
def aB (v:CV)(x y:Prop):Prop:=match v with| .bool true=>x| .bool false=>y|_=>False
def nt:fT:=fun _ _ _=> .bad
def lS (ops:Array Oper)(fr:Fr)(gb:Nat×Bool):Option Bool:=
 match (ops[gb.1]?).bind (·.dst)with|none=>some false|some d=>ak gb.2 (fx fr d)
def opW (C:aW)(g:Option Bool)(op:Az)(fr:Fr)(st:St)(k:CV->St->Prop):Prop:=
 match op with
 | .call f args=>gdW g st (C f (Jq fr args) st k) k
 | .Bv f args=>gdW g st (fB C (ev fr f) (Jq fr args) st k) k
 |op=>bif op.still then us (aY g st (cX nt op fr st)) (fun v=>k v st)else upon (aY g st (cX nt op fr st)) k
def Vv (C:aW)(op:Az)(fr:Fr)(st:St)(k:CV->St->Prop):Prop:=
 match op with
 | .call f args=>C f (Jq fr args) st k
 | .Bv f args=>fB C (ev fr f) (Jq fr args) st k
 |op=>bif op.still then us (cX nt op fr st) (fun v=>k v st)else upon (cX nt op fr st) k
def Iu (P:Program)(C:aW)(ops:Array Oper)(o:Oper)(fr:Fr)(st:St)(k:CV->St->Prop):Prop:=
 match lN P o.op with
 |none=>False
 |some op=>match o.guard with
  |none=>Vv C op fr st k
  |some gb=>opW C (lS ops fr gb) op fr st k
def Vp (n:Nat)(dst:Option Tmp)(v:CV)(fr:Fr)(k:Fr->Prop):Prop:=match dst with|none=>k fr|some d=>bif Nat.ble (d+1) n then k (fr.put d (some v))else False
def QJ (P:Program)(C:aW)(n:Nat)(ops:Array Oper):List Oper->Fr->St->(Fr->St->Prop)->Prop
 |[],fr,st,k=>k fr st
 |o::l,fr,st,k=>Iu P C ops o fr st fun v st=>Vp n o.dst v fr fun fr=>QJ P C n ops l fr st k
def vP (P:Program)(C:aW)(ops:Array Oper)(ab:Option Nat)(o:Oper)(fr:Fr)(st:St)(k:CV->St->Prop):Prop:=
 match nu P o,ab with
 |none,none=>Iu P C ops o fr st k
 |some tz,some b=>upon (match o.guard with|none=>iM b tz.2 tz.1 st|some gb=>aY (lS ops fr gb) st (iM b tz.2 tz.1 st)) k
 |none,some b=>(match kj P o with
  |some x=>upon (match o.guard with
   |none=>fR b x.1 x.2.1 (cH x.2.1 x.2.2.1) (KP fr x.2.2.2) st
   |some gb=>aY (lS ops fr gb) st (fR b x.1 x.2.1 (cH x.2.1 x.2.2.1) (KP fr x.2.2.2) st)) k
  |none=>False)
 |_,_=>False
def BG (P:Program)(C:aW)(n:Nat)(ops:Array Oper):List (Oper×Option Nat)->Nat->Nat->Fr->St->(List TR->List St->Fr->St->Prop)->Prop
 |[],_,_,fr,st,k=>k [] [] fr st
 |o::l,i,c,fr,st,k=>vP P C ops o.2 o.1 fr st fun v st'=>Vp n o.1.dst v fr fun fr'=>bif mm P o.1
   then BG P C n ops l (i+1) (c+1) fr' st' (fun eJ ch=>k (⟨i,o.2,o.1,true,c,fr,v,st,st'⟩::eJ) (st::ch))
   else BG P C n ops l (i+1) c fr' st' (fun eJ ch=>k (⟨i,o.2,o.1,false,c,fr,v,st,st'⟩::eJ) ch)
def cj (b:Bool)(p q:Prop):Prop:=match b with|true=>q|false=>p/\q
abbrev Uz:=Nat×Nat×Oper
def Av (P:Program):List Oper->Nat->Nat->List Uz
 |[],_,_=>[]
 |o::l,i,c=>(i,c,o)::Av P l (i+1) (bif mm P o then c+1 else c)
def FP (P:Program)(o:Oper):Bool:=match nu P o with|some _=>false|none=>match lN P o.op with|some op=>op.bare|none=>false
def noB (P:Program)(a:List Uz):Bool:=Aw a fun u=>Bool.not (oM P u.2.2)
def Iw (P:Program)(ops:Array Oper)(a:List Uz)(i c:Nat)(c':Nat):Bool:=
 Bool.or (Bool.and (noB P a) (Nat.beq c' c)) (Bool.or (Dl a fun u=>Bool.and (mm P u.2.2) (Bool.and (Nat.ble (Nat.succ u.2.1) c') (fF ops ops.size u.1 i)))
  (Dl a fun u=>Bool.and (mm P u.2.2) (Bool.and (Nat.ble c' u.2.1) (fF ops ops.size i u.1))))
def reW (P:Program)(ops:Array Oper)(t:TR)(s:St):Prop:=vP P (fun _ _ _ _=>False) ops t.ab t.o t.fr s fun v _=>v=t.v
def QV (P:Program)(ops:Array Oper)(a:List Uz)(t:TR):Nat->List St->Prop
 |_,[]=>True
 |c',s::r=>cj (Iw P ops a t.i t.c c') (reW P ops t s) (QV P ops a t (c'+1) r)
def MW (P:Program)(ops:Array Oper)(a:List Uz)(chain:List St):List TR->Prop
 |[]=>True
 |t::r=>(match Bool.or (oM P t.o) (Bool.or (mm P t.o) (FP P t.o))with|true=>MW P ops a chain r|false=>QV P ops a t 0 chain/\MW P ops a chain r)
def IL (P:Program)(ops:Array Oper)(b:Nat)(j:Nat):List TR->List St->Prop
 |[],_=>True
 |u::r,chain=>cj (Bool.or (Bool.not (mm P u.o)) (Bool.or (fF ops ops.size u.i j) (fF ops ops.size j u.i)))
   (match Nat.ble (u.i+1) j with|true=>u.s.mem.get b=none|false=>u.s1.mem.get b=u.s.mem.get b) (IL P ops b j r chain)
def MY (P:Program)(ops:Array Oper)(all:List TR)(chain:List St):List TR->Prop
 |[]=>True
 |t::r=>(match oM P t.o with|false=>MY P ops all chain r|true=>(match t.ab with|some b=>IL P ops b t.i all chain|none=>True)/\MY P ops all chain r)
def OO (P:Program)(C:aW)(n:Nat)(ops:Array Oper)(fr:Fr)(st:St)(k:Fr->St->Prop):Prop:=
 Mg P ops=true/\Hc P ops.toList st fun as gw=>BG P C n ops (ops.toList.zip as) 0 0 fr gw fun eJ ch fr' st'=>
  MW P ops (Av P ops.toList 0 0) (ch++[st']) eJ/\MY P ops eJ (ch++[st']) eJ/\k fr' st'
def dR (k:List CV->St->Prop)(body:(List CV->St->Prop)->Prop):Prop:=body k
def EA (body:List CV->St->(List CV->St->Prop)->Prop):Nat->List CV->St->Prop
 |0,_,_=>False
 |m+1,vs,st=>body vs st (EA body m)
def c8 (body:List CV->St->(List CV->St->Prop)->Prop)(vs:List CV)(st:St):Prop:=∃m,EA body m vs st
def Ia (fr:Fr)(c:Operand)(x y:Prop):Prop:=match eU c with|some c=>aB (ev fr c) x y|none=>False
def iF (P:Program)(C:aW)(lv:Nat->Option (List Nat))(n:Nat):Code->Fr->St->(Fr->St->Prop)->(Nat->Fr->St->Prop)->(Fr->St->Prop)->Prop
 | .skip,fr,st,kn,_,_=>kn fr st
 | .region _ ops draw,fr,st,kn,_,_=>bif draw then OO P C n ops fr st kn else QJ P C n ops ops.toList fr st kn
 | .seq x y,fr,st,kn,ke,kr=>(match lv (Gy y)with
   |none=>iF P C lv n x fr st (fun fr st=>iF P C lv n y fr st kn ke kr) ke kr
   |some L=>dR (fun vs st=>iF P C lv n y (IM L vs) st kn ke kr) fun k=>iF P C lv n x fr st (fun fr st=>k (L.map (fx fr)) st) ke kr)
 | .cond c x y,fr,st,kn,ke,kr=>Ia fr c (iF P C lv n x fr st kn ke kr) (iF P C lv n y fr st kn ke kr)
 | .block id x,fr,st,kn,ke,kr=>iF P C lv n x fr st kn (fun i fr st=>bif Nat.beq i id then kn fr st else ke i fr st) kr
 | .loop x,fr,st,_,ke,kr=>(match lv (Gy x)with
   |none=>False
   |some L=>c8 (fun vs st next=>iF P C lv n x (IM L vs) st (fun fr st=>next (L.map (fx fr)) st) ke kr) (L.map (fx fr)) st)
 | .exit id,fr,st,_,ke,_=>ke id fr st
 | .scope x,fr,st,kn,ke,kr=>iF P C lv n x fr st kn ke kr
 | .label _,fr,st,kn,_,_=>kn fr st
 | .ret,fr,st,_,_,kr=>kr fr st
 |_,_,_,_,_,_=>False
def yf (P:Program)(fr:Fr)(st:St):List ResultVar->(List CV->Prop)->Prop
 |[],k=>k []
 | .tmp t::l,k=>yf P fr st l fun vs=>k (fx fr t::vs)
 | .cell a t::l,k=>(match P.underlying t,P.info? t with
   |some u,some i=>us (bif ib u then aI i.size (fx fr a) st else aC (fx fr a) st) fun v=>yf P fr st l fun vs=>k (v::vs)
   |_,_=>False)
def QA (P:Program)(fr:Fr)(st:St)(l:List ResultVar)(Q:CV->St->Prop):Prop:=
 yf P fr st l fun vs=>match vs with|[]=>Q .undef st|[v]=>Q v st|v::u::vs=>Q (.tuple (v::u::vs)) st
def aM (P:Program)(C:aW)(lv:Nat->Option (List Nat))(f:Nat)(args:List CV)(st:St)(Q:CV->St->Prop):Prop:=
 match gM P f,P.funcs[f]? with
 |true,some fn=>(match fn.body with
  |some c=>iF P C lv fn.ntmps c (qb args) st (fun fr st=>QA P fr st fn.results.toList Q) (fun _ _ _=>False) (fun fr st=>QA P fr st fn.results.toList Q)
  |none=>False)
 |_,_=>False
abbrev zr (n:Nat):List CV:=List.replicate n (.int .u8 0)
def ar:Nat->List CV->CV
 |0,vs=>vs.headD .any
 |i+1,vs=>ar i (vs.drop 1)
def hE (t:TypeId)(x:CV)(st:St):OR:=bu x.isAny .bad (dD t x.cD st)
def St.skip (st:St):St:=⟨st.mem,st.next+1⟩
def fp (g:Option Bool)(st:St)(y:(CV->St->Prop)->Prop)(k:CV->St->Prop):Prop:=gdW g st (y k) k
def bT (p:Prop):Prop:=(true=true)/\p
def fm (off:Nat)(p:CV)(st:St)(k:CV->Prop):Prop:=us (dH p st) fun p=>us (an off p st) fun a=>us (aC a st) k
def ru (o1 o2:Nat)(p:CV)(st:St)(k:CV->Prop):Prop:=us (dH p st) fun p=>us (an o1 p st) fun a=>us (an o2 a st) fun a=>us (aC a st) k
def j0 (g:Option Bool)(off:Nat)(p:CV)(st:St)(k:CV->Prop):Prop:=us (aY g st (dH p st)) fun p=>us (aY g st (an off p st)) fun a=>us (aY g st (aC a st)) k
def zj (n off:Nat)(p:CV)(st:St)(k:CV->Prop):Prop:=us (dH p st) fun p=>us (an off p st) fun a=>us (aI n a st) k
def lz (n off:Nat)(p x:CV)(st:St)(k:St->Prop):Prop:=us (dH p st) fun p=>us (an off p st) fun a=>upon (aP n a x st) fun _ s=>k s
def zT (n o1 o2:Nat)(p x:CV)(st:St)(k:St->Prop):Prop:=us (dH p st) fun p=>us (an o1 p st) fun a=>us (an o2 a st) fun a=>upon (aP n a x st) fun _ s=>k s
def fl (off:Nat)(p:CV)(st:St)(k:CV->Prop):Prop:=us (an off p st) fun a=>us (aC a st) k
def jI (g:Option Bool)(off:Nat)(p:CV)(st:St)(k:CV->Prop):Prop:=us (aY g st (an off p st)) fun a=>us (aY g st (aC a st)) k
def LN (n off:Nat)(p:CV)(st:St)(k:CV->Prop):Prop:=us (an off p st) fun a=>us (aI n a st) k
def fst (n off:Nat)(p x:CV)(st:St)(k:St->Prop):Prop:=us (an off p st) fun a=>upon (aP n a x st) fun _ s=>k s
def idx (size:Nat)(x i:CV)(st:St)(k:CV->Prop):Prop:=us (cQ size x i st) fun a=>us (aC a st) k
def yN (g:Option Bool)(size:Nat)(x i:CV)(st:St)(k:CV->Prop):Prop:=us (aY g st (cQ size x i st)) fun a=>us (aY g st (aC a st)) k
def iT (n size:Nat)(x i:CV)(st:St)(k:CV->Prop):Prop:=us (cQ size x i st) fun a=>us (aI n a st) k
def EN (n size:Nat)(x i y:CV)(st:St)(k:St->Prop):Prop:=us (cQ size x i st) fun a=>upon (aP n a y st) fun _ s=>k s
def Rl (size off:Nat)(x i:CV)(st:St)(k:CV->Prop):Prop:=us (cQ size x i st) fun a=>us (an off a st) k
def Rk (size off:Nat)(x i:CV)(st:St)(k:CV->Prop):Prop:=us (cQ size x i st) fun a=>us (an off a st) fun a=>us (aC a st) k
def ft (g:Option Bool)(size off:Nat)(x i:CV)(st:St)(k:CV->Prop):Prop:=us (aY g st (cQ size x i st)) fun a=>us (aY g st (an off a st)) fun a=>us (aY g st (aC a st)) k
def Tk (n size off:Nat)(x i:CV)(st:St)(k:CV->Prop):Prop:=us (cQ size x i st) fun a=>us (an off a st) fun a=>us (aI n a st) k
section
variable (P:Program) (lvs:Nat->Nat->Option (List Nat)) (I:xg)
def RF (n:Nat):fT:=zZ P (fq P) lvs I n
def ot (f:Nat)(args:List CV)(st:St)(Q:CV->St->Prop):Prop:=∃v st',(∃N,∀n,N<=n->RF P lvs I n f args st= .ok v st')/\Q v st'
end
def Gb (F:Nat->OR)(k:CV->St->Prop):Prop:=∃v st',(∃N,∀n,N<=n->F n= .ok v st')/\k v st'
section
variable {P:Program} {lvs:Nat->Nat->Option (List Nat)} {I:xg}
theorem ot.mono {f:Nat}{args:List CV}{st:St}{Q Q':CV->St->Prop}(h:ot P lvs I f args st Q)(hq:∀v st',Q v st'->Q' v st'):ot P lvs I f args st Q':=by
 obtain⟨v,st',h1,h2⟩:=h;exact⟨v,st',h1,hq _ _ h2⟩
theorem Gb.const {r:OR}{k:CV->St->Prop}(h:upon r k){F:Nat->OR}(hF:∀n,F n=r):Gb F k:=by
 cases r with
 |ok v st=>exact⟨v,st,⟨0,fun n _=>hF n⟩,h⟩
 |bad=>exact h.elim
theorem Ip {r:OR}{st:St}{k:CV->St->Prop}(hs:Still st r)(h:us r fun v=>k v st):upon r k:=by
 cases r with
 |ok v s=>have:=hs.eq v s rfl;subst this;exact h
 |bad=>exact h
theorem Bu {f:CV}{args:List CV}{st:St}{k:CV->St->Prop}(h:fB (ot P lvs I) f args st k):Gb (fun n=>vT (RF P lvs I n) f args st) k:=by
 unfold fB at h
 split at h
 ·exact h
 ·exact h.elim
theorem pM (call:fT)(op:Az)(fr:Fr)(st:St)(h1:∀f args,op≠ .call f args)(h2:∀f args,op≠ .Bv f args):cX call op fr st=cX nt op fr st:=by
 cases op<;>first|rfl|exact absurd rfl (h1 _ _)|exact absurd rfl (h2 _ _)
theorem QL {op:Az}{fr:Fr}{st:St}{k:CV->St->Prop}(h:Vv (ot P lvs I) op fr st k):Gb (fun n=>cX (RF P lvs I n) op fr st) k:=by
 unfold Vv at h
 split at h
 ·exact h
 ·exact Bu h
 ·rename_i h1 h2
  have h':upon (cX nt op fr st) k:=by
   cases hs:op.still with
   |true=>rw[hs]at h;exact Ip (qV hs) h
   |false=>rw[hs]at h;exact h
  exact Gb.const h' fun n=>pM _ _ _ _ (fun f a e=>h1 f a e) (fun f a e=>h2 f a e)
theorem Gb.gd {g:Option Bool}{st:St}{F:Nat->OR}{yes:Prop}{k:CV->St->Prop}(h:gdW g st yes k)(hy:yes->Gb F k):Gb (fun n=>aY g st (F n)) k:=by
 cases g with
 |none=>exact h.elim
 |some b=>cases b with
  |true=>exact hy h
  |false=>exact⟨_,_,⟨0,fun n _=>rfl⟩,h⟩
theorem Vu {g:Option Bool}{op:Az}{fr:Fr}{st:St}{k:CV->St->Prop}(h:opW (ot P lvs I) g op fr st k):Gb (fun n=>aY g st (cX (RF P lvs I n) op fr st)) k:=by
 unfold opW at h
 split at h
 ·exact Gb.gd h fun h=>h
 ·exact Gb.gd h fun h=>Bu h
 ·rename_i h1 h2
  have h':upon (aY g st (cX nt op fr st)) k:=by
   cases hs:op.still with
   |true=>
    rw[hs]at h;refine Ip ?_ h;cases g with
    |none=>exact Still.bad
    |some b=>cases b with
     |true=>exact qV hs
     |false=>exact Still.ok _
   |false=>rw[hs]at h;exact h
  refine Gb.const h' fun n=> ?_;rw[pM _ _ _ _ (fun f a e=>h1 f a e) (fun f a e=>h2 f a e)]
theorem zh {ops:Array Oper}{fr:Fr}{o:Oper}{gb:Nat×Bool}(h:o.guard=some gb):eZ ops fr o=lS ops fr gb:=by
 unfold eZ lS;rw[h];dsimp only;cases (ops[gb.1]?).bind (·.dst)with
 |none=>rfl
 |some d=>dsimp only;cases fx fr d<;>rfl
theorem Mf {call:fT}{ops:Array Oper}{o:Oper}{fr:Fr}{st:St}{op:Az}(CL:lN P o.op=some op):l4 P call ops o fr st=match o.guard with|none=>cX call op fr st|some gb=>aY (lS ops fr gb) st (cX call op fr st):=by
 unfold l4;cases hg:o.guard with
 |none=>
  have:eZ ops fr o=some true:=by unfold eZ;rw[hg]
  rw[this,CL]
 |some gb=>
  rw[zh hg,CL];dsimp only;cases lS ops fr gb with
  |none=>rfl
  |some b=>cases b<;>rfl
theorem DN {ops:Array Oper}{o:Oper}{fr:Fr}{st:St}{k:CV->St->Prop}(h:Iu P (ot P lvs I) ops o fr st k):Gb (fun n=>l4 P (RF P lvs I n) ops o fr st) k:=by
 unfold Iu at h;cases CL:lN P o.op with
 |none=>rw[CL]at h;exact h.elim
 |some op=>
  rw[CL]at h;dsimp only at h;have e:(fun n=>l4 P (RF P lvs I n) ops o fr st)=fun n=>(match o.guard with|none=>cX (RF P lvs I n) op fr st|some gb=>aY (lS ops fr gb) st (cX (RF P lvs I n) op fr st)):=funext fun n=>Mf CL;rw[e];cases hg:o.guard with
  |none=>rw[hg]at h;exact QL h
  |some gb=>rw[hg]at h;exact Vu h
theorem Ed {n:Nat}{dst:Option Tmp}{v:CV}{fr:Fr}{k:Fr->Prop}(h:Vp n dst v fr k):∃fr',Ee n dst v fr=some fr'/\k fr':=by
 cases dst with
 |none=>exact⟨fr,rfl,h⟩
 |some d=>
  have h':(bif Nat.ble (d+1) n then k (fr.put d (some v))else False):=h;cases hb:Nat.ble (d+1) n with
  |false=>rw[hb]at h';exact h'.elim
  |true=>
   rw[hb]at h';refine⟨_, ?_,h'⟩;unfold Ee;simp only[dE,aO];rw[aAI hb]
theorem QI {n:Nat}{ops:Array Oper}:∀{l:List Oper} {fr:Fr} {st:St} {k:Fr->St->Prop},QJ P (ot P lvs I) n ops l fr st k->
 ∃fr' st',(∃N,∀m,N<=m->oB P (RF P lvs I m) n ops l fr st= .norm fr' st')/\k fr' st':=by
 intro l
 induction l with
 |nil=>intro fr st k h;exact⟨fr,st,⟨0,fun _ _=>rfl⟩,h⟩
 |cons o l ih=>
  intro fr st k h;obtain⟨v,gw,⟨N,hN⟩,h1⟩:=DN h;obtain⟨lJ,p1,h2⟩:=Ed h1;obtain⟨fr',st',⟨N',Zc⟩,h3⟩:=ih h2;refine⟨fr',st',⟨max N N',fun m hm=> ?_⟩,h3⟩;have PQ:=hN m (by omega);dsimp only at PQ;rw[wK,PQ];dsimp only;rcases AR p1 with⟨e,rfl⟩|⟨d,e,hd,rfl⟩
  ·rw[e];exact Zc m (by omega)
  ·rw[e];dsimp only;rw[aAI hd];exact Zc m (by omega)
theorem AH {ops:Array Oper}{ab:Option Nat}{o:Oper}{fr:Fr}{st:St}{k:CV->St->Prop}(h:vP P (ot P lvs I) ops ab o fr st k):Gb (fun n=>gI P (RF P lvs I n) ops ab o fr st) k:=by
 have key:∀(r:OR),upon (match o.guard with|none=>r|some gb=>aY (lS ops fr gb) st r) k->Gb (fun _=>(match eZ ops fr o with|some true=>r|some false=> .ok .undef st|none=> .bad)) k:=by
  intro r hr;refine Gb.const hr fun n=> ?_;cases hg:o.guard with
  |none=>
   have:eZ ops fr o=some true:=by unfold eZ;rw[hg]
   rw[this]
  |some gb=>
   rw[zh hg];dsimp only;cases lS ops fr gb with
   |none=>rfl
   |some b=>cases b<;>rfl
 unfold vP at h;unfold gI
 split at h
 ·rename_i h1;rw[h1];exact DN h
 ·rename_i tz b h1;rw[h1];exact key _ h
 ·rename_i b h1;rw[h1];dsimp only
  split at h
  ·rename_i x hx;rw[hx];exact key _ h
  ·exact h.elim
 ·exact h.elim
theorem GJ {ops:Array Oper}{ab:Option Nat}{o:Oper}{fr:Fr}{st:St}{k:CV->St->Prop}(h:vP P (fun _ _ _ _=>False) ops ab o fr st k):Gb (fun _=>gI P nt ops ab o fr st) k:=by
 have h2:vP P (ot P (fun _ _=>none) (fun _ _ _=>some .bad)) ops ab o fr st k:=by
  have e:(ot P (fun _ _=>none) (fun _ _ _=>some OR.bad))=fun _ _ _ _=>False:=by
   funext f args st k
   refine propext ⟨?_,fun h=>h.elim⟩;rintro⟨v,st',⟨N,hN⟩,_⟩;have:=hN (N+1) (by omega);unfold RF at this;simp only[zZ]at this;cases this
  rw[e];exact h
 obtain⟨v,s1,⟨N,hN⟩,hk⟩:=AH h2;refine⟨v,s1,⟨0,fun _ _=> ?_⟩,hk⟩
 have e:∀n,RF P (fun _ _=>none) (fun _ _ _=>some OR.bad) n=nt:=by
  intro n
  funext f args st
  cases n with
  |zero=>rfl
  |succ n=>unfold RF;simp only[zZ];rfl
 have:=hN N (aAE _);dsimp only at this;rw[e]at this;exact this
theorem JL {n:Nat}{ops:Array Oper}:∀{l:List (Oper×Option Nat)} {i c:Nat} {fr:Fr} {st:St} {k:List TR->List St->Fr->St->Prop},BG P (ot P lvs I) n ops l i c fr st k->
 ∃eJ ch fr' st',(∃N,∀m,N<=m->qk P (RF P lvs I m) n ops l i c fr st=some (eJ,ch,fr',st'))/\k eJ ch fr' st':=by
 intro l
 induction l with
 |nil=>intro i c fr st k h;exact⟨[],[],fr,st,⟨0,fun _ _=>rfl⟩,h⟩
 |cons o l ih=>
  intro i c fr st k h;obtain⟨v,gw,⟨N,hN⟩,h1⟩:=AH h;obtain⟨lJ,p1,h2⟩:=Ed h1
  have e:∀call,qk P call n ops (o::l) i c fr st=OR.rec (fun v st'=>nL v fun v=>nL st' fun st'=>
   Option.rec none (fun fr'=>bu (mm P o.1)
    (Option.rec none (fun r=>some (⟨i,o.2,o.1,true,c,fr,v,st,st'⟩::r.1,st::r.2.1,r.2.2)) (qk P call n ops l (Nat.succ i) (Nat.succ c) fr' st'))
    (Option.rec none (fun r=>some (⟨i,o.2,o.1,false,c,fr,v,st,st'⟩::r.1,r.2.1,r.2.2)) (qk P call n ops l (Nat.succ i) c fr' st'))) (Ee n o.1.dst v fr)) none (gI P call ops o.2 o.1 fr st):=fun _=>rfl
  cases hw:mm P o.1 with
  |true=>
   rw[hw]at h2;obtain⟨eJ,ch,fr',st',⟨N',Zc⟩,h3⟩:=ih h2;refine⟨_,_,fr',st',⟨max N N',fun m hm=> ?_⟩,h3⟩;have PQ:=hN m (by omega);dsimp only at PQ;rw[e,PQ];simp only[dE,p1,aO,hw,aAY];rw[Zc m (by omega)]
  |false=>
   rw[hw]at h2;obtain⟨eJ,ch,fr',st',⟨N',Zc⟩,h3⟩:=ih h2;refine⟨_,_,fr',st',⟨max N N',fun m hm=> ?_⟩,h3⟩;have PQ:=hN m (by omega);dsimp only at PQ;rw[e,PQ];simp only[dE,p1,aO,hw,aAz,aAO];rw[Zc m (by omega)]
theorem BL {call:fT}{ops:Array Oper}{ab:Option Nat}{o:Oper}{fr:Fr}{st s1:St}{v:CV}(hw:mm P o=false)(h:gI P nt ops ab o fr st= .ok v s1):gI P call ops ab o fr st= .ok v s1:=by
 unfold gI at h⊢
 split at h
 ·unfold l4 at h⊢
  split at h
  ·rename_i hwt
   try rw[hwt]
   split at h
   ·rename_i op CL;rw[pM call op]
    ·exact h
    ·intro f args e;subst e;cases h
    ·intro f args e;subst e;have h':vT nt (ev fr f) (Jq fr args) st= .ok v s1:=h;unfold vT at h'
     split at h'<;>cases h'
   ·cases h
  ·exact h
  ·cases h
 ·exact h
 ·exact h
 ·cases h
theorem GI {call:fT}{ops:Array Oper}{o:Oper}{ab:Option Nat}{fr:Fr}{st s1:St}{v:CV}(hb:FP P o=true)(sY:oM P o=false)(h:gI P call ops ab o fr st= .ok v s1)(s:St):∃s2,gI P call ops ab o fr s= .ok v s2:=by
 have hl:kj P o=none:=by
  unfold oM at sY;cases hl:kj P o with
  |none=>rfl
  |some x=>rw[hl]at sY;cases sY
 unfold FP at hb;unfold gI at h⊢;cases hn:nu P o with
 |some tz=>rw[hn]at hb;cases hb
 |none=>
  rw[hn]at hb h;dsimp only at hb h;cases ab with
  |some b=>dsimp only at h;rw[hl]at h;cases h
  |none=>
   dsimp only at h⊢;unfold l4 at h⊢;cases hw:eZ ops fr o with
   |none=>rw[hw]at h;cases h
   |some b=>
    rw[hw]at h;cases b with
    |false=>cases h;exact⟨_,rfl⟩
    |true=>
     dsimp only at h⊢;cases CL:lN P o.op with
     |none=>rw[CL]at h;cases h
     |some op=>
      rw[CL]at h hb;exact(GZ hb).eq _ _ h
theorem JB (P:Program):∀(l:List Oper) (i c k:Nat) (o:Oper),l[k]?=some o->(Av P l i c)[k]?=some (i+k,c+iU P l k,o):=by
 intro l
 induction l with
 |nil=>intro i c k o h;simp at h
 |cons o' l ih=>
  intro i c k o h;cases k with
  |zero=>simp at h;subst h;rfl
  |succ k=>
   show(Av P l (i+1) (bif mm P o' then c+1 else c))[k]?=_;rw[ih _ _ k o (by simpa using h),vu];cases mm P o'<;>simp<;>omega
theorem FT (P:Program):∀(l:List Oper) (i c:Nat),(Av P l i c).length=l.length:=by
 intro l
 induction l with
 |nil=>intro i c;rfl
 |cons o l ih=>intro i c;show(Av P l _ _).length+1=_;rw[ih];rfl
theorem O6 {l:List Oper}{x:Uz}(h:x∈Av P l 0 0):∃o,l[x.1]?=some o/\x=(x.1,iU P l x.1,o):=by
 obtain⟨k,hk,rfl⟩:=aBD h;rw[FT]at hk;have h1:=JB P l 0 0 k l[k] (aAC hk);rw[aAC (by rw[FT];exact hk)]at h1;have h2:=aCd h1;rw[h2];simp only[aAF];exact⟨l[k],aAC hk,rfl⟩
theorem XO {call:fT}{n:Nat}{ops:Array Oper}{as:List (Option Nat)}{eJ:List TR}{ch:List St}{xT mu lb:St}{zi Fq:Fr}(dn:tD P ops.toList xT as mu)(jH:FY (ops.toList.zip as) P call n ops 0 0 zi mu eJ ch Fq lb)(qw:∀(j:Nat) (o:Oper),ops.toList[j]?=some o->oM P o=false){k:Nat}:
 ∀{k':Nat},k<=k'->k'<=ops.toList.length->(∀(j:Nat) (o:Oper),k<=j->j<k'->ops.toList[j]?=some o->mm P o=false)->jF eJ lb k'=jF eJ lb k:=by
 intro k'
 induction k' with
 |zero=>intro h _ _;have:k=0:=by omega
        subst this;rfl
 |succ k' ih=>
  intro h hl hw
  by_cases hk:k=k'+1
  ·subst hk;rfl
  have i1:=ih (by omega) (by omega) (fun j o h1 h2=>hw j o h1 (by omega));have ho:ops.toList[k']?=some ops.toList[k']:=aAC (by omega);generalize ops.toList[k']=o at ho;obtain⟨t,ab,h1,h2,h3,h4,h5,h6,h7,h8,h9,HT,h11⟩:=mH dn jH ho;rw[<-jH.oV k' t h1,<-i1,qP (hw k' o (by omega) (by omega) ho) (qw k' o ho) HT];unfold jF;rw[h1]
theorem OY {b:Bool}{p q:Prop}(h:cj b p q):q/\(b=false->p):=by
 cases b with
 |true=>exact⟨h,fun e=>by cases e⟩
 |false=>exact⟨h.2,fun _=>h.1⟩
theorem QU {ops:Array Oper}{a:List Uz}{t:TR}:∀{chain:List St} {c0:Nat},QV P ops a t c0 chain->∀(j:Nat) (s:St),chain[j]?=some s->Iw P ops a t.i t.c (c0+j)=false->reW P ops t s:=by
 intro chain
 induction chain with
 |nil=>intro c0 _ j s h;simp at h
 |cons s0 r ih=>
  intro c0 h j s hj hs;obtain⟨h1,h2⟩:=OY (show cj _ _ _ from h);cases j with
  |zero=>simp at hj;subst hj;exact h2 hs
  |succ j=>exact ih h1 j s (by simpa using hj) (by rw[show c0+1+j=c0+(j+1) by omega];exact hs)
theorem QS {ops:Array Oper}{a:List Uz}{chain:List St}:∀{eJ:List TR},MW P ops a chain eJ->∀t∈eJ,oM P t.o=false->mm P t.o=false->FP P t.o=false->QV P ops a t 0 chain:=by
 intro eJ
 induction eJ with
 |nil=>intro _ t h;cases h
 |cons t0 r ih=>
  intro h t ht h1 h2 h3;simp only[MW]at h;rcases aAD.1 ht with rfl|ht
  ·rw[h1,h2,h3]at h;exact h.1
  ·split at h
   ·exact ih h t ht h1 h2 h3
   ·exact ih h.2 t ht h1 h2 h3
theorem MX {ops:Array Oper}{b j:Nat}{chain:List St}:∀{eJ:List TR},IL P ops b j eJ chain->∀u∈eJ,mm P u.o=true->fF ops ops.size u.i j=false->fF ops ops.size j u.i=false->
 (u.i<j->u.s.mem.get b=none)/\(j<u.i->u.s1.mem.get b=u.s.mem.get b):=by
 intro eJ
 induction eJ with
 |nil=>intro _ t h;cases h
 |cons t0 r ih=>
  intro h t ht h1 h2 h3;obtain⟨k1,k2⟩:=OY (show cj _ _ _ from h);rcases aAD.1 ht with rfl|ht
  ·have:=k2 (by rw[h1,h2,h3];rfl);constructor
   ·intro hlt;rw[show Nat.ble (t.i+1) j=true by rw[aBe];exact hlt]at this;exact this
   ·intro hlt;rw[show Nat.ble (t.i+1) j=false by cases hb:Nat.ble (t.i+1) j with|false=>rfl|true=>rw[aBe]at hb;omega]at this;exact this
  ·exact ih k1 t ht h1 h2 h3
theorem QT {ops:Array Oper}{all:List TR}{chain:List St}:∀{eJ:List TR},MY P ops all chain eJ->∀t∈eJ,oM P t.o=true->∀b,t.ab=some b->IL P ops b t.i all chain:=by
 intro eJ
 induction eJ with
 |nil=>intro _ t h;cases h
 |cons t0 r ih=>
  intro h t ht h1 b hb;simp only[MY]at h;rcases aAD.1 ht with rfl|ht
  ·rw[h1]at h;have:=h.1;rw[hb]at this;exact this
  ·split at h
   ·exact ih h t ht h1 b hb
   ·exact ih h.2 t ht h1 b hb
theorem ON {n:Nat}{ops:Array Oper}{fr:Fr}{st:St}{k:Fr->St->Prop}(h:OO P (ot P lvs I) n ops fr st k):
 ∃fr' st',(∃N,∀m,N<=m->fq P (RF P lvs I m) n ops fr st= .norm fr' st')/\k fr' st':=by
 obtain⟨abe,h⟩:=h;have hst:=GK abe;obtain⟨as,gw,dn,hk⟩:=ID (P:=P) ops.toList st;rw[hk]at h;obtain⟨eJ,ch,fr',st',⟨N,hN⟩,hR,hL,Gq⟩:=JL h;refine⟨fr',st',⟨N,fun m hm=> ?_⟩,Gq⟩;have No:=hN m hm;unfold fq;rw[hk,No];dsimp only;have CO:(ops.toList.zip as).map (·.1)=ops.toList:=List.map_fst_zip (by rw[dn.len];exact aAE _);have jH:=DJ No (by rw[CO];exact hst.s3)
 have abG:∀(i:Nat) (o:Oper),ops.toList[i]?=some o->(i,iU P ops.toList i,o)∈Av P ops.toList 0 0:=fun i o hoi=>by
  have:=JB P ops.toList 0 0 i o hoi;simp only[aAF]at this;exact aBx this
 rw[aAI];refine⟨hst, ?_, ?_⟩
 ·intro i t V7 htw htB c s hc;have hoi:=wD dn jH V7;obtain⟨t',ab,g1,vj,g2,g3,g4,g5,g6,g7,g8,PS,g11⟩:=mH dn jH hoi;rw[V7]at g1;cases g1
  have hu:∀u∈Av P ops.toList 0 0,mm P u.2.2=true->∃tu∈eJ,tu.w=true/\tu.c=u.2.1/\tu.i=u.1:=by
   intro u hu huw;obtain⟨ou,ho,e⟩:=O6 hu;obtain⟨tu,_,k1,_,k2,k3,k4,k5,k6,_⟩:=mH dn jH ho;have e2:u.2.2=ou:=by rw[e]
   have e3:u.2.1=iU P ops.toList u.1:=by rw[e]
   exact⟨tu,aBx k1,by rw[k5,<-e2];exact huw,by rw[k6,e3],k2⟩
  cases TW:FP P t.o with
  |true=>exact .inr (.inr (by rw[g3];exact GI TW htB PS s))
  |false=>
   cases iQ:Iw P ops (Av P ops.toList 0 0) t.i t.c c with
   |true=>
    unfold Iw at iQ;simp only[aBB,aAV,aBi,zu]at iQ;rcases iQ with⟨EU,iQ⟩|⟨u,YP,V5,Py⟩|⟨u,YP,V5,Py⟩
    ·have qw:∀(j:Nat) (o:Oper),ops.toList[j]?=some o->oM P o=false:=fun j o hj=>by
      unfold noB at EU;rw[nH]at EU;have:=EU _ (abG j o hj)
      simpa using this
     have Dw:=(aAP.1 hoi).1;obtain⟨k2,n1,n2,n3,n4,n5,n6⟩:=uZ dn jH (ops.toList.length-i) i (by omega);have e6:=XO dn jH qw n1 n2 n3;have e7:jF eJ st' i=t.s:=by unfold jF;rw[V7]
     rw[iQ,g6,n5]at hc;cases hc;refine .inr (.inr ⟨t.s1, ?_⟩);rw[e6,e7,g3];exact PS
    ·simp only[aBe]at Py;obtain⟨tu,k1,k2,k3,k4⟩:=hu u YP V5;exact .inl ⟨tu,k1,k2,by rw[k3];exact Py.1,by rw[k4];exact Py.2⟩
    ·simp only[aBe]at Py;obtain⟨tu,k1,k2,k3,k4⟩:=hu u YP V5;exact .inr (.inl ⟨tu,k1,k2,by rw[k3];exact Py.1,by rw[k4];exact Py.2⟩)
   |false=>
    refine .inr (.inr ?_);have h1:=QU (QS hR t (aBx V7) htB htw TW) c s hc (by rw[aAF];exact iQ);obtain⟨v,s1,⟨N1,PQ⟩,hv⟩:=GJ h1;subst hv;exact⟨s1,BL htw (PQ N1 (aAE _))⟩
 ·intro j tj b hj hjB hjb d td hd hdW a1 a2;have PB:=wD dn jH hj;have hod:=wD dn jH hd;obtain⟨tj',_,m1,m5,m2,m3,_,_,m4,_⟩:=mH dn jH PB;rw[hj]at m1;cases m1;obtain⟨td',_,p1,_,p2,_,p3,_,p4,_,_,_,p11⟩:=mH dn jH hod;rw[hd]at p1;cases p1
  have hb:tj.ab=some b:=by
   rw[hjb]at m5;have:=aCd m5;rw[m3,<-this]
  have h1:=MX (QT hL tj (aBx hj) hjB b hb) td (aBx hd) hdW (by rw[p2,m2];exact a1) (by rw[p2,m2];exact a2);rw[p2,m2]at h1;have e1:=p11 hdW;rw[<-p4]at e1;constructor
  ·intro hlt s hs;rw[e1]at hs;cases hs;exact h1.1 hlt
  ·intro hlt s s' hs tr;rw[e1]at hs;cases hs;have e2:(ch++[st'])[td.c+1]?=some td.s1\/True:= .inr trivial;obtain⟨k2,n1,n2,n3,n4,n5,n6⟩:=uZ dn jH (ops.toList.length-(d+1)) (d+1) (by have:=(aAP.1 hod).1;omega);have e3:iU P ops.toList (d+1)=td.c+1:=by rw[nE hod,hdW,p4];rfl
   rw[e3]at n5;rw[n5]at tr;cases tr;obtain⟨q1,q2⟩:=gap dn jH n1 n2 n3;have e4:jF eJ st' (d+1)=td.s1:=(jH.oV d td hd).symm
   by_cases kW:∃j2 t2,d+1<=j2/\j2<k2/\eJ[j2]?=some t2/\oM P t2.o=true/\as[j2]?=some (some b)
   ·exfalso;obtain⟨j2,t2,r1,r2,r3,r4,r5⟩:=kW;have:=dn.uniq j j2 b hjb r5;omega
   ·rw[q2 b (fun j2 t2 r1 r2 r3 r4 r5=>kW ⟨j2,t2,r1,r2,r3,r4,r5⟩),e4];exact h1.2 hlt
def KR (kn:Fr->St->Prop)(ke:Nat->Fr->St->Prop)(kr:Fr->St->Prop):Rs->Prop
 | .norm fr st=>kn fr st
 | .exit i fr st=>ke i fr st
 | .ret fr st=>kr fr st
 | .bad=>False
theorem OX {n:Nat}{lv:Nat->Option (List Nat)}(c:Code):∀{fr:Fr} {st:St} {kn:Fr->St->Prop} {ke:Nat->Fr->St->Prop} {kr:Fr->St->Prop},iF P (ot P lvs I) lv n c fr st kn ke kr->
 ∃r,(∃N,∀m,N<=m->ld P (RF P lvs I m) (fq P) lv m n c fr st=r)/\KR kn ke kr r:=by
 induction c with
 |skip=>intro fr st kn ke kr h;exact⟨.norm fr st,⟨0,fun _ _=>rfl⟩,h⟩
 |region id ops draw=>
  intro fr st kn ke kr h;cases draw with
  |true=>
   obtain⟨fr',st',⟨N,hN⟩,h1⟩:=ON (show OO P (ot P lvs I) n ops fr st kn from h);exact⟨.norm fr' st',⟨N,fun m hm=>hN m hm⟩,h1⟩
  |false=>
   obtain⟨fr',st',⟨N,hN⟩,h1⟩:=QI (show QJ P (ot P lvs I) n ops ops.toList fr st kn from h);exact⟨.norm fr' st',⟨N,fun m hm=>hN m hm⟩,h1⟩
 |seq x y hx hy=>
  intro fr st kn ke kr h
  have key:iF P (ot P lvs I) lv n x fr st (fun fr st=>iF P (ot P lvs I) lv n y (wq (lv (Gy y)) fr) st kn ke kr) ke kr:=by
   have h':(match lv (Gy y)with
    |none=>iF P (ot P lvs I) lv n x fr st (fun fr st=>iF P (ot P lvs I) lv n y fr st kn ke kr) ke kr
    |some L=>dR (fun vs st=>iF P (ot P lvs I) lv n y (IM L vs) st kn ke kr) fun k=>iF P (ot P lvs I) lv n x fr st (fun fr st=>k (L.map (fx fr)) st) ke kr):=h
   cases hl:lv (Gy y)with
   |none=>rw[hl]at h';exact h'
   |some L=>rw[hl]at h';exact h'
  obtain⟨r,⟨N,hN⟩,hr⟩:=hx key;cases r with
  |norm lJ gw=>
   obtain⟨r2,⟨N2,hN2⟩,Be⟩:=hy (show iF P (ot P lvs I) lv n y (wq (lv (Gy y)) lJ) gw kn ke kr from hr);refine⟨r2,⟨max N N2,fun m hm=> ?_⟩,Be⟩;show tf (ld P (RF P lvs I m) (fq P) lv m n x fr st) _=r2;rw[hN m (by omega)];exact hN2 m (by omega)
  |exit i lJ gw=>
   refine⟨.exit i lJ gw,⟨N,fun m hm=> ?_⟩,hr⟩;show tf (ld P (RF P lvs I m) (fq P) lv m n x fr st) _=_;rw[hN m hm];rfl
  |ret lJ gw=>
   refine⟨.ret lJ gw,⟨N,fun m hm=> ?_⟩,hr⟩;show tf (ld P (RF P lvs I m) (fq P) lv m n x fr st) _=_;rw[hN m hm];rfl
  |bad=>exact(show False from hr).elim
 |cond c x y hx hy=>
  intro fr st kn ke kr h;have h':Ia fr c (iF P (ot P lvs I) lv n x fr st kn ke kr) (iF P (ot P lvs I) lv n y fr st kn ke kr):=h;have e:∀m,ld P (RF P lvs I m) (fq P) lv m n (.cond c x y) fr st=Bs c (ld P (RF P lvs I m) (fq P) lv m n x) (ld P (RF P lvs I m) (fq P) lv m n y) fr st:=fun _=>rfl;unfold Ia at h';cases hc:eU c with
  |none=>rw[hc]at h';exact h'.elim
  |some a=>
   rw[hc]at h';dsimp only at h';unfold aB at h'
   split at h'
   ·rename_i hv;obtain⟨r,⟨N,hN⟩,hr⟩:=hx h';exact⟨r,⟨N,fun m hm=>by rw[e];unfold Bs;rw[hc];dsimp only;rw[hv];exact hN m hm⟩,hr⟩
   ·rename_i hv;obtain⟨r,⟨N,hN⟩,hr⟩:=hy h';exact⟨r,⟨N,fun m hm=>by rw[e];unfold Bs;rw[hc];dsimp only;rw[hv];exact hN m hm⟩,hr⟩
   ·exact h'.elim
 |block id x hx=>
  intro fr st kn ke kr h;obtain⟨r,⟨N,hN⟩,hr⟩:=hx (show iF P (ot P lvs I) lv n x fr st kn (fun i fr st=>bif Nat.beq i id then kn fr st else ke i fr st) kr from h);refine⟨rm id r,⟨N,fun m hm=> ?_⟩, ?_⟩
  ·show rm id (ld P (RF P lvs I m) (fq P) lv m n x fr st)=_;rw[hN m hm]
  ·cases r with
   |norm lJ gw=>exact hr
   |ret lJ gw=>exact hr
   |bad=>exact hr
   |exit i lJ gw=>
    have zN:(bif Nat.beq i id then kn lJ gw else ke i lJ gw):=hr;show KR kn ke kr (bu (Nat.beq i id) (.norm lJ gw) (.exit i lJ gw));cases hb:Nat.beq i id with
    |true=>rw[hb]at zN;exact zN
    |false=>rw[hb]at zN;exact zN
 |loop x hx=>
  intro fr st kn ke kr h
  have h':(match lv (Gy x)with
   |none=>False
   |some L=>c8 (fun vs st next=>iF P (ot P lvs I) lv n x (IM L vs) st (fun fr st=>next (L.map (fx fr)) st) ke kr) (L.map (fx fr)) st):=h
  cases hl:lv (Gy x)with
  |none=>rw[hl]at h';exact h'.elim
  |some L=>
   rw[hl]at h';obtain⟨m0,Kw⟩:=h'
   have key:∀(m0:Nat) (fr:Fr) (st:St),EA (fun vs st next=>iF P (ot P lvs I) lv n x (IM L vs) st (fun fr st=>next (L.map (fx fr)) st) ke kr) m0 (L.map (fx fr)) st->
    ∃r,(∃N,∀m,N<=m->∀j,m0<=j->wP (ld P (RF P lvs I m) (fq P) lv m n x) (some L) j fr st=r)/\KR kn ke kr r:=by
    intro m0
    induction m0 with
    |zero=>intro fr st hh;exact hh.elim
    |succ m0 ih=>
     intro fr st hh;obtain⟨r,⟨N,hN⟩,hr⟩:=hx (show iF P (ot P lvs I) lv n x (IM L (L.map (fx fr))) st (fun fr st=>EA (fun vs st next=>iF P (ot P lvs I) lv n x (IM L vs) st (fun fr st=>next (L.map (fx fr)) st) ke kr) m0 (L.map (fx fr)) st) ke kr from hh);cases r with
     |norm lJ gw=>
      obtain⟨r2,⟨N2,hN2⟩,Be⟩:=ih lJ gw hr;refine⟨r2,⟨max N N2,fun m hm j hj=> ?_⟩,Be⟩;obtain⟨j,rfl⟩:∃i,j=i+1:=⟨j-1,by omega⟩;show tf (ld P (RF P lvs I m) (fq P) lv m n x (wq (some L) fr) st) _=r2;rw[show wq (some L) fr=IM L (L.map (fx fr))from rfl,hN m (by omega)];exact hN2 m (by omega) j (by omega)
     |exit i lJ gw=>
      refine⟨.exit i lJ gw,⟨N,fun m hm j hj=> ?_⟩,hr⟩;obtain⟨j,rfl⟩:∃i,j=i+1:=⟨j-1,by omega⟩;show tf (ld P (RF P lvs I m) (fq P) lv m n x (wq (some L) fr) st) _=_;rw[show wq (some L) fr=IM L (L.map (fx fr))from rfl,hN m hm];rfl
     |ret lJ gw=>
      refine⟨.ret lJ gw,⟨N,fun m hm j hj=> ?_⟩,hr⟩;obtain⟨j,rfl⟩:∃i,j=i+1:=⟨j-1,by omega⟩;show tf (ld P (RF P lvs I m) (fq P) lv m n x (wq (some L) fr) st) _=_;rw[show wq (some L) fr=IM L (L.map (fx fr))from rfl,hN m hm];rfl
     |bad=>exact(show False from hr).elim
   obtain⟨r,⟨N,hN⟩,hr⟩:=key m0 fr st Kw;refine⟨r,⟨max N m0,fun m hm=> ?_⟩,hr⟩;show wP (ld P (RF P lvs I m) (fq P) lv m n x) (lv (Gy x)) m fr st=r;rw[hl];exact hN m (by omega) m (by omega)
 |exit id=>intro fr st kn ke kr h;exact⟨.exit id fr st,⟨0,fun _ _=>rfl⟩,h⟩
 |scope x hx=>intro fr st kn ke kr h;exact hx h
 |label l=>intro fr st kn ke kr h;exact⟨.norm fr st,⟨0,fun _ _=>rfl⟩,h⟩
 |ret=>intro fr st kn ke kr h;exact⟨.ret fr st,⟨0,fun _ _=>rfl⟩,h⟩
 |rangeFunc f ps x y hx hy=>intro fr st kn ke kr h;exact(show False from h).elim
 |goto l=>intro fr st kn ke kr h;exact(show False from h).elim
 |refuse y=>intro fr st kn ke kr h;exact(show False from h).elim
theorem MA {fr:Fr}{st:St}:∀{l:List ResultVar} {k:List CV->Prop},yf P fr st l k->∃vs,G0 P fr st l=some vs/\k vs:=by
 intro l
 induction l with
 |nil=>intro k h;exact⟨[],rfl,h⟩
 |cons r l ih=>
  intro k h;have e:G0 P fr st (r::l)=(match AP P fr st r,G0 P fr st l with|some v,some l=>some (v::l)|_,_=>none):=rfl;cases r with
  |tmp t=>
   obtain⟨vs,h1,h2⟩:=ih (show yf P fr st l fun vs=>k (fx fr t::vs)from h);exact⟨_,by rw[e,h1];rfl,h2⟩
  |cell a t=>
   simp only[yf]at h
   split at h
   ·rename_i u i hu hi
    have e1:AP P fr st (.cell a t)=(match (bif ib u then aI i.size (fx fr a) st else aC (fx fr a) st)with| .ok v _=>some v| .bad=>none):=by
     show(match P.underlying t,P.info? t with
      |some u,some i=>(match bu (ib u) (aI i.size (fx fr a) st) (aC (fx fr a) st)with| .ok v _=>some v| .bad=>none)
      |_,_=>none)=_
     rw[hu,hi];dsimp only;rw[aO];cases ib u<;>rfl
    generalize (bif ib u then aI i.size (fx fr a) st else aC (fx fr a) st)=rr at h e1;cases rr with
    |bad=>exact h.elim
    |ok v s=>
     obtain⟨vs,h1,h2⟩:=ih (show yf P fr st l fun vs=>k (v::vs)from h);exact⟨_,by rw[e,h1,e1],h2⟩
   ·exact h.elim
theorem Qz {fr:Fr}{st:St}{l:List ResultVar}{Q:CV->St->Prop}(h:QA P fr st l Q):upon (Aa P fr st l) Q:=by
 obtain⟨vs,h1,h2⟩:=MA h;unfold Aa;rw[h1];cases vs with
 |nil=>exact h2
 |cons v vs=>cases vs with
  |nil=>exact h2
  |cons u vs=>exact h2
def Z5 (P:Program)(l:List ResultVar)(r:Rs):OR:=match r with| .norm fr st=>Aa P fr st l| .exit _ _ _=> .bad| .ret fr st=>Aa P fr st l| .bad=> .bad
theorem zA {f:Nat}{args:List CV}{st:St}{Q:CV->St->Prop}(hI:I f args st=none)(h:aM P (ot P lvs I) (lvs f) f args st Q):ot P lvs I f args st Q:=by
 unfold aM at h
 split at h
 ·rename_i fn Fg hfn
  split at h
  ·rename_i c hb;obtain⟨r,⟨N,hN⟩,hr⟩:=OX c h
   have e:∀m,N<=m->RF P lvs I (m+1) f args st=Z5 P fn.results.toList r:=by
    intro m hm;unfold RF;simp only[zZ,hI];unfold Da;have:=hN m hm;unfold RF at this;rw[Fg,aO,aAI rfl,hfn];dsimp only;rw[hb];dsimp only;rw[this];cases r<;>rfl
   have fin:∀lJ gw,QA P lJ gw fn.results.toList Q->(∀m,N<=m->RF P lvs I (m+1) f args st=Aa P lJ gw fn.results.toList)->ot P lvs I f args st Q:=by
    intro lJ gw V6 he;have hu:=Qz V6;cases HB:Aa P lJ gw fn.results.toList with
    |bad=>rw[HB]at hu;exact hu.elim
    |ok v tL=>
     rw[HB]at hu;refine⟨v,tL,⟨N+1,fun m hm=> ?_⟩,hu⟩;obtain⟨m,rfl⟩:∃i,m=i+1:=⟨m-1,by omega⟩;rw[he m (by omega),HB]
   cases r with
   |norm lJ gw=>exact fin lJ gw hr (fun m hm=>e m hm)
   |ret lJ gw=>exact fin lJ gw hr (fun m hm=>e m hm)
   |exit i lJ gw=>exact(show False from hr).elim
   |bad=>exact(show False from hr).elim
  ·exact h.elim
 ·exact h.elim
theorem F7 {f:Nat}{args:List CV}{st:St}{Q:CV->St->Prop}{v:CV}{st':St}(hI:I f args st=some (.ok v st'))(h:Q v st'):ot P lvs I f args st Q:=by
 refine⟨v,st',⟨1,fun m hm=> ?_⟩,h⟩;obtain⟨m,rfl⟩:∃i,m=i+1:=⟨m-1,by omega⟩;unfold RF;simp only[zZ,hI]
theorem ot.out (hm:P.follows .mixedOrders=true)(hI:nf P I){f:Nat}{args:List CV}{st:St}{Q:CV->St->Prop}(h:ot P lvs I f args st Q):∃v st',qi P f args st v st'/\Q v st':=by
 obtain⟨v,st',⟨N,hN⟩,hq⟩:=h;exact⟨v,st',yd (nq hm) hI N f args st v st' (hN N (aAE _)),hq⟩
end
@[simp] theorem af (v:CV)(st:St)(k:CV->Prop):us (.ok v st) k=k v:=id rfl
@[simp] theorem ahU (k:CV->Prop):us .bad k=False:=id rfl
@[simp] theorem aS (v:CV)(st:St)(k:CV->St->Prop):upon (.ok v st) k=k v st:=id rfl
@[simp] theorem ZH (k:CV->St->Prop):upon .bad k=False:=id rfl
@[simp] theorem ag (b:Bool)(x y:Prop):aB (.bool b) x y=if b=true then x else y:=by cases b<;>simp[aB]
@[simp] theorem aH (b c:Bool):ak b (.bool c)=some (if b=true then c else !c):=by cases b<;>rfl
@[simp] theorem nP (b:Bool):ak b .undef=some false:=id rfl
@[simp] theorem bo (st:St)(r:OR):aY (some true) st r=r:=id rfl
@[simp] theorem cB (st:St)(r:OR):aY (some false) st r= .ok .undef st:=id rfl
@[simp] theorem fh (st:St)(y:(CV->St->Prop)->Prop)(k:CV->St->Prop):fp (some true) st y k=y k:=id rfl
@[simp] theorem xd (st:St)(y:(CV->St->Prop)->Prop)(k:CV->St->Prop):fp (some false) st y k=k .undef st:=id rfl
@[simp] theorem bt (p:Prop):bT p=p:=by simp[bT]
@[simp] theorem cN (k:List CV->St->Prop)(b:(List CV->St->Prop)->Prop):dR k b=b k:=id rfl
@[simp] theorem aJ (v:CV)(l:List CV):ar 0 (v::l)=v:=id rfl
@[simp] theorem aK (i:Nat)(v:CV)(l:List CV):ar (i+1) (v::l)=ar i l:=id rfl
@[simp] theorem dP (C:aW)(g:Nat)(f c args:List CV)(st:St)(k:CV->St->Prop):fB C (.func (.func g) f c) args st k=C g (f++(args++c)) st k:=id rfl
@[simp] theorem aG (c:Bool)(a b:CV)(st:St):ba (.bool c) a b st=if c=true then .ok a st else .ok b st:=by cases c<;>rfl
@[simp] theorem L0 (c:Prop)[Decidable c](a b:OR)(k:CV->Prop):us (if c then a else b) k=if c then us a k else us b k:=by split<;>rfl
@[simp] theorem ZG (c:Prop)[Decidable c](a b:OR)(k:CV->St->Prop):upon (if c then a else b) k=if c then upon a k else upon b k:=by split<;>rfl
@[simp] theorem aw (op:BinOp)(d:Option jL)(c:Bool)(k j:IntKind)(a b:Int)(st:St):aj op d c (.int k a) (.int j b) st=ju op k a j b st:=id rfl
@[simp] theorem cE (k:IntKind)(a b:Int)(st:St):ju .add k a k b st= .ok (.int k (k.wrap (a+b))) st:=by simp[ju,ln]
@[simp] theorem dW (k:IntKind)(a b:Int)(st:St):ju .sub k a k b st= .ok (.int k (k.wrap (a-b))) st:=by simp[ju,ln]
@[simp] theorem jR (k:IntKind)(a b:Int)(st:St):ju .mul k a k b st= .ok (.int k (k.wrap (a*b))) st:=by simp[ju,ln]
@[simp] theorem MO (k:IntKind)(a b:Int)(st:St):ju .quo k a k b st=if b=0 then .bad else .ok (.int k (k.wrap (Int.tdiv a b))) st:=by simp[ju,ln]
@[simp] theorem MN (k:IntKind)(a b:Int)(st:St):ju .rem k a k b st=if b=0 then .bad else .ok (.int k (Int.tmod a b)) st:=by simp[ju,ln]
@[simp] theorem cz (k:IntKind)(a b:Int)(st:St):ju .eql k a k b st= .ok (.bool (decide (a=b))) st:=by simp[ju,ln]
@[simp] theorem ff (k:IntKind)(a b:Int)(st:St):ju .neq k a k b st= .ok (.bool (!decide (a=b))) st:=by simp[ju,ln]
@[simp] theorem cP (k:IntKind)(a b:Int)(st:St):ju .lss k a k b st= .ok (.bool (decide (a<b))) st:=by simp[ju,ln]
@[simp] theorem oT (k:IntKind)(a b:Int)(st:St):ju .leq k a k b st= .ok (.bool (decide (a<=b))) st:=by simp[ju,ln]
@[simp] theorem dq (k:IntKind)(a b:Int)(st:St):ju .gtr k a k b st= .ok (.bool (decide (b<a))) st:=by simp[ju,ln]
@[simp] theorem yq (k:IntKind)(a b:Int)(st:St):ju .geq k a k b st= .ok (.bool (decide (b<=a))) st:=by simp[ju,ln]
@[simp] theorem dX (op:BinOp)(d:Option jL)(c:Bool)(a b:List UInt8)(st:St):aj op d c (.str a) (.str b) st=qY op a b st:=id rfl
theorem bz {x:Int}(h: -9223372036854775808<=x/\x<=9223372036854775807):IntKind.i64.wrap x=x:=IntWalk.i64_in _ h
@[simp] theorem cU (c:Bool)(b o:Nat)(st:St):aj .eql (some .ptr) c (.ptr b o) .bq st= .ok (.bool false) st:=id rfl
@[simp] theorem Pt (c:Bool)(b o:Nat)(st:St):aj .neq (some .ptr) c (.ptr b o) .bq st= .ok (.bool true) st:=id rfl
@[simp] theorem SQ (c:Bool)(st:St):aj .eql (some .slice) c .ae .ae st= .ok (.bool true) st:=id rfl
@[simp] theorem dm (b:Bool)(st:St):lj .not (.bool b) st= .ok (.bool (!b)) st:=id rfl
def okO (o:Option Bool)(st:St):OR:=match o with|some b=> .ok (.bool b) st|none=> .bad
@[simp] theorem aah (b:Bool)(st:St):okO (some b) st= .ok (.bool b) st:=id rfl
theorem uU (d:jL)(c:Bool)(s t:List CV)(st:St):aj .eql (some d) c (.agg s) (.agg t) st=okO (mK d (.agg s) (.agg t)) st:=by
 simp only[aj,Yy,KX];cases mK d (.agg s) (.agg t)<;>rfl
theorem Cp (d:jL)(c:Bool)(s t:List CV)(st:St):aj .neq (some d) c (.agg s) (.agg t) st=okO ((mK d (.agg s) (.agg t)).map (!·)) st:=by
 simp only[aj,Yy,KX];cases mK d (.agg s) (.agg t)<;>rfl
@[simp] theorem aD (a:CV)(l:List CV)(st:St):az (.tuple (a::l)) 0 st= .ok a st:=id rfl
@[simp] theorem aN (a:CV)(l:List CV)(i:Nat)(st:St):az (.tuple (a::l)) (i+1) st=az (.tuple l) i st:=id rfl
@[simp] theorem ns (b o l c g:Nat)(st:St):bh .slice (.slice b o l c g) st= .ok (.int .i64 l) st:=id rfl
@[simp] theorem uP (st:St):bh .slice .ae st= .ok (.int .i64 0) st:=id rfl
@[simp] theorem fe (l:List UInt8)(st:St):bh .str (.str l) st= .ok (.int .i64 l.length) st:=id rfl
@[simp] theorem l6 (fn:Fn)(f c:List CV)(st:St):qp fn f c st= .ok (.func fn f c) st:=id rfl
def Lx (o:Option qJ)(k:List CV->Prop):Prop:=match o with|some (.cells l _ _)=>k l|some (.ro l _)=>k l|_=>False
def onT (o:Option qJ)(k:List CV->TypeId->Bool->Prop):Prop:=match o with|some (.cells l t g)=>k l t g|_=>False
def SW (o:Option CV)(k:CV->Prop):Prop:=match o with|some v=>k v|none=>False
def onL (o:Option (List CV))(k:List CV->Prop):Prop:=match o with|some v=>k v|none=>False
@[simp] theorem aq (l:List CV)(t:TypeId)(g:Bool)(k:List CV->Prop):Lx (some (.cells l t g)) k=k l:=id rfl
@[simp] theorem Cr (l:List CV)(o:Obj)(k:List CV->Prop):Lx (some (.ro l o)) k=k l:=id rfl
@[simp] theorem aR (l:List CV)(t:TypeId)(g:Bool)(k:List CV->TypeId->Bool->Prop):onT (some (.cells l t g)) k=k l t g:=id rfl
@[simp] theorem av (v:CV)(k:CV->Prop):SW (some v) k=k v:=id rfl
@[simp] theorem MU (v:List CV)(k:List CV->Prop):onL (some v) k=k v:=id rfl
@[simp] theorem aA (b off:Nat)(st:St)(k:CV->Prop):us (aC (.ptr b off) st) k=Lx (st.mem.get b) fun l=>SW l[off]? k:=by
  simp only[aC];cases st.mem.get b with
  |none=>rfl
  |some blk=>cases blk<;>first|rfl|(rename_i l t g;simp only[Lx];cases l[off]?<;>rfl)|(rename_i l _;simp only[Lx];cases l[off]?<;>rfl)
@[simp] theorem oN (n b off:Nat)(st:St)(k:CV->Prop):us (aI n (.ptr b off) st) k=Lx (st.mem.get b) fun l=>onL (ig l off n) fun s=>k (.agg s):=by
  simp only[aI];cases st.mem.get b with
  |none=>rfl
  |some blk=>cases blk<;>first|rfl|(rename_i l t g;simp only[Lx];cases ig l off n<;>rfl)|(rename_i l _;simp only[Lx];cases ig l off n<;>rfl)
@[simp] theorem br (b o:Nat)(st:St):dH (.ptr b o) st= .ok (.ptr b o) st:=id rfl
@[simp] theorem ah (off b o:Nat)(st:St):an off (.ptr b o) st= .ok (.ptr b (o+off)) st:=id rfl
@[simp] theorem iC (k:IntKind)(n:Int):CV.cD (.int k n)=[.int k n]:=id rfl
@[simp] theorem Yv (b:Bool):CV.cD (.bool b)=[.bool b]:=id rfl
@[simp] theorem Vh (b o l c g:Nat):CV.cD (.slice b o l c g)=[.slice b o l c g]:=id rfl
@[simp] theorem Pr:CV.cD .ae=[.ae]:=id rfl
@[simp] theorem DT (b o:Nat):CV.cD (.ptr b o)=[.ptr b o]:=id rfl
@[simp] theorem Z3 (b:Nat):CV.cD (.map b)=[.map b]:=id rfl
@[simp] theorem xY (l:List UInt8):CV.cD (.str l)=[.str l]:=id rfl
@[simp] theorem aX (l:List CV):CV.cD (.agg l)=l:=id rfl
@[simp] theorem YJ (k:IntKind)(n:Int):CV.isAny (.int k n)=false:=id rfl
@[simp] theorem VV (b:Bool):CV.isAny (.bool b)=false:=id rfl
@[simp] theorem Th (b o l c g:Nat):CV.isAny (.slice b o l c g)=false:=id rfl
@[simp] theorem YH (b o:Nat):CV.isAny (.ptr b o)=false:=id rfl
@[simp] theorem YI (b:Nat):CV.isAny (.map b)=false:=id rfl
@[simp] theorem YG (l:List UInt8):CV.isAny (.str l)=false:=id rfl
@[simp] theorem YK (l:List CV):CV.isAny (.agg l)=false:=id rfl
@[simp] theorem QM:aV []=true:=id rfl
@[simp] theorem tk (v:CV)(l:List CV):aV (v::l)=(cr v&&aV l):=id rfl
@[simp] theorem qt (l m:List CV):aV (l++m)=(aV l&&aV m):=by simp[aV]
@[simp] theorem re (l:List UInt8):aV (l.map bO)=true:=by
  simp only[aV,aCO,aBd];rintro x ⟨b,_,rfl⟩;rfl
@[simp] theorem SV (k:IntKind)(n:Int):cr (.int k n)=true:=id rfl
@[simp] theorem QN (b:Bool):cr (.bool b)=true:=id rfl
@[simp] theorem Ke:cr .ae=true:=id rfl
@[simp] theorem SU (b:Nat):cr (.map b)=true:=id rfl
def bp (l:List CV)(off:Nat)(t:List CV):List CV:=l.take off++(t++l.drop (off+t.length))
@[simp] theorem aF (n b off:Nat)(x:CV)(st:St)(k:CV->St->Prop):upon (aP n (.ptr b off) x st) k=
 onT (st.mem.get b) fun l t g=>(x.cD.length=n/\aV x.cD=true/\off+n<=l.length)/\k .undef (St.set st b (.cells (bp l off x.cD) t g)):=by
  simp only[aP];cases st.mem.get b with
  |none=>rfl
  |some blk=>
   cases blk with
   |cells l t g=>
    simp only[onT,aO,aAV,aBi]
    by_cases h:x.cD.length=n/\aV x.cD=true
    ·rw[aAI h];obtain⟨rfl,h2⟩:=h;unfold dQ
     by_cases h3:off+x.cD.length<=l.length
     ·rw[aAI h3];simp only[upon,bp,h2,h3,aCC]
      rfl
     ·rw[aAH h3];simp[upon,h3]
    ·rw[aAH h];simp only[upon,eq_iff_iff,false_iff];rintro⟨⟨h1,h2,_⟩,_⟩;exact h ⟨h1,h2⟩
   |map es c=>rfl
   |lmap es=>rfl
   |ro l o=>rfl
@[simp] theorem qU (st:St)(b:Nat)(blk:qJ):(St.set st b blk).next=st.next:=id rfl
theorem Iy (st:St)(b q:Nat)(blk:qJ):(St.set st b blk).mem.get q=if q=b then some blk else st.mem.get q:=rfl
@[simp] theorem ao (st:St)(b:Nat)(blk:qJ):(St.set st b blk).mem.get b=some blk:=by simp[Iy]
theorem al (st:St)(b q:Nat)(blk:qJ)(h:q≠b):(St.set st b blk).mem.get q=st.mem.get q:=by simp[Iy,h]
@[simp] theorem u7 (st:St)(blk:qJ):(St.new st blk).next=st.next+1:=id rfl
theorem Cw (st:St)(q:Nat)(blk:qJ):(St.new st blk).mem.get q=if q=st.next then some blk else st.mem.get q:=rfl
@[simp] theorem au (st:St)(blk:qJ):(St.new st blk).mem.get st.next=some blk:=by simp[Cw]
theorem aZ (st:St)(q:Nat)(blk:qJ)(h:q<st.next):(St.new st blk).mem.get q=st.mem.get q:=by simp[Cw,Nat.ne_of_lt h]
@[simp] theorem JP (st:St):(St.skip st).next=st.next+1:=id rfl
@[simp] theorem DR (st:St):(St.skip st).mem=st.mem:=id rfl
@[simp] theorem cG (t:TypeId)(z:List CV)(st:St):dD t z st= .ok (.ptr st.next 0) (St.new st (.cells z t false)):=id rfl
@[simp] theorem ja (st:St):jG none st= .ok (.map st.next) (St.new st (.map [] 0)):=id rfl
@[simp] theorem cn (t:TypeId)(x:CV)(st:St)(k:CV->St->Prop):upon (hE t x st) k=(x.isAny=false/\k (.ptr st.next 0) (St.new st (.cells x.cD t false))):=by
  unfold hE;cases h:x.isAny<;>simp
@[simp] theorem QO (c:Prop)[Decidable c](x:List CV)(k:List CV->Prop):onL (if c then some x else none) k=(c/\k x):=by
  by_cases h:c<;>simp[h,onL]
@[simp] theorem rf (l:List CV)(off n:Nat)(k:List CV->Prop):onL (ig l off n) k=(off+n<=l.length/\k ((l.drop off).take n)):=by
  unfold ig;exact QO _ _ _
@[simp] theorem set_set (st:St)(b:Nat)(x y:qJ):St.set (St.set st b x) b y=St.set st b y:=by
  simp only[St.set,St.mk.injEq,and_true];exact PT.ext fun p=>by simp only[PT.eO];split<;>rfl
@[simp] theorem l7 (l:List CV)(off:Nat)(t:List CV)(h:off+t.length<=l.length):(bp l off t).length=l.length:=by
  simp[bp];omega
theorem dN (z:List CV)(parts:List ta)(st:St):bD z parts st=match fX parts z with|some s=> .ok (.agg s) st|none=> .bad:=by
 unfold bD;cases fX parts z<;>rfl
theorem cF (off size:Nat)(x:CV)(l:List ta)(s:List CV):fX ((off,size,x)::l) s=if (x.cD.length=size/\x.isAny=false)/\off+x.cD.length<=s.length then fX l (bp s off x.cD)else none:=by
 have e:fX ((off,size,x)::l) s=bu (Nat.beq x.cD.length size&& !x.isAny) (Option.rec none (fun s'=>fX l s') (dQ s off x.cD)) none:=rfl;rw[e];simp only[aO,aAV,aBi,aDm]
 by_cases h:x.cD.length=size/\x.isAny=false
 ·simp only[h,and_self,aAY,aCC];unfold dQ bp
  by_cases h2:off+x.cD.length<=s.length
  ·rw[aAI h2,aAI (by rw[<-h.1];exact h2)]
  ·rw[aAH h2,aAH (by rw[<-h.1];exact h2)]
 ·rw[aAH h,aAH (fun h2=>h h2.1)]
@[simp] theorem kv (s:List CV):fX [] s=some s:=id rfl
def cY (st:St):Prop:=∀b,st.next<=b->st.mem.get b=none
theorem cY.new {st:St}(h:cY st)(blk:qJ):cY (St.new st blk):=fun b hb=>by
 simp only[u7]at hb;rw[Cw,aAH (by omega)];exact h b (by omega)
theorem cY.skip {st:St}(h:cY st):cY (St.skip st):=fun b hb=>h b (by simp only[JP]at hb;omega)
theorem cY.set {st:St}(h:cY st){p:Nat}(hp:p<st.next)(blk:qJ):cY (St.set st p blk):=fun b hb=>by
 simp only[qU]at hb;rw[al _ _ _ _ (by omega)];exact h b hb
structure Kp (F:List Nat)(st st':St):Prop where
 next:st.next<=st'.next
 keep:∀b,b<st.next->b∉F->st'.mem.get b=st.mem.get b
 fresh:cY st->cY st'
theorem Kp.refl (F:List Nat)(st:St):Kp F st st:=⟨aAE _,fun _ _ _=>rfl,id⟩
theorem Kp.trans {F G:List Nat}{a b c:St}(h:Kp F a b)(k:Kp G b c)(hg:∀q∈G,q∈F\/a.next<=q):Kp F a c:=
 ⟨aBS h.next k.next,fun q h1 h2=>by rw[k.keep q (aAZ h1 h.next) (fun h3=>by rcases hg q h3 with h4|h4;exact h2 h4;omega),h.keep q h1 h2],fun hf=>k.fresh (h.fresh hf)⟩
theorem Kp.new {F:List Nat}{a b:St}(h:Kp F a b)(blk:qJ):Kp F a (St.new b blk):=
 ⟨by have:=h.next;simp;omega,fun q h1 h2=>by rw[aZ _ _ _ (aAZ h1 h.next),h.keep q h1 h2],fun hf=>(h.fresh hf).new _⟩
theorem Kp.skip {F:List Nat}{a b:St}(h:Kp F a b):Kp F a (St.skip b):=⟨by have:=h.next;simp;omega,fun q h1 h2=>h.keep q h1 h2,fun hf=>(h.fresh hf).skip⟩
theorem Kp.set {F:List Nat}{a b:St}(h:Kp F a b){p:Nat}(blk:qJ)(hp:p∈F\/a.next<=p)(hl:p<b.next):Kp F a (St.set b p blk):=
 ⟨h.next,fun q h1 h2=>by rw[al _ _ _ _ (fun e=>by subst e;rcases hp with h3|h3;exact h2 h3;omega),h.keep q h1 h2],fun hf=>(h.fresh hf).set hl _⟩
theorem Kp.mono {F G:List Nat}{a b:St}(h:Kp F a b)(hs:∀q∈F,q∈G\/a.next<=q):Kp G a b:=
 ⟨h.next,fun q h1 h2=>h.keep q h1 fun h3=>by rcases hs q h3 with h4|h4;exact h2 h4;omega,h.fresh⟩
theorem jb {b e n:Nat}{z:List CV}{parts:List ta}{st:St}{s:List CV}(h:st.mem.get b=none)(hs:fX parts z=some s):fR b e n z parts st= .ok (.slice b 0 n n 0) (St.set st b (.cells s e false)):=by
 unfold fR;rw[h,hs];rfl
theorem Em {k n b:Nat}{z s:List CV}{e:TypeId}{g:Bool}{st:St}(h:st.mem.get b=some (.cells s e g))(hn:0<n)(hs:s.length=n*k):cV .slice k z (.slice b 0 n n 0) st=some (n,s):=by
 have e0:cV .slice k z (.slice b 0 n n 0) st=(match dG k n (.slice b 0 n n 0) st with|some s=>some (n,s)|none=>none):=rfl
 have e1:dG k n (.slice b 0 n n 0) st=some s:=by
  have e2:dG k n (.slice b 0 n n 0) st=bu (Nat.beq n 0) (some []) (bu (Bool.or (Nat.beq 0 0) (Nat.ble n n)) (match st.mem.get b with|some (.cells s _ _)=>ig s 0 (n*k)|some (.ro s _)=>ig s 0 (n*k)|_=>none) none):=rfl;have e3:Nat.beq n 0=false:=by cases h:Nat.beq n 0 with|false=>rfl|true=>rw[aBi]at h;omega
  rw[e2,e3,h];simp only[aO,aAz,aAO];rw[aAI (by simp)];unfold ig;rw[aAI (by omega),aBg,aAK (by omega)]
 rw[e0,e1]
