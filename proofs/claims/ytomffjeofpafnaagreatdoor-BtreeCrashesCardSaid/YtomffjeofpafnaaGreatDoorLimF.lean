import Derived.Test.YtomffjeofpafnaaGreatDoorLimE
namespace Lim
open Go
noncomputable section
set_option linter.defProp false
section
variable {y:OR}{op:BinOp}{k:IntKind}{a:Int}
def Bq.bare:Bq->Bool
 | .UW _| .pick .. | .nil _| .un .. | .Ic .. | .iface .. | .func .. | .nM .. | .qc .. | .slice3 .. | .nO .. | .fieldAddr .. | .field .. =>true
 | .uN .. | .zO .. | .uM .. | .uO .. | .extract .. | .rT .. | .bin .. | .build .. =>true
 | .conv c _=>(match c with| .toInt _| .same=>true|_=>false)
 | .len k _=>(match k with| .map=>false|_=>true)
 |_=>false
structure bX (x y:OR):Prop where
 eq:∀v s,x=.ok v s->∃s',y=.ok v s'
section
variable {st st':St}
def bX.bad :bX .bad y:=⟨λ_ _ h=>by cases h⟩
def bX.ok (v:CV):bX (.ok v st) (.ok v st'):=⟨λ_ _ h=>by cases h;exact⟨_,rfl⟩⟩
def bX.bz {b:Bool}{x x' y':OR}(hx:bX x x')(hy:bX y y'):bX (bz b x y) (bz b x' y'):=by cases b;exact hy;exact hx
def bX.opt {α:Type}{x:Option α}{n n':OR}{f f':α->OR}(hn:bX n n')(h:∀v,bX (f v) (f' v)):bX (Option.rec (motive:=λ_=>OR) n f x) (Option.rec (motive:=λ_=>OR) n' f' x):=by cases x;exact hn;exact h _
def bX.XV {b:Int}:bX (lT op k a b st) (lT op k a b st'):=by
 cases op<;>simp only[lT]<;>first|exact bX.ok _|exact bX.bad|(split<;>first|exact bX.ok _|exact bX.bad)
def bX.int {j:IntKind}{b:Int}:bX (jK op k a j b st) (jK op k a j b st'):=by
 cases op<;>simp only[jK]<;>split<;>first|exact bX.ok _|exact bX.bad|exact bX.XV
def bX.str {a b:List UInt8}:bX (rK op a b st) (rK op a b st'):=by
 cases op<;>simp only[rK]<;>first|exact bX.ok _|exact bX.bad|(split<;>first|exact bX.ok _|exact bX.bad)
def bX.bin {d:Option jX}{AP:Bool}{x y:CV}:bX (ai op d AP x y st) (ai op d AP x y st'):=by
 unfold ai
 split<;>first
  |exact bX.int
  |exact bX.str
  |exact bX.bad
  |(unfold vI;split<;>first|exact bX.bad|exact bX.bz bX.bad (bX.ok _))
  |(split
    .unfold pEq;split<;>first|exact bX.ok _|exact bX.bad
    .exact bX.bad)
end
def Ik {call:fW}{op:Bq}{fr:Fr}{st st':St}(h:op.bare=true):bX (de call op fr st) (de call op fr st'):=by
 cases op with
 |UW x=>exact bX.ok _
 |pick c a b=>simp only[de];unfold bf;split<;>first|exact bX.bz (bX.ok _) (bX.ok _)|exact bX.bad
 |nil x=>simp only[de];unfold dC;split<;>first|exact bX.ok _|exact bX.bad
 |bin op d AP x y=>exact bX.bin
 |un op x=>simp only[de];unfold kF;split<;>first|exact bX.ok _|exact bX.bad|(split<;>first|exact bX.ok _|exact bX.bad)
 |conv c x=>cases c<;>first|(cases h;done)|(simp only[de];cases ev fr x<;>first|exact bX.ok _|exact bX.bad)
 |Ic n x=>simp only[de];unfold oJ;split<;>first|exact bX.bz (bX.ok _) bX.bad|exact bX.bad
 |iface t x=>exact bX.ok _
 |func fn f c=>exact bX.ok _
 |nM x lo hi=>simp only[de];unfold kR;split<;>first|exact bX.bad|(split<;>first|exact bX.ok _|exact bX.bad)
 |qc size x lo hi=>
  simp only[de];unfold aN;split
  .split<;>first|exact bX.ok _|exact bX.bad
  .refine bX.bz ?_ bX.bad
   split
   .exact bX.bz (bX.ok _) (bX.bz (bX.ok _) bX.bad)
   .exact bX.bad
  .exact bX.bad
 |slice3 size x lo hi mx=>
  simp only[de];unfold iD;split
  .split
   .split
    .exact bX.bz (bX.bz (bX.ok _) (bX.ok _)) bX.bad
    .exact bX.bad
   .exact bX.bad
  .split
   .split<;>first|exact bX.ok _|exact bX.bad
   .exact bX.bad
  .exact bX.bad
 |nO n size x lo hi=>simp only[de];unfold bR;split<;>first|exact bX.bad|(split<;>first|exact bX.bad|exact bX.bz (bX.ok _) (bX.ok _))
 |fieldAddr off x=>simp only[de];unfold an;split<;>first|exact bX.ok _|exact bX.bad
 |field agg off size x=>simp only[de];unfold zz;split<;>first|exact bX.opt bX.bad (λ_=>bX.ok _)|exact bX.bad
 |uN n size x i=>simp only[de];unfold fL;split<;>first|exact bX.bz (bX.ok _) bX.bad|exact bX.bad
 |zO size x i=>simp only[de];unfold cQ;split<;>first|exact bX.bz (bX.ok _) bX.bad|exact bX.bad
 |uM x i=>simp only[de];unfold oK;split<;>first|exact bX.bad|(split<;>first|exact bX.ok _|exact bX.bad)
 |uO n size agg x i=>simp only[de];unfold vG;split<;>first|exact bX.bz (bX.opt bX.bad (λ_=>bX.ok _)) bX.bad|exact bX.bad
 |extract x i=>simp only[de];unfold av;split<;>first|exact bX.opt bX.bad (λ_=>bX.ok _)|exact bX.bad
 |len k x=>cases k<;>first|(cases h;done)|(simp only[de];unfold bj;cases ev fr x<;>first|exact bX.ok _|exact bX.bad|exact bX.bz (bX.ok _) (bX.ok _))
 |rT mx x y=>simp only[de];unfold BJ;split<;>first|exact bX.bz (bX.ok _) bX.bad|exact bX.bad
 |build z parts=>simp only[de];unfold bu;exact bX.opt bX.bad (λ_=>bX.ok _)
 |_=>cases h
abbrev aW:=Nat->List CV->St->(CV->St->Prop)->Prop
def upon (r:OR)(k:CV->St->Prop):Prop:=match r with| .ok v st=>k v st| .bad=>False
def us (r:OR)(k:CV->Prop):Prop:=match r with| .ok v _=>k v| .bad=>False
def aX (g:Option Bool)(st:St)(r:OR):OR:=match g with|some true=>r|some false=>.ok .undef st|none=>.bad
def gdW (g:Option Bool)(st:St)(yes:Prop)(k:CV->St->Prop):Prop:=match g with|some true=>yes|some false=>k .undef st|none=>False
def ak (b:Bool)(v:CV):Option Bool:=match v with| .bool c=>some (bz b c (Bool.not c))| .undef=>some false|_=>none
def fG (C:aW)(f:CV)(args:List CV)(st:St)(k:CV->St->Prop):Prop:=match f with| .func (.func g) first captured=>C g (first++(args++captured)) st k|_=>False
def aA (v:CV)(x y:Prop):Prop:=match v with| .bool true=>x| .bool false=>y|_=>False
def nS:fW:=λ_ _ _=>.bad
def mo (ops:Array Oper)(fr:Fr)(gb:Nat×Bool):Option Bool:=
 match (ops[gb.1]?).bind (·.dst)with|none=>some false|some d=>ak gb.2 (fC fr d)
def opW (C:aW)(g:Option Bool)(op:Bq)(fr:Fr)(st:St)(k:CV->St->Prop):Prop:=
 match op with
 | .call f args=>gdW g st (C f (KF fr args) st k) k
 | .Cu f args=>gdW g st (fG C (ev fr f) (KF fr args) st k) k
 |op=>bif op.still then us (aX g st (de nS op fr st)) (λv=>k v st)else upon (aX g st (de nS op fr st)) k
def Xu (C:aW)(op:Bq)(fr:Fr)(st:St)(k:CV->St->Prop):Prop:=
 match op with
 | .call f args=>C f (KF fr args) st k
 | .Cu f args=>fG C (ev fr f) (KF fr args) st k
 |op=>bif op.still then us (de nS op fr st) (λv=>k v st)else upon (de nS op fr st) k
def JG (P:Program)(C:aW)(ops:Array Oper)(o:Oper)(fr:Fr)(st:St)(k:CV->St->Prop):Prop:=
 match mj P o.op with
 |none=>False
 |some op=>match o.guard with
  |none=>Xu C op fr st k
  |some gb=>opW C (mo ops fr gb) op fr st k
def Xp (n:Nat)(dst:Option Tmp)(v:CV)(fr:Fr)(k:Fr->Prop):Prop:=match dst with|none=>k fr|some d=>bif Nat.ble (d+1) n then k (fr.put d (some v))else False
def SN (P:Program)(C:aW)(n:Nat)(ops:Array Oper):List Oper->Fr->St->(Fr->St->Prop)->Prop
 |[],fr,st,k=>k fr st
 |o::l,fr,st,k=>JG P C ops o fr st λv st=>Xp n o.dst v fr λfr=>SN P C n ops l fr st k
def wL (P:Program)(C:aW)(ops:Array Oper)(ab:Option Nat)(o:Oper)(fr:Fr)(st:St)(k:CV->St->Prop):Prop:=
 match nT P o,ab with
 |none,none=>JG P C ops o fr st k
 |some tz,some b=>upon (match o.guard with|none=>iW b tz.2 tz.1 st|some gb=>aX (mo ops fr gb) st (iW b tz.2 tz.1 st)) k
 |none,some b=>(match kS P o with
  |some x=>upon (match o.guard with
   |none=>fT b x.1 x.2.1 (cJ x.2.1 x.2.2.1) (Mw fr x.2.2.2) st
   |some gb=>aX (mo ops fr gb) st (fT b x.1 x.2.1 (cJ x.2.1 x.2.2.1) (Mw fr x.2.2.2) st)) k
  |none=>False)
 |_,_=>False
def CH (P:Program)(C:aW)(n:Nat)(ops:Array Oper):List (Oper×Option Nat)->Nat->Nat->Fr->St->(List TR->List St->Fr->St->Prop)->Prop
 |[],_,_,fr,st,k=>k [] [] fr st
 |o::l,i,c,fr,st,k=>wL P C ops o.2 o.1 fr st λv st'=>Xp n o.1.dst v fr λfr'=>bif mL P o.1
   then CH P C n ops l (i+1) (c+1) fr' st' (λeQ ch=>k (⟨i,o.2,o.1,true,c,fr,v,st,st'⟩::eQ) (st::ch))
   else CH P C n ops l (i+1) c fr' st' (λeQ ch=>k (⟨i,o.2,o.1,false,c,fr,v,st,st'⟩::eQ) ch)
def cj (b:Bool)(p q:Prop):Prop:=match b with|true=>q|false=>p/\q
abbrev Wo:=Nat×Nat×Oper
def Bm (P:Program):List Oper->Nat->Nat->List Wo
 |[],_,_=>[]
 |o::l,i,c=>(i,c,o)::Bm P l (i+1) (bif mL P o then c+1 else c)
def Hf (P:Program)(o:Oper):Bool:=match nT P o with|some _=>false|none=>match mj P o.op with|some op=>op.bare|none=>false
def noB (P:Program)(a:List Wo):Bool:=Bn a λu=>Bool.not (pM P u.2.2)
def JI (P:Program)(ops:Array Oper)(a:List Wo)(i c:Nat)(c':Nat):Bool:=
 Bool.or (Bool.and (noB P a) (Nat.beq c' c)) (Bool.or (Ej a λu=>Bool.and (mL P u.2.2) (Bool.and (Nat.ble (Nat.succ u.2.1) c') (fJ ops ops.size u.1 i)))
  (Ej a λu=>Bool.and (mL P u.2.2) (Bool.and (Nat.ble c' u.2.1) (fJ ops ops.size i u.1))))
def reW (P:Program)(ops:Array Oper)(t:TR)(s:St):Prop:=wL P (λ_ _ _ _=>False) ops t.ab t.o t.fr s λv _=>v=t.v
def SZ (P:Program)(ops:Array Oper)(a:List Wo)(t:TR):Nat->List St->Prop
 |_,[]=>True
 |c',s::r=>cj (JI P ops a t.i t.c c') (reW P ops t s) (SZ P ops a t (c'+1) r)
def OO (P:Program)(ops:Array Oper)(a:List Wo)(chain:List St):List TR->Prop
 |[]=>True
 |t::r=>(match Bool.or (pM P t.o) (Bool.or (mL P t.o) (Hf P t.o))with|true=>OO P ops a chain r|false=>SZ P ops a t 0 chain/\OO P ops a chain r)
def JV (P:Program)(ops:Array Oper)(b:Nat)(j:Nat):List TR->List St->Prop
 |[],_=>True
 |u::r,chain=>cj (Bool.or (Bool.not (mL P u.o)) (Bool.or (fJ ops ops.size u.i j) (fJ ops ops.size j u.i)))
   (match Nat.ble (u.i+1) j with|true=>u.s.m.g b=none|false=>u.s1.m.g b=u.s.m.g b) (JV P ops b j r chain)
def OQ (P:Program)(ops:Array Oper)(all:List TR)(chain:List St):List TR->Prop
 |[]=>True
 |t::r=>(match pM P t.o with|false=>OQ P ops all chain r|true=>(match t.ab with|some b=>JV P ops b t.i all chain|none=>True)/\OQ P ops all chain r)
def QC (P:Program)(C:aW)(n:Nat)(ops:Array Oper)(fr:Fr)(st:St)(k:Fr->St->Prop):Prop:=
 NT P ops=true/\Ir P ops.toList st λas gF=>CH P C n ops (ops.toList.zip as) 0 0 fr gF λeQ ch fr' st'=>
  OO P ops (Bm P ops.toList 0 0) (ch++[st']) eQ/\OQ P ops eQ (ch++[st']) eQ/\k fr' st'
def dL (k:List CV->St->Prop)(body:(List CV->St->Prop)->Prop):Prop:=body k
def FL (body:List CV->St->(List CV->St->Prop)->Prop):Nat->List CV->St->Prop
 |0,_,_=>False
 |m+1,vs,st=>body vs st (FL body m)
def db (body:List CV->St->(List CV->St->Prop)->Prop)(vs:List CV)(st:St):Prop:=∃m,FL body m vs st
def Jp (fr:Fr)(c:Operand)(x y:Prop):Prop:=match eX c with|some c=>aA (ev fr c) x y|none=>False
def iO (P:Program)(C:aW)(lv:Nat->Option (List Nat))(n:Nat):Code->Fr->St->(Fr->St->Prop)->(Nat->Fr->St->Prop)->(Fr->St->Prop)->Prop
 | .skip,fr,st,kn,_,_=>kn fr st
 | .region _ ops draw,fr,st,kn,_,_=>bif draw then QC P C n ops fr st kn else SN P C n ops ops.toList fr st kn
 | .seq x y,fr,st,kn,ke,kr=>(match lv (HJ y)with
   |none=>iO P C lv n x fr st (λfr st=>iO P C lv n y fr st kn ke kr) ke kr
   |some L=>dL (λvs st=>iO P C lv n y (JY L vs) st kn ke kr) λk=>iO P C lv n x fr st (λfr st=>k (L.map (fC fr)) st) ke kr)
 | .cond c x y,fr,st,kn,ke,kr=>Jp fr c (iO P C lv n x fr st kn ke kr) (iO P C lv n y fr st kn ke kr)
 | .block id x,fr,st,kn,ke,kr=>iO P C lv n x fr st kn (λi fr st=>bif Nat.beq i id then kn fr st else ke i fr st) kr
 | .loop x,fr,st,_,ke,kr=>(match lv (HJ x)with
   |none=>False
   |some L=>db (λvs st next=>iO P C lv n x (JY L vs) st (λfr st=>next (L.map (fC fr)) st) ke kr) (L.map (fC fr)) st)
 | .exit id,fr,st,_,ke,_=>ke id fr st
 | .scope x,fr,st,kn,ke,kr=>iO P C lv n x fr st kn ke kr
 | .label _,fr,st,kn,_,_=>kn fr st
 | .ret,fr,st,_,_,kr=>kr fr st
 |_,_,_,_,_,_=>False
def zg (P:Program)(fr:Fr)(st:St):List ResultVar->(List CV->Prop)->Prop
 |[],k=>k []
 | .tmp t::l,k=>zg P fr st l λvs=>k (fC fr t::vs)
 | .cell a t::l,k=>(match P.underlying t,P.info? t with
   |some u,some i=>us (bif im u then aK i.size (fC fr a) st else aB (fC fr a) st) λv=>zg P fr st l λvs=>k (v::vs)
   |_,_=>False)
def SC (P:Program)(fr:Fr)(st:St)(l:List ResultVar)(Q:CV->St->Prop):Prop:=
 zg P fr st l λvs=>match vs with|[]=>Q .undef st|[v]=>Q v st|v::u::vs=>Q (.tuple (v::u::vs)) st
def aM (P:Program)(C:aW)(lv:Nat->Option (List Nat))(f:Nat)(args:List CV)(st:St)(Q:CV->St->Prop):Prop:=
 match gR P f,P.funcs[f]? with
 |true,some fn=>(match fn.body with
  |some c=>iO P C lv fn.ntmps c (qE args) st (λfr st=>SC P fr st fn.results.toList Q) (λ_ _ _=>False) (λfr st=>SC P fr st fn.results.toList Q)
  |none=>False)
 |_,_=>False
abbrev zr (n:Nat):List CV:=List.replicate n (.int .u8 0)
def au:Nat->List CV->CV
 |0,vs=>vs.headD .any
 |i+1,vs=>au i (vs.drop 1)
def gJ (t:TypeId)(x:CV)(st:St):OR:=bz x.isAny .bad (dG t x.cA st)
def St.skip (st:St):St:=⟨st.m,st.nx+1⟩
def eR (g:Option Bool)(st:St)(y:(CV->St->Prop)->Prop)(k:CV->St->Prop):Prop:=gdW g st (y k) k
def bU (p:Prop):Prop:=(true=true)/\p
def eW (off:Nat)(p:CV)(st:St)(k:CV->Prop):Prop:=us (dC p st) λp=>us (an off p st) λa=>us (aB a st) k
def sn (o1 o2:Nat)(p:CV)(st:St)(k:CV->Prop):Prop:=us (dC p st) λp=>us (an o1 p st) λa=>us (an o2 a st) λa=>us (aB a st) k
def kK (g:Option Bool)(off:Nat)(p:CV)(st:St)(k:CV->Prop):Prop:=us (aX g st (dC p st)) λp=>us (aX g st (an off p st)) λa=>us (aX g st (aB a st)) k
def Ah (n off:Nat)(p:CV)(st:St)(k:CV->Prop):Prop:=us (dC p st) λp=>us (an off p st) λa=>us (aK n a st) k
def lD (n off:Nat)(p x:CV)(st:St)(k:St->Prop):Prop:=us (dC p st) λp=>us (an off p st) λa=>upon (aQ n a x st) λ_ s=>k s
def AT (n o1 o2:Nat)(p x:CV)(st:St)(k:St->Prop):Prop:=us (dC p st) λp=>us (an o1 p st) λa=>us (an o2 a st) λa=>upon (aQ n a x st) λ_ s=>k s
def fl (off:Nat)(p:CV)(st:St)(k:CV->Prop):Prop:=us (an off p st) λa=>us (aB a st) k
def jV (g:Option Bool)(off:Nat)(p:CV)(st:St)(k:CV->Prop):Prop:=us (aX g st (an off p st)) λa=>us (aX g st (aB a st)) k
def Nf (n off:Nat)(p:CV)(st:St)(k:CV->Prop):Prop:=us (an off p st) λa=>us (aK n a st) k
def fst (n off:Nat)(p x:CV)(st:St)(k:St->Prop):Prop:=us (an off p st) λa=>upon (aQ n a x st) λ_ s=>k s
def idx (size:Nat)(x i:CV)(st:St)(k:CV->Prop):Prop:=us (cQ size x i st) λa=>us (aB a st) k
def xd (g:Option Bool)(size:Nat)(x i:CV)(st:St)(k:CV->Prop):Prop:=us (aX g st (cQ size x i st)) λa=>us (aX g st (aB a st)) k
def iH (n size:Nat)(x i:CV)(st:St)(k:CV->Prop):Prop:=us (cQ size x i st) λa=>us (aK n a st) k
def Ga (n size:Nat)(x i y:CV)(st:St)(k:St->Prop):Prop:=us (cQ size x i st) λa=>upon (aQ n a y st) λ_ s=>k s
def Tn (size off:Nat)(x i:CV)(st:St)(k:CV->Prop):Prop:=us (cQ size x i st) λa=>us (an off a st) k
def L7 (size off:Nat)(x i:CV)(st:St)(k:CV->Prop):Prop:=us (cQ size x i st) λa=>us (an off a st) λa=>us (aB a st) k
def fA (g:Option Bool)(size off:Nat)(x i:CV)(st:St)(k:CV->Prop):Prop:=us (aX g st (cQ size x i st)) λa=>us (aX g st (an off a st)) λa=>us (aX g st (aB a st)) k
def Vd (n size off:Nat)(x i:CV)(st:St)(k:CV->Prop):Prop:=us (cQ size x i st) λa=>us (an off a st) λa=>us (aK n a st) k
end
section
variable {f:Nat}{st:St}{Q:CV->St->Prop}{r:OR}{k:CV->St->Prop}{F:Nat->OR}{op:Bq}{fr:Fr}{g:Option Bool}{ops:Array Oper}{o:Oper}{call:fW}{n:Nat}{v:CV}{ab:Option Nat}{s1:St}{a:List Wo}{chain:List St}
section
variable (P:Program) (lvs:Nat->Nat->Option (List Nat)) (I:yc)
def RF (n:Nat):fW:=AX P (fy P) lvs I n
def oU (f:Nat)(args:List CV)(st:St)(Q:CV->St->Prop):Prop:=∃v st',(∃N,∀n,N<=n->RF P lvs I n f args st=.ok v st')/\Q v st'
end
def Hs (F:Nat->OR)(k:CV->St->Prop):Prop:=∃v st',(∃N,∀n,N<=n->F n=.ok v st')/\k v st'
section
variable {P:Program} {lvs:Nat->Nat->Option (List Nat)} {I:yc}
def oU.mono {args:List CV}{Q':CV->St->Prop}(h:oU P lvs I f args st Q)(hq:∀v st',Q v st'->Q' v st'):oU P lvs I f args st Q':=by
 obtain⟨v,st',h1,h2⟩:=h;exact⟨v,st',h1,hq _ _ h2⟩
def Hs.const (h:upon r k)(hF:∀n,F n=r):Hs F k:=by
 cases r with
 |ok v st=>exact⟨v,st,⟨0,λn _=>hF n⟩,h⟩
 |bad=>exact h.elim
def JC (hs:Still st r)(h:us r λv=>k v st):upon r k:=by
 cases r with
 |ok v s=>have:=hs.eq v s rfl;subst this;exact h
 |bad=>exact h
def Ct {f:CV}{args:List CV}(h:fG (oU P lvs I) f args st k):Hs (λn=>wS (RF P lvs I n) f args st) k:=by
 unfold fG at h
 split at h
 .exact h
 .exact h.elim
def qg (call:fW)(op:Bq)(fr:Fr)(st:St)(h1:∀f args,op≠ .call f args)(h2:∀f args,op≠ .Cu f args):de call op fr st=de nS op fr st:=by
 cases op<;>first|rfl|exact absurd rfl (h1 _ _)|exact absurd rfl (h2 _ _)
def SO (h:Xu (oU P lvs I) op fr st k):Hs (λn=>de (RF P lvs I n) op fr st) k:=by
 unfold Xu at h
 split at h
 .exact h
 .exact Ct h
 .rename_i h1 h2
  have h':upon (de nS op fr st) k:=by
   cases hs:op.still with
   |true=>rw[hs]at h;exact JC (rH hs) h
   |false=>rw[hs]at h;exact h
  exact Hs.const h' λn=>qg _ _ _ _ (λf a e=>h1 f a e) (λf a e=>h2 f a e)
def Hs.gd {yes:Prop}(h:gdW g st yes k)(hy:yes->Hs F k):Hs (λn=>aX g st (F n)) k:=by
 cases g with
 |none=>exact h.elim
 |some b=>cases b with
  |true=>exact hy h
  |false=>exact⟨_,_,⟨0,λn _=>rfl⟩,h⟩
def Xt (h:opW (oU P lvs I) g op fr st k):Hs (λn=>aX g st (de (RF P lvs I n) op fr st)) k:=by
 unfold opW at h
 split at h
 .exact Hs.gd h λh=>h
 .exact Hs.gd h λh=>Ct h
 .rename_i h1 h2
  have h':upon (aX g st (de nS op fr st)) k:=by
   cases hs:op.still with
   |true=>
    rw[hs]at h;refine JC ?_ h;cases g with
    |none=>exact Still.bad
    |some b=>cases b with
     |true=>exact rH hs
     |false=>exact Still.ok _
   |false=>rw[hs]at h;exact h
  refine Hs.const h' λn=>?_;rw[qg _ _ _ _ (λf a e=>h1 f a e) (λf a e=>h2 f a e)]
def Af {gb:Nat×Bool}(h:o.guard=some gb):fK ops fr o=mo ops fr gb:=by
 unfold fK mo;rw[h];dsimp only;cases (ops[gb.1]?).bind (·.dst)with
 |none=>rfl
 |some d=>dsimp only;cases fC fr d<;>rfl
def NS (DN:mj P o.op=some op):mw P call ops o fr st=match o.guard with|none=>de call op fr st|some gb=>aX (mo ops fr gb) st (de call op fr st):=by
 unfold mw;cases hg:o.guard with
 |none=>
  have:fK ops fr o=some true:=by unfold fK;rw[hg]
  rw[this,DN]
 |some gb=>
  rw[Af hg,DN];dsimp only;cases mo ops fr gb with
  |none=>rfl
  |some b=>cases b<;>rfl
def EO (h:JG P (oU P lvs I) ops o fr st k):Hs (λn=>mw P (RF P lvs I n) ops o fr st) k:=by
 unfold JG at h;cases DN:mj P o.op with
 |none=>rw[DN]at h;exact h.elim
 |some op=>
  rw[DN]at h;dsimp only at h;have e:(λn=>mw P (RF P lvs I n) ops o fr st)=λn=>(match o.guard with|none=>de (RF P lvs I n) op fr st|some gb=>aX (mo ops fr gb) st (de (RF P lvs I n) op fr st)):=funext λn=>NS DN;rw[e];cases hg:o.guard with
  |none=>rw[hg]at h;exact SO h
  |some gb=>rw[hg]at h;exact Xt h
def Ff {dst:Option Tmp}{k:Fr->Prop}(h:Xp n dst v fr k):∃fr',Fh n dst v fr=some fr'/\k fr':=by
 cases dst with
 |none=>exact⟨fr,rfl,h⟩
 |some d=>
  have h':(bif Nat.ble (d+1) n then k (fr.put d (some v))else False):=h;cases hb:Nat.ble (d+1) n with
  |false=>rw[hb]at h';exact h'.elim
  |true=>
   rw[hb]at h';refine⟨_,?_,h'⟩;unfold Fh;simp only[dH,aO];rw[aDy hb]
def SM :∀{l:List Oper} {fr:Fr} {st:St} {k:Fr->St->Prop},SN P (oU P lvs I) n ops l fr st k->
 ∃fr' st',(∃N,∀m,N<=m->oW P (RF P lvs I m) n ops l fr st=.norm fr' st')/\k fr' st':=by
 intro l
 induction l with
 |nil=>intro fr st k h;exact⟨fr,st,⟨0,λ_ _=>rfl⟩,h⟩
 |cons o l ih=>
  intro fr st k h;obtain⟨v,gF,⟨N,hN⟩,h1⟩:=EO h;obtain⟨mg,p1,h2⟩:=Ff h1;obtain⟨fr',st',⟨N',hN'⟩,h3⟩:=ih h2;refine⟨fr',st',⟨max N N',λm hm=>?_⟩,h3⟩;have RN:=hN m pX;dsimp only at RN;rw[xI,RN];dsimp only;rcases BE p1 with⟨e,rfl⟩|⟨d,e,hd,rfl⟩
  .rw[e];exact hN' m pX
  .rw[e];dsimp only;rw[aDy hd];exact hN' m pX
def Bv (h:wL P (oU P lvs I) ops ab o fr st k):Hs (λn=>gN P (RF P lvs I n) ops ab o fr st) k:=by
 have key:∀(r:OR),upon (match o.guard with|none=>r|some gb=>aX (mo ops fr gb) st r) k->Hs (λ_=>(match fK ops fr o with|some true=>r|some false=>.ok .undef st|none=>.bad)) k:=by
  intro r hr;refine Hs.const hr λn=>?_;cases hg:o.guard with
  |none=>
   have:fK ops fr o=some true:=by unfold fK;rw[hg]
   rw[this]
  |some gb=>
   rw[Af hg];dsimp only;cases mo ops fr gb with
   |none=>rfl
   |some b=>cases b<;>rfl
 unfold wL at h;unfold gN
 split at h
 .rename_i h1;rw[h1];exact EO h
 .rename_i tz b h1;rw[h1];exact key _ h
 .rename_i b h1;rw[h1];dsimp only
  split at h
  .rename_i x hx;rw[hx];exact key _ h
  .exact h.elim
 .exact h.elim
def HU (h:wL P (λ_ _ _ _=>False) ops ab o fr st k):Hs (λ_=>gN P nS ops ab o fr st) k:=by
 have h2:wL P (oU P (λ_ _=>none) (λ_ _ _=>some .bad)) ops ab o fr st k:=by
  have e:(oU P (λ_ _=>none) (λ_ _ _=>some OR.bad))=λ_ _ _ _=>False:=by
   funext f args st k
   refine propext ⟨?_,λh=>h.elim⟩;rintro⟨v,st',⟨N,hN⟩,_⟩;have:=hN (N+1) pX;unfold RF at this;simp only[AX]at this;cases this
  rw[e];exact h
 obtain⟨v,s1,⟨N,hN⟩,hk⟩:=Bv h2;refine⟨v,s1,⟨0,λ_ _=>?_⟩,hk⟩
 have e:∀n,RF P (λ_ _=>none) (λ_ _ _=>some OR.bad) n=nS:=by
  intro n
  funext f args st
  cases n with
  |zero=>rfl
  |succ n=>unfold RF;simp only[AX];rfl
 have:=hN N (aDt _);dsimp only at this;rw[e]at this;exact this
def K0 :∀{l:List (Oper×Option Nat)} {i c:Nat} {fr:Fr} {st:St} {k:List TR->List St->Fr->St->Prop},CH P (oU P lvs I) n ops l i c fr st k->
 ∃eQ ch fr' st',(∃N,∀m,N<=m->qQ P (RF P lvs I m) n ops l i c fr st=some (eQ,ch,fr',st'))/\k eQ ch fr' st':=by
 intro l
 induction l with
 |nil=>intro i c fr st k h;exact⟨[],[],fr,st,⟨0,λ_ _=>rfl⟩,h⟩
 |cons o l ih=>
  intro i c fr st k h;obtain⟨v,gF,⟨N,hN⟩,h1⟩:=Bv h;obtain⟨mg,p1,h2⟩:=Ff h1
  have e:∀call,qQ P call n ops (o::l) i c fr st=OR.rec (λv st'=>ot v λv=>ot st' λst'=>
   Option.rec none (λfr'=>bz (mL P o.1)
    (Option.rec none (λr=>some (⟨i,o.2,o.1,true,c,fr,v,st,st'⟩::r.1,st::r.2.1,r.2.2)) (qQ P call n ops l (Nat.succ i) (Nat.succ c) fr' st'))
    (Option.rec none (λr=>some (⟨i,o.2,o.1,false,c,fr,v,st,st'⟩::r.1,r.2.1,r.2.2)) (qQ P call n ops l (Nat.succ i) c fr' st'))) (Fh n o.1.dst v fr)) none (gN P call ops o.2 o.1 fr st):=λ_=>rfl
  cases hw:mL P o.1 with
  |true=>
   rw[hw]at h2;obtain⟨eQ,ch,fr',st',⟨N',hN'⟩,h3⟩:=ih h2;refine⟨_,_,fr',st',⟨max N N',λm hm=>?_⟩,h3⟩;have RN:=hN m pX;dsimp only at RN;rw[e,RN];simp only[dH,p1,aO,hw,aDQ];rw[hN' m pX]
  |false=>
   rw[hw]at h2;obtain⟨eQ,ch,fr',st',⟨N',hN'⟩,h3⟩:=ih h2;refine⟨_,_,fr',st',⟨max N N',λm hm=>?_⟩,h3⟩;have RN:=hN m pX;dsimp only at RN;rw[e,RN];simp only[dH,p1,aO,hw,aDp,aDE];rw[hN' m pX]
def CN (hw:mL P o=false)(h:gN P nS ops ab o fr st=.ok v s1):gN P call ops ab o fr st=.ok v s1:=by
 unfold gN at h⊢
 split at h
 .unfold mw at h⊢
  split at h
  .rename_i wG
   try rw[wG]
   split at h
   .rename_i op DN;rw[qg call op]
    .exact h
    .intro f args e;subst e;cases h
    .intro f args e;subst e;have h':wS nS (ev fr f) (KF fr args) st=.ok v s1:=h;unfold wS at h'
     split at h'<;>cases h'
   .cases h
  .exact h
  .cases h
 .exact h
 .exact h
 .cases h
def HT (hb:Hf P o=true)(si:pM P o=false)(h:gN P call ops ab o fr st=.ok v s1)(s:St):∃s2,gN P call ops ab o fr s=.ok v s2:=by
 have hl:kS P o=none:=by
  unfold pM at si;cases hl:kS P o with
  |none=>rfl
  |some x=>rw[hl]at si;cases si
 unfold Hf at hb;unfold gN at h⊢;cases hn:nT P o with
 |some tz=>rw[hn]at hb;cases hb
 |none=>
  rw[hn]at hb h;dsimp only at hb h;cases ab with
  |some b=>dsimp only at h;rw[hl]at h;cases h
  |none=>
   dsimp only at h⊢;unfold mw at h⊢;cases hw:fK ops fr o with
   |none=>rw[hw]at h;cases h
   |some b=>
    rw[hw]at h;cases b with
    |false=>cases h;exact⟨_,rfl⟩
    |true=>
     dsimp only at h⊢;cases DN:mj P o.op with
     |none=>rw[DN]at h;cases h
     |some op=>
      rw[DN]at h hb;exact(Ik hb).eq _ _ h
def KQ (P:Program):∀(l:List Oper) (i c k:Nat) (o:Oper),l[k]?=some o->(Bm P l i c)[k]?=some (i+k,c+ja P l k,o):=by
 intro l
 induction l with
 |nil=>intro i c k o h;simp at h
 |cons o' l ih=>
  intro i c k o h;cases k with
  |zero=>simp at h;subst h;rfl
  |succ k=>
   show(Bm P l (i+1) (bif mL P o' then c+1 else c))[k]?=_;rw[ih _ _ k o R5,wm];cases mL P o'<;>simp<;>omega
def Hh (P:Program):∀(l:List Oper) (i c:Nat),(Bm P l i c).length=l.length:=by
 intro l
 induction l with
 |nil=>intro i c;rfl
 |cons o l ih=>intro i c;show(Bm P l _ _).length+1=_;rw[ih];rfl
def QY {l:List Oper}{x:Wo}(h:x∈Bm P l 0 0):∃o,l[x.1]?=some o/\x=(x.1,ja P l x.1,o):=by
 obtain⟨k,hk,rfl⟩:=aEv h;rw[Hh]at hk;have h1:=KQ P l 0 0 k l[k] (aDu hk);rw[aDu (by rw[Hh];exact hk)]at h1;have h2:=aFr h1;rw[h2];simp only[aDx];exact⟨l[k],aDu hk,rfl⟩
def ZC {as:List (Option Nat)}{eQ:List TR}{ch:List St}{AJ jO lZ:St}{Ag GL:Fr}(dm:uo P ops.toList AJ as jO)(jU:Hn (ops.toList.zip as) P call n ops 0 0 Ag jO eQ ch GL lZ)(qY:∀(j:Nat) (o:Oper),ops.toList[j]?=some o->pM P o=false){k:Nat}:
 ∀{k':Nat},k<=k'->k'<=ops.toList.length->(∀(j:Nat) (o:Oper),k<=j->j<k'->ops.toList[j]?=some o->mL P o=false)->lq eQ lZ k'=lq eQ lZ k:=by
 intro k'
 induction k' with
 |zero=>intro h _ _;have:k=0:=by omega
        subst this;rfl
 |succ k' ih=>
  intro h hl hw
  by_cases hk:k=k'+1
  .subst hk;rfl
  have i1:=ih pX pX (λj o h1 h2=>hw j o h1 pX);have ho:ops.toList[k']?=some ops.toList[k']:=aDu pX;generalize ops.toList[k']=o at ho;obtain⟨t,ab,h1,h2,h3,h4,h5,h6,h7,h8,h9,Ji,h11⟩:=mX dm jU ho;rw[<-jU.ql k' t h1,<-i1,rB (hw k' o pX pX ho) (qY k' o ho) Ji];unfold lq;rw[h1]
def QN {b:Bool}{p q:Prop}(h:cj b p q):q/\(b=false->p):=by
 cases b with
 |true=>exact⟨h,λe=>by cases e⟩
 |false=>exact⟨h.2,λ_=>h.1⟩
def SY {t:TR}:∀{chain:List St} {c0:Nat},SZ P ops a t c0 chain->∀(j:Nat) (s:St),chain[j]?=some s->JI P ops a t.i t.c (c0+j)=false->reW P ops t s:=by
 intro chain
 induction chain with
 |nil=>intro c0 _ j s h;simp at h
 |cons s0 r ih=>
  intro c0 h j s hj hs;obtain⟨h1,h2⟩:=QN (show cj _ _ _ from h);cases j with
  |zero=>simp at hj;subst hj;exact h2 hs
  |succ j=>exact ih h1 j s abk (by rw[show c0+1+j=c0+(j+1) from pX];exact hs)
def SW :∀{eQ:List TR},OO P ops a chain eQ->∀t∈eQ,pM P t.o=false->mL P t.o=false->Hf P t.o=false->SZ P ops a t 0 chain:=by
 intro eQ
 induction eQ with
 |nil=>intro _ t h;cases h
 |cons t0 r ih=>
  intro h t ht h1 h2 h3;simp only[OO]at h;rcases aDs.1 ht with rfl|ht
  .rw[h1,h2,h3]at h;exact h.1
  .split at h
   .exact ih h t ht h1 h2 h3
   .exact ih h.2 t ht h1 h2 h3
def OP {b j:Nat}:∀{eQ:List TR},JV P ops b j eQ chain->∀u∈eQ,mL P u.o=true->fJ ops ops.size u.i j=false->fJ ops ops.size j u.i=false->
 (u.i<j->u.s.m.g b=none)/\(j<u.i->u.s1.m.g b=u.s.m.g b):=by
 intro eQ
 induction eQ with
 |nil=>intro _ t h;cases h
 |cons t0 r ih=>
  intro h t ht h1 h2 h3;obtain⟨k1,k2⟩:=QN (show cj _ _ _ from h);rcases aDs.1 ht with rfl|ht
  .have:=k2 (by rw[h1,h2,h3];rfl);constructor
   .intro hlt;rw[show Nat.ble (t.i+1) j=true by rw[aDW];exact hlt]at this;exact this
   .intro hlt;rw[show Nat.ble (t.i+1) j=false by cases hb:Nat.ble (t.i+1) j with|false=>rfl|true=>rw[aDW]at hb;omega]at this;exact this
  .exact ih k1 t ht h1 h2 h3
def SX {all:List TR}:∀{eQ:List TR},OQ P ops all chain eQ->∀t∈eQ,pM P t.o=true->∀b,t.ab=some b->JV P ops b t.i all chain:=by
 intro eQ
 induction eQ with
 |nil=>intro _ t h;cases h
 |cons t0 r ih=>
  intro h t ht h1 b hb;simp only[OQ]at h;rcases aDs.1 ht with rfl|ht
  .rw[h1]at h;have:=h.1;rw[hb]at this;exact this
  .split at h
   .exact ih h t ht h1 b hb
   .exact ih h.2 t ht h1 b hb
def QB {k:Fr->St->Prop}(h:QC P (oU P lvs I) n ops fr st k):
 ∃fr' st',(∃N,∀m,N<=m->fy P (RF P lvs I m) n ops fr st=.norm fr' st')/\k fr' st':=by
 obtain⟨ady,h⟩:=h;have hst:=HV ady;obtain⟨as,gF,dm,hk⟩:=JO (P:=P) ops.toList st;rw[hk]at h;obtain⟨eQ,ch,fr',st',⟨N,hN⟩,hR,hL,HF⟩:=K0 h;refine⟨fr',st',⟨N,λm hm=>?_⟩,HF⟩;have Pc:=hN m hm;unfold fy;rw[hk,Pc];dsimp only;have DR:(ops.toList.zip as).map (·.1)=ops.toList:=List.map_fst_zip aal;have jU:=EK Pc (by rw[DR];exact hst.s3)
 have adZ:∀(i:Nat) (o:Oper),ops.toList[i]?=some o->(i,ja P ops.toList i,o)∈Bm P ops.toList 0 0:=λi o hoi=>by
  have:=KQ P ops.toList 0 0 i o hoi;simp only[aDx]at this;exact aEm this
 rw[aDy];refine⟨hst,?_,?_⟩
 .intro i t X7 htw htB c s hc;have hoi:=xB dm jU X7;obtain⟨t',ab,g1,vZ,g2,g3,g4,g5,g6,g7,g8,RQ,g11⟩:=mX dm jU hoi;rw[X7]at g1;cases g1
  have hu:∀u∈Bm P ops.toList 0 0,mL P u.2.2=true->∃tu∈eQ,tu.w=true/\tu.c=u.2.1/\tu.i=u.1:=by
   intro u hu huw;obtain⟨ou,ho,e⟩:=QY hu;obtain⟨tu,_,k1,_,k2,k3,k4,k5,k6,_⟩:=mX dm jU ho;have e2:u.2.2=ou:=by rw[e]
   have e3:u.2.1=ja P ops.toList u.1:=by rw[e]
   exact⟨tu,aEm k1,by rw[k5,<-e2];exact huw,by rw[k6,e3],k2⟩
  cases VQ:Hf P t.o with
  |true=>exact .inr (.inr (by rw[g3];exact HT VQ htB RQ s))
  |false=>
   cases je:JI P ops (Bm P ops.toList 0 0) t.i t.c c with
   |true=>
    unfold JI at je;simp only[aEu,aDK,aDZ,Au]at je;rcases je with⟨Gj,je⟩|⟨u,hu1,X5,RA⟩|⟨u,hu1,X5,RA⟩
    .have qY:=λj o hj=>by
      unfold noB at Gj;rw[oh]at Gj;have:=Gj _ (adZ j o hj)
      simpa using this
     have Ew:=(aDD.1 hoi).1;obtain⟨k2,n1,n2,n3,n4,n5,n6⟩:=vP dm jU (ops.toList.length-i) i pX;have e6:=ZC dm jU qY n1 n2 n3;have e7:lq eQ st' i=t.s:=by unfold lq;rw[X7]
     rw[je,g6,n5]at hc;cases hc;refine .inr (.inr ⟨t.s1,?_⟩);rw[e6,e7,g3];exact RQ
    .simp only[aDW]at RA;obtain⟨tu,k1,k2,k3,k4⟩:=hu u hu1 X5;exact .inl ⟨tu,k1,k2,by rw[k3];exact RA.1,by rw[k4];exact RA.2⟩
    .simp only[aDW]at RA;obtain⟨tu,k1,k2,k3,k4⟩:=hu u hu1 X5;exact .inr (.inl ⟨tu,k1,k2,by rw[k3];exact RA.1,by rw[k4];exact RA.2⟩)
   |false=>
    refine .inr (.inr ?_);have h1:=SY (SW hR t (aEm X7) htB htw VQ) c s hc (by rw[aDx];exact je);obtain⟨v,s1,⟨N1,RN⟩,hv⟩:=HU h1;subst hv;exact⟨s1,CN htw (RN N1 (aDt _))⟩
 .intro j tj b hj hjB hjb d td hd hdW a1 a2;have RE:=xB dm jU hj;have hod:=xB dm jU hd;obtain⟨tj',_,m1,m5,m2,m3,_,_,m4,_⟩:=mX dm jU RE;rw[hj]at m1;cases m1;obtain⟨td',_,p1,_,p2,_,p3,_,p4,_,_,_,p11⟩:=mX dm jU hod;rw[hd]at p1;cases p1
  have hb:tj.ab=some b:=by
   rw[hjb]at m5;have:=aFr m5;rw[m3,<-this]
  have h1:=OP (SX hL tj (aEm hj) hjB b hb) td (aEm hd) hdW (by rw[p2,m2];exact a1) (by rw[p2,m2];exact a2);rw[p2,m2]at h1;have e1:=p11 hdW;rw[<-p4]at e1;constructor
  .intro hlt s hs;rw[e1]at hs;cases hs;exact h1.1 hlt
  .intro hlt s s' hs uh;rw[e1]at hs;cases hs;have e2:(ch++[st'])[td.c+1]?=some td.s1\/True:=.inr trivial;obtain⟨k2,n1,n2,n3,n4,n5,n6⟩:=vP dm jU (ops.toList.length-(d+1)) (d+1) (by have:=(aDD.1 hod).1;omega);have e3:ja P ops.toList (d+1)=td.c+1:=by rw[oe hod,hdW,p4];rfl
   rw[e3]at n5;rw[n5]at uh;cases uh;obtain⟨q1,q2⟩:=gap dm jU n1 n2 n3;have e4:=(jU.ql d td hd).symm
   by_cases kX:∃j2 t2,d+1<=j2/\j2<k2/\eQ[j2]?=some t2/\pM P t2.o=true/\as[j2]?=some (some b)
   .exfalso;obtain⟨j2,t2,r1,r2,r3,r4,r5⟩:=kX;have:=dm.uniq j j2 b hjb r5;omega
   .rw[q2 b (λj2 t2 r1 r2 r3 r4 r5=>kX ⟨j2,t2,r1,r2,r3,r4,r5⟩),e4];exact h1.2 hlt
def KR (kn:Fr->St->Prop)(ke:Nat->Fr->St->Prop)(kr:Fr->St->Prop):Rs->Prop
 | .norm fr st=>kn fr st
 | .exit i fr st=>ke i fr st
 | .ret fr st=>kr fr st
 | .bad=>False
def QL {lv:Nat->Option (List Nat)}(c:Code):∀{fr:Fr} {st:St} {kn:Fr->St->Prop} {ke:Nat->Fr->St->Prop} {kr:Fr->St->Prop},iO P (oU P lvs I) lv n c fr st kn ke kr->
 ∃r,(∃N,∀m,N<=m->lR P (RF P lvs I m) (fy P) lv m n c fr st=r)/\KR kn ke kr r:=by
 induction c with
 |skip=>intro fr st kn ke kr h;exact⟨.norm fr st,⟨0,λ_ _=>rfl⟩,h⟩
 |region id ops draw=>
  intro fr st kn ke kr h;cases draw with
  |true=>
   obtain⟨fr',st',⟨N,hN⟩,h1⟩:=QB (show QC P (oU P lvs I) n ops fr st kn from h);exact⟨.norm fr' st',⟨N,λm hm=>hN m hm⟩,h1⟩
  |false=>
   obtain⟨fr',st',⟨N,hN⟩,h1⟩:=SM (show SN P (oU P lvs I) n ops ops.toList fr st kn from h);exact⟨.norm fr' st',⟨N,λm hm=>hN m hm⟩,h1⟩
 |seq x y hx hy=>
  intro fr st kn ke kr h
  have key:iO P (oU P lvs I) lv n x fr st (λfr st=>iO P (oU P lvs I) lv n y (xu (lv (HJ y)) fr) st kn ke kr) ke kr:=by
   have h':(match lv (HJ y)with
    |none=>iO P (oU P lvs I) lv n x fr st (λfr st=>iO P (oU P lvs I) lv n y fr st kn ke kr) ke kr
    |some L=>dL (λvs st=>iO P (oU P lvs I) lv n y (JY L vs) st kn ke kr) λk=>iO P (oU P lvs I) lv n x fr st (λfr st=>k (L.map (fC fr)) st) ke kr):=h
   cases hl:lv (HJ y)with
   |none=>rw[hl]at h';exact h'
   |some L=>rw[hl]at h';exact h'
  obtain⟨r,⟨N,hN⟩,hr⟩:=hx key;cases r with
  |norm mg gF=>
   obtain⟨r2,⟨N2,hN2⟩,Cb⟩:=hy (show iO P (oU P lvs I) lv n y (xu (lv (HJ y)) mg) gF kn ke kr from hr);refine⟨r2,⟨max N N2,λm hm=>?_⟩,Cb⟩;show tY (lR P (RF P lvs I m) (fy P) lv m n x fr st) _=r2;rw[hN m pX];exact hN2 m pX
  |exit i mg gF=>
   refine⟨.exit i mg gF,⟨N,λm hm=>?_⟩,hr⟩;show tY (lR P (RF P lvs I m) (fy P) lv m n x fr st) _=_;rw[hN m hm];rfl
  |ret mg gF=>
   refine⟨.ret mg gF,⟨N,λm hm=>?_⟩,hr⟩;show tY (lR P (RF P lvs I m) (fy P) lv m n x fr st) _=_;rw[hN m hm];rfl
  |bad=>exact(show False from hr).elim
 |cond c x y hx hy=>
  intro fr st kn ke kr h;have h':Jp fr c (iO P (oU P lvs I) lv n x fr st kn ke kr) (iO P (oU P lvs I) lv n y fr st kn ke kr):=h;have e:∀m,lR P (RF P lvs I m) (fy P) lv m n (.cond c x y) fr st=Cr c (lR P (RF P lvs I m) (fy P) lv m n x) (lR P (RF P lvs I m) (fy P) lv m n y) fr st:=λ_=>rfl;unfold Jp at h';cases hc:eX c with
  |none=>rw[hc]at h';exact h'.elim
  |some a=>
   rw[hc]at h';dsimp only at h';unfold aA at h'
   split at h'
   .rename_i hv;obtain⟨r,⟨N,hN⟩,hr⟩:=hx h';exact⟨r,⟨N,λm hm=>aau⟩,hr⟩
   .rename_i hv;obtain⟨r,⟨N,hN⟩,hr⟩:=hy h';exact⟨r,⟨N,λm hm=>aau⟩,hr⟩
   .exact h'.elim
 |block id x hx=>
  intro fr st kn ke kr h;obtain⟨r,⟨N,hN⟩,hr⟩:=hx (show iO P (oU P lvs I) lv n x fr st kn (λi fr st=>bif Nat.beq i id then kn fr st else ke i fr st) kr from h);refine⟨rX id r,⟨N,λm hm=>?_⟩,?_⟩
  .show rX id (lR P (RF P lvs I m) (fy P) lv m n x fr st)=_;rw[hN m hm]
  .cases r with
   |norm mg gF=>exact hr
   |ret mg gF=>exact hr
   |bad=>exact hr
   |exit i mg gF=>
    have AM:(bif Nat.beq i id then kn mg gF else ke i mg gF):=hr;show KR kn ke kr (bz (Nat.beq i id) (.norm mg gF) (.exit i mg gF));cases hb:Nat.beq i id with
    |true=>rw[hb]at AM;exact AM
    |false=>rw[hb]at AM;exact AM
 |loop x hx=>
  intro fr st kn ke kr h
  have h':(match lv (HJ x)with
   |none=>False
   |some L=>db (λvs st next=>iO P (oU P lvs I) lv n x (JY L vs) st (λfr st=>next (L.map (fC fr)) st) ke kr) (L.map (fC fr)) st):=h
  cases hl:lv (HJ x)with
  |none=>rw[hl]at h';exact h'.elim
  |some L=>
   rw[hl]at h';obtain⟨m0,Gm⟩:=h'
   have key:∀(m0:Nat) (fr:Fr) (st:St),FL (λvs st next=>iO P (oU P lvs I) lv n x (JY L vs) st (λfr st=>next (L.map (fC fr)) st) ke kr) m0 (L.map (fC fr)) st->
    ∃r,(∃N,∀m,N<=m->∀j,m0<=j->xN (lR P (RF P lvs I m) (fy P) lv m n x) (some L) j fr st=r)/\KR kn ke kr r:=by
    intro m0
    induction m0 with
    |zero=>intro fr st hh;exact hh.elim
    |succ m0 ih=>
     intro fr st hh;obtain⟨r,⟨N,hN⟩,hr⟩:=hx (show iO P (oU P lvs I) lv n x (JY L (L.map (fC fr))) st (λfr st=>FL (λvs st next=>iO P (oU P lvs I) lv n x (JY L vs) st (λfr st=>next (L.map (fC fr)) st) ke kr) m0 (L.map (fC fr)) st) ke kr from hh);cases r with
     |norm mg gF=>
      obtain⟨r2,⟨N2,hN2⟩,Cb⟩:=ih mg gF hr;refine⟨r2,⟨max N N2,λm hm j hj=>?_⟩,Cb⟩;obtain⟨j,rfl⟩:∃i,j=i+1:=⟨j-1,pX⟩;show tY (lR P (RF P lvs I m) (fy P) lv m n x (xu (some L) fr) st) _=r2;rw[show xu (some L) fr=JY L (L.map (fC fr))from rfl,hN m pX];exact hN2 m pX j pX
     |exit i mg gF=>
      refine⟨.exit i mg gF,⟨N,λm hm j hj=>?_⟩,hr⟩;obtain⟨j,rfl⟩:∃i,j=i+1:=⟨j-1,pX⟩;show tY (lR P (RF P lvs I m) (fy P) lv m n x (xu (some L) fr) st) _=_;rw[show xu (some L) fr=JY L (L.map (fC fr))from rfl,hN m hm];rfl
     |ret mg gF=>
      refine⟨.ret mg gF,⟨N,λm hm j hj=>?_⟩,hr⟩;obtain⟨j,rfl⟩:∃i,j=i+1:=⟨j-1,pX⟩;show tY (lR P (RF P lvs I m) (fy P) lv m n x (xu (some L) fr) st) _=_;rw[show xu (some L) fr=JY L (L.map (fC fr))from rfl,hN m hm];rfl
     |bad=>exact(show False from hr).elim
   obtain⟨r,⟨N,hN⟩,hr⟩:=key m0 fr st Gm;refine⟨r,⟨max N m0,λm hm=>?_⟩,hr⟩;show xN (lR P (RF P lvs I m) (fy P) lv m n x) (lv (HJ x)) m fr st=r;rw[hl];exact hN m pX m pX
 |exit id=>intro fr st kn ke kr h;exact⟨.exit id fr st,⟨0,λ_ _=>rfl⟩,h⟩
 |scope x hx=>intro fr st kn ke kr h;exact hx h
 |label l=>intro fr st kn ke kr h;exact⟨.norm fr st,⟨0,λ_ _=>rfl⟩,h⟩
 |ret=>intro fr st kn ke kr h;exact⟨.ret fr st,⟨0,λ_ _=>rfl⟩,h⟩
 |rangeFunc f ps x y hx hy=>intro fr st kn ke kr h;exact(show False from h).elim
 |goto l=>intro fr st kn ke kr h;exact(show False from h).elim
 |refuse y=>intro fr st kn ke kr h;exact(show False from h).elim
def Ou :∀{l:List ResultVar} {k:List CV->Prop},zg P fr st l k->∃vs,Il P fr st l=some vs/\k vs:=by
 intro l
 induction l with
 |nil=>intro k h;exact⟨[],rfl,h⟩
 |cons r l ih=>
  intro k h;have e:Il P fr st (r::l)=(match BC P fr st r,Il P fr st l with|some v,some l=>some (v::l)|_,_=>none):=rfl;cases r with
  |tmp t=>
   obtain⟨vs,h1,h2⟩:=ih (show zg P fr st l λvs=>k (fC fr t::vs)from h);exact⟨_,by rw[e,h1];rfl,h2⟩
  |cell a t=>
   simp only[zg]at h
   split at h
   .rename_i u i hu hi
    have e1:BC P fr st (.cell a t)=(match (bif im u then aK i.size (fC fr a) st else aB (fC fr a) st)with| .ok v _=>some v| .bad=>none):=by
     show(match P.underlying t,P.info? t with
      |some u,some i=>(match bz (im u) (aK i.size (fC fr a) st) (aB (fC fr a) st)with| .ok v _=>some v| .bad=>none)
      |_,_=>none)=_
     rw[hu,hi];dsimp only;rw[aO];cases im u<;>rfl
    generalize (bif im u then aK i.size (fC fr a) st else aB (fC fr a) st)=rr at h e1;cases rr with
    |bad=>exact h.elim
    |ok v s=>
     obtain⟨vs,h1,h2⟩:=ih (show zg P fr st l λvs=>k (v::vs)from h);exact⟨_,by rw[e,h1,e1],h2⟩
   .exact h.elim
def SB {l:List ResultVar}(h:SC P fr st l Q):upon (AY P fr st l) Q:=by
 obtain⟨vs,h1,h2⟩:=Ou h;unfold AY;rw[h1];cases vs with
 |nil=>exact h2
 |cons v vs=>cases vs with
  |nil=>exact h2
  |cons u vs=>exact h2
def acm (P:Program)(l:List ResultVar)(r:Rs):OR:=match r with| .norm fr st=>AY P fr st l| .exit _ _ _=>.bad| .ret fr st=>AY P fr st l| .bad=>.bad
def Ay {args:List CV}(hI:I f args st=none)(h:aM P (oU P lvs I) (lvs f) f args st Q):oU P lvs I f args st Q:=by
 unfold aM at h
 split at h
 .rename_i fn GF hfn
  split at h
  .rename_i c hb;obtain⟨r,⟨N,hN⟩,hr⟩:=QL c h
   have e:∀m,N<=m->RF P lvs I (m+1) f args st=acm P fn.results.toList r:=by
    intro m hm;unfold RF;simp only[AX,hI];unfold Eb;have:=hN m hm;unfold RF at this;rw[GF,aO,aDy rfl,hfn];dsimp only;rw[hb];dsimp only;rw[this];cases r<;>rfl
   have fin:∀mg gF,SC P mg gF fn.results.toList Q->(∀m,N<=m->RF P lvs I (m+1) f args st=AY P mg gF fn.results.toList)->oU P lvs I f args st Q:=by
    intro mg gF X6 he;have hu:=SB X6;cases IV:AY P mg gF fn.results.toList with
    |bad=>rw[IV]at hu;exact hu.elim
    |ok v ux=>
     rw[IV]at hu;refine⟨v,ux,⟨N+1,λm hm=>?_⟩,hu⟩;obtain⟨m,rfl⟩:∃i,m=i+1:=⟨m-1,pX⟩;rw[he m pX,IV]
   cases r with
   |norm mg gF=>exact fin mg gF hr (λm hm=>e m hm)
   |ret mg gF=>exact fin mg gF hr (λm hm=>e m hm)
   |exit i mg gF=>exact(show False from hr).elim
   |bad=>exact(show False from hr).elim
  .exact h.elim
 .exact h.elim
def Hp {args:List CV}{st':St}(hI:I f args st=some (.ok v st'))(h:Q v st'):oU P lvs I f args st Q:=by
 refine⟨v,st',⟨1,λm hm=>?_⟩,h⟩;obtain⟨m,rfl⟩:∃i,m=i+1:=⟨m-1,pX⟩;unfold RF;simp only[AX,hI]
def oU.out (hm:P.follows .mixedOrders=true)(hI:nH P I){args:List CV}(h:oU P lvs I f args st Q):∃v st',qM P f args st v st'/\Q v st':=by
 obtain⟨v,st',⟨N,hN⟩,hq⟩:=h;exact⟨v,st',ze (nP hm) hI N f args st v st' (hN N (aDt _)),hq⟩
end
end
section
variable {st:St}{p:Nat}{F G:List Nat}{a:St}{s:List CV}{n:Nat}{z:List CV}
@[simp] def af (v:CV)(st:St)(k:CV->Prop):us (.ok v st) k=k v:=id rfl
@[simp] def akt (k:CV->Prop):us .bad k=False:=id rfl
@[simp] def aT (v:CV)(st:St)(k:CV->St->Prop):upon (.ok v st) k=k v st:=id rfl
@[simp] def abJ (k:CV->St->Prop):upon .bad k=False:=id rfl
@[simp] def ag (b:Bool)(x y:Prop):aA (.bool b) x y=if b=true then x else y:=by cases b<;>simp[aA]
@[simp] def aL (b c:Bool):ak b (.bool c)=some (if b=true then c else !c):=by cases b<;>rfl
@[simp] def ry (b:Bool):ak b .undef=some false:=id rfl
@[simp] def bp (st:St)(r:OR):aX (some true) st r=r:=id rfl
@[simp] def cH (st:St)(r:OR):aX (some false) st r=.ok .undef st:=id rfl
@[simp] def eE (st:St)(y:(CV->St->Prop)->Prop)(k:CV->St->Prop):eR (some true) st y k=y k:=id rfl
@[simp] def oS (st:St)(y:(CV->St->Prop)->Prop)(k:CV->St->Prop):eR (some false) st y k=k .undef st:=id rfl
@[simp] def bA (p:Prop):bU p=p:=by simp[bU]
@[simp] def cK (k:List CV->St->Prop)(b:(List CV->St->Prop)->Prop):dL k b=b k:=id rfl
@[simp] def aH (v:CV)(l:List CV):au 0 (v::l)=v:=id rfl
@[simp] def aI (i:Nat)(v:CV)(l:List CV):au (i+1) (v::l)=au i l:=id rfl
@[simp] def dM (C:aW)(g:Nat)(f c args:List CV)(st:St)(k:CV->St->Prop):fG C (.func (.func g) f c) args st k=C g (f++(args++c)) st k:=id rfl
@[simp] def aJ (c:Bool)(a b:CV)(st:St):bf (.bool c) a b st=if c=true then .ok a st else .ok b st:=by cases c<;>rfl
@[simp] def WY (c:Prop)[Decidable c](a b:OR)(k:CV->Prop):us (if c then a else b) k=if c then us a k else us b k:=by split<;>rfl
@[simp] def abI (c:Prop)[Decidable c](a b:OR)(k:CV->St->Prop):upon (if c then a else b) k=if c then upon a k else upon b k:=by split<;>rfl
@[simp] def ay (op:BinOp)(d:Option jX)(c:Bool)(k j:IntKind)(a b:Int)(st:St):ai op d c (.int k a) (.int j b) st=jK op k a j b st:=id rfl
@[simp] def cI (k:IntKind)(a b:Int)(st:St):jK .add k a k b st=.ok (.int k (k.wrap (a+b))) st:=WI
@[simp] def dX (k:IntKind)(a b:Int)(st:St):jK .sub k a k b st=.ok (.int k (k.wrap (a-b))) st:=WI
@[simp] def kg (k:IntKind)(a b:Int)(st:St):jK .mul k a k b st=.ok (.int k (k.wrap (a*b))) st:=WI
@[simp] def OH (k:IntKind)(a b:Int)(st:St):jK .quo k a k b st=if b=0 then .bad else .ok (.int k (k.wrap (Int.tdiv a b))) st:=WI
@[simp] def OG (k:IntKind)(a b:Int)(st:St):jK .rem k a k b st=if b=0 then .bad else .ok (.int k (Int.tmod a b)) st:=WI
@[simp] def cz (k:IntKind)(a b:Int)(st:St):jK .eql k a k b st=.ok (.bool (decide (a=b))) st:=WI
@[simp] def fq (k:IntKind)(a b:Int)(st:St):jK .neq k a k b st=.ok (.bool (!decide (a=b))) st:=WI
@[simp] def cY (k:IntKind)(a b:Int)(st:St):jK .lss k a k b st=.ok (.bool (decide (a<b))) st:=WI
@[simp] def pF (k:IntKind)(a b:Int)(st:St):jK .leq k a k b st=.ok (.bool (decide (a<=b))) st:=WI
@[simp] def dx (k:IntKind)(a b:Int)(st:St):jK .gtr k a k b st=.ok (.bool (decide (b<a))) st:=WI
@[simp] def zw (k:IntKind)(a b:Int)(st:St):jK .geq k a k b st=.ok (.bool (decide (b<=a))) st:=WI
@[simp] def dY (op:BinOp)(d:Option jX)(c:Bool)(a b:List UInt8)(st:St):ai op d c (.str a) (.str b) st=rK op a b st:=id rfl
def bB {x:Int}(h: -9223372036854775808<=x/\x<=9223372036854775807):IntKind.i64.wrap x=x:=IntWalk.i64_in _ h
@[simp] def c8 (c:Bool)(b o:Nat)(st:St):ai .eql (some .ptr) c (.ptr b o) .bk st=.ok (.bool false) st:=id rfl
@[simp] def Rv (c:Bool)(b o:Nat)(st:St):ai .neq (some .ptr) c (.ptr b o) .bk st=.ok (.bool true) st:=id rfl
@[simp] def UP (c:Bool)(st:St):ai .eql (some .slice) c .ae .ae st=.ok (.bool true) st:=id rfl
@[simp] def cN (b:Bool)(st:St):kF .not (.bool b) st=.ok (.bool (!b)) st:=id rfl
def okO (o:Option Bool)(st:St):OR:=match o with|some b=>.ok (.bool b) st|none=>.bad
@[simp] def acA (b:Bool)(st:St):okO (some b) st=.ok (.bool b) st:=id rfl
def vK (d:jX)(c:Bool)(s t:List CV)(st:St):ai .eql (some d) c (.agg s) (.agg t) st=okO (nb d (.agg s) (.agg t)) st:=by
 simp only[ai,pEq,ME];cases nb d (.agg s) (.agg t)<;>rfl
def Du (d:jX)(c:Bool)(s t:List CV)(st:St):ai .neq (some d) c (.agg s) (.agg t) st=okO ((nb d (.agg s) (.agg t)).map (!·)) st:=by
 simp only[ai,pEq,ME];cases nb d (.agg s) (.agg t)<;>rfl
@[simp] def aD (a:CV)(l:List CV)(st:St):av (.tuple (a::l)) 0 st=.ok a st:=id rfl
@[simp] def aG (a:CV)(l:List CV)(i:Nat)(st:St):av (.tuple (a::l)) (i+1) st=av (.tuple l) i st:=id rfl
@[simp] def nQ (b o l c g:Nat)(st:St):bj .slice (.slice b o l c g) st=.ok (.int .i64 l) st:=id rfl
@[simp] def vF (st:St):bj .slice .ae st=.ok (.int .i64 0) st:=id rfl
@[simp] def fp (l:List UInt8)(st:St):bj .str (.str l) st=.ok (.int .i64 l.length) st:=id rfl
@[simp] def mB (fn:Fn)(f c:List CV)(st:St):qU fn f c st=.ok (.func fn f c) st:=id rfl
def MV (o:Option qN)(k:List CV->Prop):Prop:=match o with|some (.cells l _ _)=>k l|some (.ro l _)=>k l|_=>False
def onT (o:Option qN)(k:List CV->TypeId->Bool->Prop):Prop:=match o with|some (.cells l t g)=>k l t g|_=>False
def UU (o:Option CV)(k:CV->Prop):Prop:=match o with|some v=>k v|none=>False
def onL (o:Option (List CV))(k:List CV->Prop):Prop:=match o with|some v=>k v|none=>False
@[simp] def ar (l:List CV)(t:TypeId)(g:Bool)(k:List CV->Prop):MV (some (.cells l t g)) k=k l:=id rfl
@[simp] def uC (l:List CV)(o:Obj)(k:List CV->Prop):MV (some (.ro l o)) k=k l:=id rfl
@[simp] def aS (l:List CV)(t:TypeId)(g:Bool)(k:List CV->TypeId->Bool->Prop):onT (some (.cells l t g)) k=k l t g:=id rfl
@[simp] def az (v:CV)(k:CV->Prop):UU (some v) k=k v:=id rfl
@[simp] def FF (v:List CV)(k:List CV->Prop):onL (some v) k=k v:=id rfl
@[simp] def aC (b off:Nat)(st:St)(k:CV->Prop):us (aB (.ptr b off) st) k=MV (st.m.g b) λl=>UU l[off]? k:=by
  simp only[aB];cases st.m.g b with
  |none=>rfl
  |some blk=>cases blk<;>first|rfl|(rename_i l t g;simp only[MV];cases l[off]?<;>rfl)|(rename_i l _;simp only[MV];cases l[off]?<;>rfl)
@[simp] def nJ (n b off:Nat)(st:St)(k:CV->Prop):us (aK n (.ptr b off) st) k=MV (st.m.g b) λl=>onL (ia l off n) λs=>k (.agg s):=by
  simp only[aK];cases st.m.g b with
  |none=>rfl
  |some blk=>cases blk<;>first|rfl|(rename_i l t g;simp only[MV];cases ia l off n<;>rfl)|(rename_i l _;simp only[MV];cases ia l off n<;>rfl)
@[simp] def br (b o:Nat)(st:St):dC (.ptr b o) st=.ok (.ptr b o) st:=id rfl
@[simp] def ah (off b o:Nat)(st:St):an off (.ptr b o) st=.ok (.ptr b (o+off)) st:=id rfl
@[simp] def iL (k:IntKind)(n:Int):CV.cA (.int k n)=[.int k n]:=id rfl
@[simp] def aam (b:Bool):CV.cA (.bool b)=[.bool b]:=id rfl
@[simp] def Xg (b o l c g:Nat):CV.cA (.slice b o l c g)=[.slice b o l c g]:=id rfl
@[simp] def Rt:CV.cA .ae=[.ae]:=id rfl
@[simp] def EW (b o:Nat):CV.cA (.ptr b o)=[.ptr b o]:=id rfl
@[simp] def acj (b:Nat):CV.cA (.map b)=[.map b]:=id rfl
@[simp] def yX (l:List UInt8):CV.cA (.str l)=[.str l]:=id rfl
@[simp] def aV (l:List CV):CV.cA (.agg l)=l:=id rfl
@[simp] def aaB (k:IntKind)(n:Int):CV.isAny (.int k n)=false:=id rfl
@[simp] def XU (b:Bool):CV.isAny (.bool b)=false:=id rfl
@[simp] def Va (b o l c g:Nat):CV.isAny (.slice b o l c g)=false:=id rfl
@[simp] def aaz (b o:Nat):CV.isAny (.ptr b o)=false:=id rfl
@[simp] def aaA (b:Nat):CV.isAny (.map b)=false:=id rfl
@[simp] def aay (l:List UInt8):CV.isAny (.str l)=false:=id rfl
@[simp] def aaC (l:List CV):CV.isAny (.agg l)=false:=id rfl
@[simp] def SP:aU []=true:=id rfl
@[simp] def ub (v:CV)(l:List CV):aU (v::l)=(ck v&&aU l):=id rfl
@[simp] def qV (l m:List CV):aU (l++m)=(aU l&&aU m):=by simp[aU]
@[simp] def rQ (l:List UInt8):aU (l.map bP)=true:=by
  simp only[aU,aFu,aDR];rintro x ⟨b,_,rfl⟩;rfl
@[simp] def UT (k:IntKind)(n:Int):ck (.int k n)=true:=id rfl
@[simp] def SQ (b:Bool):ck (.bool b)=true:=id rfl
@[simp] def LN:ck .ae=true:=id rfl
@[simp] def US (b:Nat):ck (.map b)=true:=id rfl
def bo (l:List CV)(off:Nat)(t:List CV):List CV:=l.take off++(t++l.drop (off+t.length))
@[simp] def aF (n b off:Nat)(x:CV)(st:St)(k:CV->St->Prop):upon (aQ n (.ptr b off) x st) k=
 onT (st.m.g b) λl t g=>(x.cA.length=n/\aU x.cA=true/\off+n<=l.length)/\k .undef (St.set st b (.cells (bo l off x.cA) t g)):=by
  simp only[aQ];cases st.m.g b with
  |none=>rfl
  |some blk=>
   cases blk with
   |cells l t g=>
    simp only[onT,aO,aDK,aDZ]
    by_cases h:x.cA.length=n/\aU x.cA=true
    .rw[aDy h];obtain⟨rfl,h2⟩:=h;unfold dU
     by_cases h3:off+x.cA.length<=l.length
     .rw[aDy h3];simp only[upon,bo,h2,h3,aFw]
      rfl
     .rw[aDv h3];simp[upon,h3]
    .rw[aDv h];simp only[upon,eq_iff_iff,false_iff];rintro⟨⟨h1,h2,_⟩,_⟩;exact h ⟨h1,h2⟩
   |map es c=>rfl
   |lmap es=>rfl
   |ro l o=>rfl
@[simp] def rG (st:St)(b:Nat)(blk:qN):(St.set st b blk).nx=st.nx:=id rfl
def JK (st:St)(b q:Nat)(blk:qN):(St.set st b blk).m.g q=if q=b then some blk else st.m.g q:=rfl
@[simp] def aq (st:St)(b:Nat)(blk:qN):(St.set st b blk).m.g b=some blk:=by simp[JK]
def al (st:St)(b q:Nat)(blk:qN)(h:q≠b):(St.set st b blk).m.g q=st.m.g q:=by simp[JK,h]
@[simp] def vQ (st:St)(blk:qN):(St.new st blk).nx=st.nx+1:=id rfl
def DA (st:St)(q:Nat)(blk:qN):(St.new st blk).m.g q=if q=st.nx then some blk else st.m.g q:=rfl
@[simp] def aw (st:St)(blk:qN):(St.new st blk).m.g st.nx=some blk:=by simp[DA]
def ba (st:St)(q:Nat)(blk:qN)(h:q<st.nx):(St.new st blk).m.g q=st.m.g q:=by simp[DA,Nat.ne_of_lt h]
@[simp] def Lh (st:St):(St.skip st).nx=st.nx+1:=id rfl
@[simp] def ET (st:St):(St.skip st).m=st.m:=id rfl
@[simp] def cE (t:TypeId)(z:List CV)(st:St):dG t z st=.ok (.ptr st.nx 0) (St.new st (.cells z t false)):=id rfl
@[simp] def ju (st:St):jv none st=.ok (.map st.nx) (St.new st (.map [] 0)):=id rfl
@[simp] def bW (t:TypeId)(x:CV)(st:St)(k:CV->St->Prop):upon (gJ t x st) k=(x.isAny=false/\k (.ptr st.nx 0) (St.new st (.cells x.cA t false))):=by
  unfold gJ;cases h:x.isAny<;>simp
@[simp] def SR (c:Prop)[Decidable c](x:List CV)(k:List CV->Prop):onL (if c then some x else none) k=(c/\k x):=by
  by_cases h:c<;>simp[h,onL]
@[simp] def rR (l:List CV)(off n:Nat)(k:List CV->Prop):onL (ia l off n) k=(off+n<=l.length/\k ((l.drop off).take n)):=by
  unfold ia;exact SR _ _ _
@[simp] def set_set (st:St)(b:Nat)(x y:qN):St.set (St.set st b x) b y=St.set st b y:=by
  simp only[St.set,St.mk.injEq,and_true];exact PT.ext λp=>by simp only[PT.eO];split<;>rfl
@[simp] def mC (l:List CV)(off:Nat)(t:List CV)(h:off+t.length<=l.length):(bo l off t).length=l.length:=by
  simp[bo];omega
def dw (z:List CV)(parts:List tU)(st:St):bu z parts st=match gf parts z with|some s=>.ok (.agg s) st|none=>.bad:=by
 unfold bu;cases gf parts z<;>rfl
def cq (off size:Nat)(x:CV)(l:List tU)(s:List CV):gf ((off,size,x)::l) s=if (x.cA.length=size/\x.isAny=false)/\off+x.cA.length<=s.length then gf l (bo s off x.cA)else none:=by
 have e:gf ((off,size,x)::l) s=bz (Nat.beq x.cA.length size&& !x.isAny) (Option.rec none (λs'=>gf l s') (dU s off x.cA)) none:=rfl;rw[e];simp only[aO,aDK,aDZ,aGc]
 by_cases h:x.cA.length=size/\x.isAny=false
 .simp only[h,and_self,aDQ,aFw];unfold dU bo
  by_cases h2:off+x.cA.length<=s.length
  .rw[aDy h2,aDy (by rw[<-h.1];exact h2)]
  .rw[aDv h2,aDv (by rw[<-h.1];exact h2)]
 .rw[aDv h,aDv (λh2=>h h2.1)]
@[simp] def kY (s:List CV):gf [] s=some s:=id rfl
def eM (st:St):Prop:=∀b,st.nx<=b->st.m.g b=none
def eM.new (h:eM st)(blk:qN):eM (St.new st blk):=λb hb=>by
 simp only[vQ]at hb;rw[DA,aDv pX];exact h b pX
def eM.skip (h:eM st):eM (St.skip st):=λb hb=>h b (by simp only[Lh]at hb;omega)
def eM.set (h:eM st)(hp:p<st.nx)(blk:qN):eM (St.set st p blk):=λb hb=>by
 simp only[rG]at hb;rw[al _ _ _ _ pX];exact h b hb
structure Kp (F:List Nat)(st st':St):Prop where
 nx:st.nx<=st'.nx
 keep:∀b,(_:b<st.nx:=by omega)->(_:b∉F:=by simp)->st'.m.g b=st.m.g b
 fresh:eM st->eM st'
def Kp.refl (F:List Nat)(st:St):Kp F st st:=⟨aDt _,λ_ _ _=>rfl,id⟩
def Kp.trans {b c:St}(h:Kp F a b)(k:Kp G b c)(hg:∀q∈G,q∈F\/a.nx<=q:=by simp):Kp F a c:=
 ⟨aEB h.nx k.nx,λq h1 h2=>by rw[k.keep q (aDM h1 h.nx) (λh3=>by rcases hg q h3 with h4|h4;exact h2 h4;omega),h.keep q h1 h2],λhf=>k.fresh (h.fresh hf)⟩
def Kp.new {b:St}(h:Kp F a b)(blk:qN):Kp F a (St.new b blk):=
 ⟨by have:=h.nx;simp;omega,λq h1 h2=>by rw[ba _ _ _ (aDM h1 h.nx),h.keep q h1 h2],λhf=>(h.fresh hf).new _⟩
def Kp.skip {b:St}(h:Kp F a b):Kp F a (St.skip b):=⟨by have:=h.nx;simp;omega,λq h1 h2=>h.keep q h1 h2,λhf=>(h.fresh hf).skip⟩
def Kp.set {b:St}(h:Kp F a b)(blk:qN)(hp:p∈F\/a.nx<=p)(hl:p<b.nx):Kp F a (St.set b p blk):=
 ⟨h.nx,λq h1 h2=>by rw[al _ _ _ _ (λe=>by subst e;rcases hp with h3|h3;exact h2 h3;omega),h.keep q h1 h2],λhf=>(h.fresh hf).set hl _⟩
def Kp.mono {b:St}(h:Kp F a b)(hs:∀q∈F,q∈G\/a.nx<=q):Kp G a b:=
 ⟨h.nx,λq h1 h2=>h.keep q h1 λh3=>by rcases hs q h3 with h4|h4;exact h2 h4;omega,h.fresh⟩
def JW {s s1:St}{b:qN}(h:St.new s b=s1):Kp [] s s1/\s1.m.g s.nx=some b/\s1.nx=s.nx+1:=by
 subst h;exact⟨(Kp.refl [] s).new _,aw _ _,rfl⟩
def jw {b e:Nat}{parts:List tU}(h:st.m.g b=none)(hs:gf parts z=some s):fT b e n z parts st=.ok (.slice b 0 n n 0) (St.set st b (.cells s e false)):=by
 unfold fT;rw[h,hs];rfl
def Fx {k b:Nat}{e:TypeId}{g:Bool}(h:st.m.g b=some (.cells s e g))(hn:0<n)(hs:s.length=n*k):cW .slice k z (.slice b 0 n n 0) st=some (n,s):=by
 have e0:cW .slice k z (.slice b 0 n n 0) st=(match dD k n (.slice b 0 n n 0) st with|some s=>some (n,s)|none=>none):=rfl
 have e1:dD k n (.slice b 0 n n 0) st=some s:=by
  have e2:dD k n (.slice b 0 n n 0) st=bz (Nat.beq n 0) (some []) (bz (Bool.or (Nat.beq 0 0) (Nat.ble n n)) (match st.m.g b with|some (.cells s _ _)=>ia s 0 (n*k)|some (.ro s _)=>ia s 0 (n*k)|_=>none) none):=rfl;have e3:Nat.beq n 0=false:=by cases h:Nat.beq n 0 with|false=>rfl|true=>rw[aDZ]at h;omega
  rw[e2,e3,h];simp only[aO,aDp,aDE];rw[aDy rq];unfold ia;rw[aDy pX,aDX,aDA pX]
 rw[e0,e1]
end
