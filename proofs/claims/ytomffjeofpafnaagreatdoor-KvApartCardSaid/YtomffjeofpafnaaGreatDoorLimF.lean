import Derived.Test.YtomffjeofpafnaaGreatDoorLimE
namespace Lim
open Go
noncomputable section
set_option linter.defProp false
section
variable {y:OR}{op:BinOp}{k:IntKind}{a:Int}
def Cf.bare:Cf->Bool
 | .WE _| .pick .. | .nil _| .un .. | .Jc .. | .iface .. | .func .. | .nT .. | .qJ .. | .slice3 .. | .nV .. | .fieldAddr .. | .field .. =>true
 | .vE .. | .AB .. | .vD .. | .vF .. | .extract .. | .sK .. | .bin .. | .build .. =>true
 | .conv c _=>(match c with| .toInt _| .same=>true|_=>false)
 | .len k _=>(match k with| .map=>false|_=>true)
 |_=>false
structure cr (x y:OR):Prop where
 eq:∀v s,x=.ok v s->∃s',y=.ok v s'
section
variable {st st':St}
def cr.bad :cr .bad y:=⟨λ_ _ h=>by cases h⟩
def cr.ok (v:CV):cr (.ok v st) (.ok v st'):=⟨λ_ _ h=>by cases h;exact⟨_,rfl⟩⟩
def cr.bH {b:Bool}{x x' y':OR}(hx:cr x x')(hy:cr y y'):cr (bH b x y) (bH b x' y'):=by cases b;exact hy;exact hx
def cr.opt {α:Type}{x:Option α}{n n':OR}{f f':α->OR}(hn:cr n n')(h:∀v,cr (f v) (f' v)):cr (Option.rec (motive:=λ_=>OR) n f x) (Option.rec (motive:=λ_=>OR) n' f' x):=by cases x;exact hn;exact h _
def cr.Zi {b:Int}:cr (lP op k a b st) (lP op k a b st'):=by
 cases op<;>simp only[lP]<;>first|exact cr.ok _|exact cr.bad|(split<;>first|exact cr.ok _|exact cr.bad)
def cr.int {j:IntKind}{b:Int}:cr (jX op k a j b st) (jX op k a j b st'):=by
 cases op<;>simp only[jX]<;>split<;>first|exact cr.ok _|exact cr.bad|exact cr.Zi
def cr.str {a b:List UInt8}:cr (sF op a b st) (sF op a b st'):=by
 cases op<;>simp only[sF]<;>first|exact cr.ok _|exact cr.bad|(split<;>first|exact cr.ok _|exact cr.bad)
def cr.bin {d:Option kj}{Bt:Bool}{x y:CV}:cr (ai op d Bt x y st) (ai op d Bt x y st'):=by
 unfold ai
 split<;>first
  |exact cr.int
  |exact cr.str
  |exact cr.bad
  |(unfold wm;split<;>first|exact cr.bad|exact cr.bH cr.bad (cr.ok _))
  |(split
    .unfold pEq;split<;>first|exact cr.ok _|exact cr.bad
    .exact cr.bad)
end
def Ji {call:gq}{op:Cf}{fr:Fr}{st st':St}(h:op.bare=true):cr (df call op fr st) (df call op fr st'):=by
 cases op with
 |WE x=>exact cr.ok _
 |pick c a b=>simp only[df];unfold aX;split<;>first|exact cr.bH (cr.ok _) (cr.ok _)|exact cr.bad
 |nil x=>simp only[df];unfold dP;split<;>first|exact cr.ok _|exact cr.bad
 |bin op d Bt x y=>exact cr.bin
 |un op x=>simp only[df];unfold kY;split<;>first|exact cr.ok _|exact cr.bad|(split<;>first|exact cr.ok _|exact cr.bad)
 |conv c x=>cases c<;>first|(cases h;done)|(simp only[df];cases ev fr x<;>first|exact cr.ok _|exact cr.bad)
 |Jc n x=>simp only[df];unfold oZ;split<;>first|exact cr.bH (cr.ok _) cr.bad|exact cr.bad
 |iface t x=>exact cr.ok _
 |func fn f c=>exact cr.ok _
 |nT x lo hi=>simp only[df];unfold ix;split<;>first|exact cr.bad|(split<;>first|exact cr.ok _|exact cr.bad)
 |qJ size x lo hi=>
  simp only[df];unfold aQ;split
  .split<;>first|exact cr.ok _|exact cr.bad
  .refine cr.bH ?_ cr.bad
   split
   .exact cr.bH (cr.ok _) (cr.bH (cr.ok _) cr.bad)
   .exact cr.bad
  .exact cr.bad
 |slice3 size x lo hi mx=>
  simp only[df];unfold iU;split
  .split
   .split
    .exact cr.bH (cr.bH (cr.ok _) (cr.ok _)) cr.bad
    .exact cr.bad
   .exact cr.bad
  .split
   .split<;>first|exact cr.ok _|exact cr.bad
   .exact cr.bad
  .exact cr.bad
 |nV n size x lo hi=>simp only[df];unfold bY;split<;>first|exact cr.bad|(split<;>first|exact cr.bad|exact cr.bH (cr.ok _) (cr.ok _))
 |fieldAddr off x=>simp only[df];unfold an;split<;>first|exact cr.ok _|exact cr.bad
 |field agg off size x=>simp only[df];unfold Ai;split<;>first|exact cr.opt cr.bad (λ_=>cr.ok _)|exact cr.bad
 |vE n size x i=>simp only[df];unfold fV;split<;>first|exact cr.bH (cr.ok _) cr.bad|exact cr.bad
 |AB size x i=>simp only[df];unfold cc;split<;>first|exact cr.bH (cr.ok _) cr.bad|exact cr.bad
 |vD x i=>simp only[df];unfold ph;split<;>first|exact cr.bad|(split<;>first|exact cr.ok _|exact cr.bad)
 |vF n size agg x i=>simp only[df];unfold wj;split<;>first|exact cr.bH (cr.opt cr.bad (λ_=>cr.ok _)) cr.bad|exact cr.bad
 |extract x i=>simp only[df];unfold av;split<;>first|exact cr.opt cr.bad (λ_=>cr.ok _)|exact cr.bad
 |len k x=>cases k<;>first|(cases h;done)|(simp only[df];unfold bo;cases ev fr x<;>first|exact cr.ok _|exact cr.bad|exact cr.bH (cr.ok _) (cr.ok _))
 |sK mx x y=>simp only[df];unfold Cz;split<;>first|exact cr.bH (cr.ok _) cr.bad|exact cr.bad
 |build z parts=>simp only[df];unfold bk;exact cr.opt cr.bad (λ_=>cr.ok _)
 |_=>cases h
abbrev aY:=Nat->List CV->St->(CV->St->Prop)->Prop
def upon (r:OR)(k:CV->St->Prop):Prop:=match r with| .ok v st=>k v st| .bad=>False
def us (r:OR)(k:CV->Prop):Prop:=match r with| .ok v _=>k v| .bad=>False
def aZ (g:Option Bool)(st:St)(r:OR):OR:=match g with|some true=>r|some false=>.ok .undef st|none=>.bad
def gdW (g:Option Bool)(st:St)(yes:Prop)(k:CV->St->Prop):Prop:=match g with|some true=>yes|some false=>k .undef st|none=>False
def ak (b:Bool)(v:CV):Option Bool:=match v with| .bool c=>some (bH b c (Bool.not c))| .undef=>some false|_=>none
def fF (C:aY)(f:CV)(args:List CV)(st:St)(k:CV->St->Prop):Prop:=match f with| .func (.func g) first captured=>C g (first++(args++captured)) st k|_=>False
def aD (v:CV)(x y:Prop):Prop:=match v with| .bool true=>x| .bool false=>y|_=>False
def oe:gq:=λ_ _ _=>.bad
def mu (ops:Array Oper)(fr:Fr)(gb:Nat×Bool):Option Bool:=
 match (ops[gb.1]?).bind (·.dst)with|none=>some false|some d=>ak gb.2 (fK fr d)
def opW (C:aY)(g:Option Bool)(op:Cf)(fr:Fr)(st:St)(k:CV->St->Prop):Prop:=
 match op with
 | .call f args=>gdW g st (C f (LX fr args) st k) k
 | .Dh f args=>gdW g st (fF C (ev fr f) (LX fr args) st k) k
 |op=>bif op.still then us (aZ g st (df oe op fr st)) (λv=>k v st)else upon (aZ g st (df oe op fr st)) k
def YO (C:aY)(op:Cf)(fr:Fr)(st:St)(k:CV->St->Prop):Prop:=
 match op with
 | .call f args=>C f (LX fr args) st k
 | .Dh f args=>fF C (ev fr f) (LX fr args) st k
 |op=>bif op.still then us (df oe op fr st) (λv=>k v st)else upon (df oe op fr st) k
def KE (P:Program)(C:aY)(ops:Array Oper)(o:Oper)(fr:Fr)(st:St)(k:CV->St->Prop):Prop:=
 match mj P o.op with
 |none=>False
 |some op=>match o.guard with
  |none=>YO C op fr st k
  |some gb=>opW C (mu ops fr gb) op fr st k
def YH (n:Nat)(dst:Option Tmp)(v:CV)(fr:Fr)(k:Fr->Prop):Prop:=match dst with|none=>k fr|some d=>bif Nat.ble (d+1) n then k (fr.put d (some v))else False
def UA (P:Program)(C:aY)(n:Nat)(ops:Array Oper):List Oper->Fr->St->(Fr->St->Prop)->Prop
 |[],fr,st,k=>k fr st
 |o::l,fr,st,k=>KE P C ops o fr st λv st=>YH n o.dst v fr λfr=>UA P C n ops l fr st k
def xy (P:Program)(C:aY)(ops:Array Oper)(ab:Option Nat)(o:Oper)(fr:Fr)(st:St)(k:CV->St->Prop):Prop:=
 match og P o,ab with
 |none,none=>KE P C ops o fr st k
 |some tz,some b=>upon (match o.guard with|none=>jq b tz.2 tz.1 st|some gb=>aZ (mu ops fr gb) st (jq b tz.2 tz.1 st)) k
 |none,some b=>(match lb P o with
  |some x=>upon (match o.guard with
   |none=>fG b x.1 x.2.1 (cM x.2.1 x.2.2.1) (NK fr x.2.2.2) st
   |some gb=>aZ (mu ops fr gb) st (fG b x.1 x.2.1 (cM x.2.1 x.2.2.1) (NK fr x.2.2.2) st)) k
  |none=>False)
 |_,_=>False
def DA (P:Program)(C:aY)(n:Nat)(ops:Array Oper):List (Oper×Option Nat)->Nat->Nat->Fr->St->(List TR->List St->Fr->St->Prop)->Prop
 |[],_,_,fr,st,k=>k [] [] fr st
 |o::l,i,c,fr,st,k=>xy P C ops o.2 o.1 fr st λv st'=>YH n o.1.dst v fr λfr'=>bif mN P o.1
   then DA P C n ops l (i+1) (c+1) fr' st' (λfe ch=>k (⟨i,o.2,o.1,true,c,fr,v,st,st'⟩::fe) (st::ch))
   else DA P C n ops l (i+1) c fr' st' (λfe ch=>k (⟨i,o.2,o.1,false,c,fr,v,st,st'⟩::fe) ch)
def cj (b:Bool)(p q:Prop):Prop:=match b with|true=>q|false=>p/\q
abbrev Yg:=Nat×Nat×Oper
def Cc (P:Program):List Oper->Nat->Nat->List Yg
 |[],_,_=>[]
 |o::l,i,c=>(i,c,o)::Cc P l (i+1) (bif mN P o then c+1 else c)
def HR (P:Program)(o:Oper):Bool:=match og P o with|some _=>false|none=>match mj P o.op with|some op=>op.bare|none=>false
def noB (P:Program)(a:List Yg):Bool:=Cd a λu=>Bool.not (qj P u.2.2)
def KH (P:Program)(ops:Array Oper)(a:List Yg)(i c:Nat)(c':Nat):Bool:=
 Bool.or (Bool.and (noB P a) (Nat.beq c' c)) (Bool.or (E5 a λu=>Bool.and (mN P u.2.2) (Bool.and (Nat.ble (Nat.succ u.2.1) c') (fT ops ops.size u.1 i)))
  (E5 a λu=>Bool.and (mN P u.2.2) (Bool.and (Nat.ble c' u.2.1) (fT ops ops.size i u.1))))
def reW (P:Program)(ops:Array Oper)(t:TR)(s:St):Prop:=xy P (λ_ _ _ _=>False) ops t.ab t.o t.fr s λv _=>v=t.v
def UN (P:Program)(ops:Array Oper)(a:List Yg)(t:TR):Nat->List St->Prop
 |_,[]=>True
 |c',s::r=>cj (KH P ops a t.i t.c c') (reW P ops t s) (UN P ops a t (c'+1) r)
def Qn (P:Program)(ops:Array Oper)(a:List Yg)(chain:List St):List TR->Prop
 |[]=>True
 |t::r=>(match Bool.or (qj P t.o) (Bool.or (mN P t.o) (HR P t.o))with|true=>Qn P ops a chain r|false=>UN P ops a t 0 chain/\Qn P ops a chain r)
def KV (P:Program)(ops:Array Oper)(b:Nat)(j:Nat):List TR->List St->Prop
 |[],_=>True
 |u::r,chain=>cj (Bool.or (Bool.not (mN P u.o)) (Bool.or (fT ops ops.size u.i j) (fT ops ops.size j u.i)))
   (match Nat.ble (u.i+1) j with|true=>u.s.m.g b=none|false=>u.s1.m.g b=u.s.m.g b) (KV P ops b j r chain)
def Qp (P:Program)(ops:Array Oper)(all:List TR)(chain:List St):List TR->Prop
 |[]=>True
 |t::r=>(match qj P t.o with|false=>Qp P ops all chain r|true=>(match t.ab with|some b=>KV P ops b t.i all chain|none=>True)/\Qp P ops all chain r)
def Sq (P:Program)(C:aY)(n:Nat)(ops:Array Oper)(fr:Fr)(st:St)(k:Fr->St->Prop):Prop:=
 Pt P ops=true/\Jo P ops.toList st λas gD=>DA P C n ops (ops.toList.zip as) 0 0 fr gD λfe ch fr' st'=>
  Qn P ops (Cc P ops.toList 0 0) (ch++[st']) fe/\Qp P ops fe (ch++[st']) fe/\k fr' st'
def dK (k:List CV->St->Prop)(body:(List CV->St->Prop)->Prop):Prop:=body k
def GD (body:List CV->St->(List CV->St->Prop)->Prop):Nat->List CV->St->Prop
 |0,_,_=>False
 |m+1,vs,st=>body vs st (GD body m)
def cZ (body:List CV->St->(List CV->St->Prop)->Prop)(vs:List CV)(st:St):Prop:=∃m,GD body m vs st
def Kk (fr:Fr)(c:Operand)(x y:Prop):Prop:=match fj c with|some c=>aD (ev fr c) x y|none=>False
def ji (P:Program)(C:aY)(lv:Nat->Option (List Nat))(n:Nat):Code->Fr->St->(Fr->St->Prop)->(Nat->Fr->St->Prop)->(Fr->St->Prop)->Prop
 | .skip,fr,st,kn,_,_=>kn fr st
 | .region _ ops draw,fr,st,kn,_,_=>bif draw then Sq P C n ops fr st kn else UA P C n ops ops.toList fr st kn
 | .seq x y,fr,st,kn,ke,kr=>(match lv (IA y)with
   |none=>ji P C lv n x fr st (λfr st=>ji P C lv n y fr st kn ke kr) ke kr
   |some L=>dK (λvs st=>ji P C lv n y (KY L vs) st kn ke kr) λk=>ji P C lv n x fr st (λfr st=>k (L.map (fK fr)) st) ke kr)
 | .cond c x y,fr,st,kn,ke,kr=>Kk fr c (ji P C lv n x fr st kn ke kr) (ji P C lv n y fr st kn ke kr)
 | .block id x,fr,st,kn,ke,kr=>ji P C lv n x fr st kn (λi fr st=>bif Nat.beq i id then kn fr st else ke i fr st) kr
 | .loop x,fr,st,_,ke,kr=>(match lv (IA x)with
   |none=>False
   |some L=>cZ (λvs st next=>ji P C lv n x (KY L vs) st (λfr st=>next (L.map (fK fr)) st) ke kr) (L.map (fK fr)) st)
 | .exit id,fr,st,_,ke,_=>ke id fr st
 | .scope x,fr,st,kn,ke,kr=>ji P C lv n x fr st kn ke kr
 | .label _,fr,st,kn,_,_=>kn fr st
 | .ret,fr,st,_,_,kr=>kr fr st
 |_,_,_,_,_,_=>False
def zV (P:Program)(fr:Fr)(st:St):List ResultVar->(List CV->Prop)->Prop
 |[],k=>k []
 | .tmp t::l,k=>zV P fr st l λvs=>k (fK fr t::vs)
 | .cell a t::l,k=>(match P.underlying t,P.info? t with
   |some u,some i=>us (bif iF u then aI i.size (fK fr a) st else aC (fK fr a) st) λv=>zV P fr st l λvs=>k (v::vs)
   |_,_=>False)
def Ur (P:Program)(fr:Fr)(st:St)(l:List ResultVar)(Q:CV->St->Prop):Prop:=
 zV P fr st l λvs=>match vs with|[]=>Q .undef st|[v]=>Q v st|v::u::vs=>Q (.tuple (v::u::vs)) st
def aO (P:Program)(C:aY)(lv:Nat->Option (List Nat))(f:Nat)(args:List CV)(st:St)(Q:CV->St->Prop):Prop:=
 match ia P f,P.funcs[f]? with
 |true,some fn=>(match fn.body with
  |some c=>ji P C lv fn.ntmps c (rk args) st (λfr st=>Ur P fr st fn.results.toList Q) (λ_ _ _=>False) (λfr st=>Ur P fr st fn.results.toList Q)
  |none=>False)
 |_,_=>False
abbrev zr (n:Nat):List CV:=List.replicate n (.int .u8 0)
def au:Nat->List CV->CV
 |0,vs=>vs.headD .any
 |i+1,vs=>au i (vs.drop 1)
def gK (t:TypeId)(x:CV)(st:St):OR:=bH x.isAny .bad (du t x.cN st)
def St.skip (st:St):St:=⟨st.m,st.nx+1⟩
def fD (g:Option Bool)(st:St)(y:(CV->St->Prop)->Prop)(k:CV->St->Prop):Prop:=gdW g st (y k) k
def bX (p:Prop):Prop:=(true=true)/\p
def fB (off:Nat)(p:CV)(st:St)(k:CV->Prop):Prop:=us (dP p st) λp=>us (an off p st) λa=>us (aC a st) k
def sY (o1 o2:Nat)(p:CV)(st:St)(k:CV->Prop):Prop:=us (dP p st) λp=>us (an o1 p st) λa=>us (an o2 a st) λa=>us (aC a st) k
def j7 (g:Option Bool)(off:Nat)(p:CV)(st:St)(k:CV->Prop):Prop:=us (aZ g st (dP p st)) λp=>us (aZ g st (an off p st)) λa=>us (aZ g st (aC a st)) k
def AV (n off:Nat)(p:CV)(st:St)(k:CV->Prop):Prop:=us (dP p st) λp=>us (an off p st) λa=>us (aI n a st) k
def oK (n off:Nat)(p x:CV)(st:St)(k:St->Prop):Prop:=us (dP p st) λp=>us (an off p st) λa=>upon (aR n a x st) λ_ s=>k s
def Bx (n o1 o2:Nat)(p x:CV)(st:St)(k:St->Prop):Prop:=us (dP p st) λp=>us (an o1 p st) λa=>us (an o2 a st) λa=>upon (aR n a x st) λ_ s=>k s
def fl (off:Nat)(p:CV)(st:St)(k:CV->Prop):Prop:=us (an off p st) λa=>us (aC a st) k
def gQ (g:Option Bool)(off:Nat)(p:CV)(st:St)(k:CV->Prop):Prop:=us (aZ g st (an off p st)) λa=>us (aZ g st (aC a st)) k
def LW (n off:Nat)(p:CV)(st:St)(k:CV->Prop):Prop:=us (an off p st) λa=>us (aI n a st) k
def fst (n off:Nat)(p x:CV)(st:St)(k:St->Prop):Prop:=us (an off p st) λa=>upon (aR n a x st) λ_ s=>k s
def idx (size:Nat)(x i:CV)(st:St)(k:CV->Prop):Prop:=us (cc size x i st) λa=>us (aC a st) k
def AD (g:Option Bool)(size:Nat)(x i:CV)(st:St)(k:CV->Prop):Prop:=us (aZ g st (cc size x i st)) λa=>us (aZ g st (aC a st)) k
def hO (n size:Nat)(x i:CV)(st:St)(k:CV->Prop):Prop:=us (cc size x i st) λa=>us (aI n a st) k
def Ew (n size:Nat)(x i y:CV)(st:St)(k:St->Prop):Prop:=us (cc size x i st) λa=>upon (aR n a y st) λ_ s=>k s
def yR (size off:Nat)(x i:CV)(st:St)(k:CV->Prop):Prop:=us (cc size x i st) λa=>us (an off a st) λa=>us (aC a st) k
def hJ (g:Option Bool)(size off:Nat)(x i:CV)(st:St)(k:CV->Prop):Prop:=us (aZ g st (cc size x i st)) λa=>us (aZ g st (an off a st)) λa=>us (aZ g st (aC a st)) k
def WY (n size off:Nat)(x i:CV)(st:St)(k:CV->Prop):Prop:=us (cc size x i st) λa=>us (an off a st) λa=>us (aI n a st) k
end
section
variable {f:Nat}{st:St}{Q:CV->St->Prop}{r:OR}{k:CV->St->Prop}{F:Nat->OR}{op:Cf}{fr:Fr}{g:Option Bool}{ops:Array Oper}{o:Oper}{call:gq}{n:Nat}{v:CV}{ab:Option Nat}{s1:St}{a:List Yg}{chain:List St}
section
variable (P:Program) (lvs:Nat->Nat->Option (List Nat)) (I:yI)
def RF (n:Nat):gq:=BC P (fI P) lvs I n
def pB (f:Nat)(args:List CV)(st:St)(Q:CV->St->Prop):Prop:=∃v st',(∃N,∀n,N<=n->RF P lvs I n f args st=.ok v st')/\Q v st'
end
def Ih (F:Nat->OR)(k:CV->St->Prop):Prop:=∃v st',(∃N,∀n,N<=n->F n=.ok v st')/\k v st'
section
variable {P:Program} {lvs:Nat->Nat->Option (List Nat)} {I:yI}
def pB.mono {args:List CV}{Q':CV->St->Prop}(h:pB P lvs I f args st Q)(hq:∀v st',Q v st'->Q' v st'):pB P lvs I f args st Q':=by
 obtain⟨v,st',h1,h2⟩:=h;exact⟨v,st',h1,hq _ _ h2⟩
def Ih.const (h:upon r k)(hF:∀n,F n=r):Ih F k:=by
 cases r with
 |ok v st=>exact⟨v,st,⟨0,λn _=>hF n⟩,h⟩
 |bad=>exact h.elim
def Ky (hs:Still st r)(h:us r λv=>k v st):upon r k:=by
 cases r with
 |ok v s=>have:=hs.eq v s rfl;subst this;exact h
 |bad=>exact h
def Dg {f:CV}{args:List CV}(h:fF (pB P lvs I) f args st k):Ih (λn=>xC (RF P lvs I n) f args st) k:=by
 unfold fF at h
 split at h
 .exact h
 .exact h.elim
def qN (call:gq)(op:Cf)(fr:Fr)(st:St)(h1:∀f args,op≠ .call f args)(h2:∀f args,op≠ .Dh f args):df call op fr st=df oe op fr st:=by
 cases op<;>first|rfl|exact absurd rfl (h1 _ _)|exact absurd rfl (h2 _ _)
def UC (h:YO (pB P lvs I) op fr st k):Ih (λn=>df (RF P lvs I n) op fr st) k:=by
 unfold YO at h
 split at h
 .exact h
 .exact Dg h
 .rename_i h1 h2
  have h':upon (df oe op fr st) k:=by
   cases hs:op.still with
   |true=>rw[hs]at h;exact Ky (sE hs) h
   |false=>rw[hs]at h;exact h
  exact Ih.const h' λn=>qN _ _ _ _ (λf a e=>h1 f a e) (λf a e=>h2 f a e)
def Ih.gd {yes:Prop}(h:gdW g st yes k)(hy:yes->Ih F k):Ih (λn=>aZ g st (F n)) k:=by
 cases g with
 |none=>exact h.elim
 |some b=>cases b with
  |true=>exact hy h
  |false=>exact⟨_,_,⟨0,λn _=>rfl⟩,h⟩
def YN (h:opW (pB P lvs I) g op fr st k):Ih (λn=>aZ g st (df (RF P lvs I n) op fr st)) k:=by
 unfold opW at h
 split at h
 .exact Ih.gd h λh=>h
 .exact Ih.gd h λh=>Dg h
 .rename_i h1 h2
  have h':upon (aZ g st (df oe op fr st)) k:=by
   cases hs:op.still with
   |true=>
    rw[hs]at h;refine Ky ?_ h;cases g with
    |none=>exact Still.bad
    |some b=>cases b with
     |true=>exact sE hs
     |false=>exact Still.ok _
   |false=>rw[hs]at h;exact h
  refine Ih.const h' λn=>?_;rw[qN _ _ _ _ (λf a e=>h1 f a e) (λf a e=>h2 f a e)]
def AR {gb:Nat×Bool}(h:o.guard=some gb):fU ops fr o=mu ops fr gb:=by
 unfold fU mu;rw[h];dsimp only;cases (ops[gb.1]?).bind (·.dst)with
 |none=>rfl
 |some d=>dsimp only;cases fK fr d<;>rfl
def Ps (EC:mj P o.op=some op):mE P call ops o fr st=match o.guard with|none=>df call op fr st|some gb=>aZ (mu ops fr gb) st (df call op fr st):=by
 unfold mE;cases hg:o.guard with
 |none=>
  have:fU ops fr o=some true:=by unfold fU;rw[hg]
  rw[this,EC]
 |some gb=>
  rw[AR hg,EC];dsimp only;cases mu ops fr gb with
  |none=>rfl
  |some b=>cases b<;>rfl
def FI (h:KE P (pB P lvs I) ops o fr st k):Ih (λn=>mE P (RF P lvs I n) ops o fr st) k:=by
 unfold KE at h;cases EC:mj P o.op with
 |none=>rw[EC]at h;exact h.elim
 |some op=>
  rw[EC]at h;dsimp only at h;have e:(λn=>mE P (RF P lvs I n) ops o fr st)=λn=>(match o.guard with|none=>df (RF P lvs I n) op fr st|some gb=>aZ (mu ops fr gb) st (df (RF P lvs I n) op fr st)):=funext λn=>Ps EC;rw[e];cases hg:o.guard with
  |none=>rw[hg]at h;exact UC h
  |some gb=>rw[hg]at h;exact YN h
def Gd {dst:Option Tmp}{k:Fr->Prop}(h:YH n dst v fr k):∃fr',Ge n dst v fr=some fr'/\k fr':=by
 cases dst with
 |none=>exact⟨fr,rfl,h⟩
 |some d=>
  have h':(bif Nat.ble (d+1) n then k (fr.put d (some v))else False):=h;cases hb:Nat.ble (d+1) n with
  |false=>rw[hb]at h';exact h'.elim
  |true=>
   rw[hb]at h';refine⟨_,?_,h'⟩;unfold Ge;simp only[dI,aP];rw[aEW hb]
def Uz :∀{l:List Oper} {fr:Fr} {st:St} {k:Fr->St->Prop},UA P (pB P lvs I) n ops l fr st k->
 ∃fr' st',(∃N,∀m,N<=m->pE P (RF P lvs I m) n ops l fr st=.norm fr' st')/\k fr' st':=by
 intro l
 induction l with
 |nil=>intro fr st k h;exact⟨fr,st,⟨0,λ_ _=>rfl⟩,h⟩
 |cons o l ih=>
  intro fr st k h;obtain⟨v,gD,⟨N,hN⟩,h1⟩:=FI h;obtain⟨lM,p1,h2⟩:=Gd h1;obtain⟨fr',st',⟨N',hN'⟩,h3⟩:=ih h2;refine⟨fr',st',⟨max N N',λm hm=>?_⟩,h3⟩;have TH:=hN m qE;dsimp only at TH;rw[yi,TH];dsimp only;rcases Cu p1 with⟨e,rfl⟩|⟨d,e,hd,rfl⟩
  .rw[e];exact hN' m qE
  .rw[e];dsimp only;rw[aEW hd];exact hN' m qE
def Cm (h:xy P (pB P lvs I) ops ab o fr st k):Ih (λn=>gX P (RF P lvs I n) ops ab o fr st) k:=by
 have key:∀(r:OR),upon (match o.guard with|none=>r|some gb=>aZ (mu ops fr gb) st r) k->Ih (λ_=>(match fU ops fr o with|some true=>r|some false=>.ok .undef st|none=>.bad)) k:=by
  intro r hr;refine Ih.const hr λn=>?_;cases hg:o.guard with
  |none=>
   have:fU ops fr o=some true:=by unfold fU;rw[hg]
   rw[this]
  |some gb=>
   rw[AR hg];dsimp only;cases mu ops fr gb with
   |none=>rfl
   |some b=>cases b<;>rfl
 unfold xy at h;unfold gX
 split at h
 .rename_i h1;rw[h1];exact FI h
 .rename_i tz b h1;rw[h1];exact key _ h
 .rename_i b h1;rw[h1];dsimp only
  split at h
  .rename_i x hx;rw[hx];exact key _ h
  .exact h.elim
 .exact h.elim
def IZ (h:xy P (λ_ _ _ _=>False) ops ab o fr st k):Ih (λ_=>gX P oe ops ab o fr st) k:=by
 have h2:xy P (pB P (λ_ _=>none) (λ_ _ _=>some .bad)) ops ab o fr st k:=by
  have e:(pB P (λ_ _=>none) (λ_ _ _=>some OR.bad))=λ_ _ _ _=>False:=by
   funext f args st k
   refine propext ⟨?_,λh=>h.elim⟩;rintro⟨v,st',⟨N,hN⟩,_⟩;have:=hN (N+1) qE;unfold RF at this;simp only[BC]at this;cases this
  rw[e];exact h
 obtain⟨v,s1,⟨N,hN⟩,hk⟩:=Cm h2;refine⟨v,s1,⟨0,λ_ _=>?_⟩,hk⟩
 have e:∀n,RF P (λ_ _=>none) (λ_ _ _=>some OR.bad) n=oe:=by
  intro n
  funext f args st
  cases n with
  |zero=>rfl
  |succ n=>unfold RF;simp only[BC];rfl
 have:=hN N (aEQ _);dsimp only at this;rw[e]at this;exact this
def Mv :∀{l:List (Oper×Option Nat)} {i c:Nat} {fr:Fr} {st:St} {k:List TR->List St->Fr->St->Prop},DA P (pB P lvs I) n ops l i c fr st k->
 ∃fe ch fr' st',(∃N,∀m,N<=m->rE P (RF P lvs I m) n ops l i c fr st=some (fe,ch,fr',st'))/\k fe ch fr' st':=by
 intro l
 induction l with
 |nil=>intro i c fr st k h;exact⟨[],[],fr,st,⟨0,λ_ _=>rfl⟩,h⟩
 |cons o l ih=>
  intro i c fr st k h;obtain⟨v,gD,⟨N,hN⟩,h1⟩:=Cm h;obtain⟨lM,p1,h2⟩:=Gd h1
  have e:∀call,rE P call n ops (o::l) i c fr st=OR.rec (λv st'=>oJ v λv=>oJ st' λst'=>
   Option.rec none (λfr'=>bH (mN P o.1)
    (Option.rec none (λr=>some (⟨i,o.2,o.1,true,c,fr,v,st,st'⟩::r.1,st::r.2.1,r.2.2)) (rE P call n ops l (Nat.succ i) (Nat.succ c) fr' st'))
    (Option.rec none (λr=>some (⟨i,o.2,o.1,false,c,fr,v,st,st'⟩::r.1,r.2.1,r.2.2)) (rE P call n ops l (Nat.succ i) c fr' st'))) (Ge n o.1.dst v fr)) none (gX P call ops o.2 o.1 fr st):=λ_=>rfl
  cases hw:mN P o.1 with
  |true=>
   rw[hw]at h2;obtain⟨fe,ch,fr',st',⟨N',hN'⟩,h3⟩:=ih h2;refine⟨_,_,fr',st',⟨max N N',λm hm=>?_⟩,h3⟩;have TH:=hN m qE;dsimp only at TH;rw[e,TH];simp only[dI,p1,aP,hw,aFm];rw[hN' m qE]
  |false=>
   rw[hw]at h2;obtain⟨fe,ch,fr',st',⟨N',hN'⟩,h3⟩:=ih h2;refine⟨_,_,fr',st',⟨max N N',λm hm=>?_⟩,h3⟩;have TH:=hN m qE;dsimp only at TH;rw[e,TH];simp only[dI,p1,aP,hw,aEM,aFa];rw[hN' m qE]
def DE (hw:mN P o=false)(h:gX P oe ops ab o fr st=.ok v s1):gX P call ops ab o fr st=.ok v s1:=by
 unfold gX at h⊢
 split at h
 .unfold mE at h⊢
  split at h
  .rename_i hwt
   try rw[hwt]
   split at h
   .rename_i op EC;rw[qN call op]
    .exact h
    .intro f args e;subst e;cases h
    .intro f args e;subst e;have h':xC oe (ev fr f) (LX fr args) st=.ok v s1:=h;unfold xC at h'
     split at h'<;>cases h'
   .cases h
  .exact h
  .cases h
 .exact h
 .exact h
 .cases h
def IY (hb:HR P o=true)(uy:qj P o=false)(h:gX P call ops ab o fr st=.ok v s1)(s:St):∃s2,gX P call ops ab o fr s=.ok v s2:=by
 have hl:lb P o=none:=by
  unfold qj at uy;cases hl:lb P o with
  |none=>rfl
  |some x=>rw[hl]at uy;cases uy
 unfold HR at hb;unfold gX at h⊢;cases hn:og P o with
 |some tz=>rw[hn]at hb;cases hb
 |none=>
  rw[hn]at hb h;dsimp only at hb h;cases ab with
  |some b=>dsimp only at h;rw[hl]at h;cases h
  |none=>
   dsimp only at h⊢;unfold mE at h⊢;cases hw:fU ops fr o with
   |none=>rw[hw]at h;cases h
   |some b=>
    rw[hw]at h;cases b with
    |false=>cases h;exact⟨_,rfl⟩
    |true=>
     dsimp only at h⊢;cases EC:mj P o.op with
     |none=>rw[EC]at h;cases h
     |some op=>
      rw[EC]at h hb;exact(Ji hb).eq _ _ h
def Mg (P:Program):∀(l:List Oper) (i c k:Nat) (o:Oper),l[k]?=some o->(Cc P l i c)[k]?=some (i+k,c+jC P l k,o):=by
 intro l
 induction l with
 |nil=>intro i c k o h;simp at h
 |cons o' l ih=>
  intro i c k o h;cases k with
  |zero=>simp at h;subst h;rfl
  |succ k=>
   show(Cc P l (i+1) (bif mN P o' then c+1 else c))[k]?=_;rw[ih _ _ k o OY,wY];cases mN P o'<;>simp<;>omega
def HU (P:Program):∀(l:List Oper) (i c:Nat),(Cc P l i c).length=l.length:=by
 intro l
 induction l with
 |nil=>intro i c;rfl
 |cons o l ih=>intro i c;show(Cc P l _ _).length+1=_;rw[ih];rfl
def SO {l:List Oper}{x:Yg}(h:x∈Cc P l 0 0):∃o,l[x.1]?=some o/\x=(x.1,jC P l x.1,o):=by
 obtain⟨k,hk,rfl⟩:=aFP h;rw[HU]at hk;have h1:=Mg P l 0 0 k l[k] (aES hk);rw[aES (by rw[HU];exact hk)]at h1;have h2:=aHj h1;rw[h2];simp only[aER];exact⟨l[k],aES hk,rfl⟩
def aaP {as:List (Option Nat)}{fe:List TR}{ch:List St}{Bo kK lX:St}{AU Hv:Fr}(dB:uV P ops.toList Bo as kK)(ki:H0 (ops.toList.zip as) P call n ops 0 0 AU kK fe ch Hv lX)(qy:∀(j:Nat) (o:Oper),ops.toList[j]?=some o->qj P o=false){k:Nat}:
 ∀{k':Nat},k<=k'->k'<=ops.toList.length->(∀(j:Nat) (o:Oper),k<=j->j<k'->ops.toList[j]?=some o->mN P o=false)->ln fe lX k'=ln fe lX k:=by
 intro k'
 induction k' with
 |zero=>intro h _ _;have:k=0:=by omega
        subst this;rfl
 |succ k' ih=>
  intro h hl hw
  by_cases hk:k=k'+1
  .subst hk;rfl
  have i1:=ih qE qE (λj o h1 h2=>hw j o h1 qE);have ho:ops.toList[k']?=some ops.toList[k']:=aES qE;generalize ops.toList[k']=o at ho;obtain⟨t,ab,h1,h2,h3,h4,h5,h6,h7,h8,h9,Kd,h11⟩:=nf dB ki ho;rw[<-ki.qU k' t h1,<-i1,sq (hw k' o qE qE ho) (qy k' o ho) Kd];unfold ln;rw[h1]
def SB {b:Bool}{p q:Prop}(h:cj b p q):q/\(b=false->p):=by
 cases b with
 |true=>exact⟨h,λe=>by cases e⟩
 |false=>exact⟨h.2,λ_=>h.1⟩
def UM {t:TR}:∀{chain:List St} {c0:Nat},UN P ops a t c0 chain->∀(j:Nat) (s:St),chain[j]?=some s->KH P ops a t.i t.c (c0+j)=false->reW P ops t s:=by
 intro chain
 induction chain with
 |nil=>intro c0 _ j s h;simp at h
 |cons s0 r ih=>
  intro c0 h j s hj hs;obtain⟨h1,h2⟩:=SB (show cj _ _ _ from h);cases j with
  |zero=>simp at hj;subst hj;exact h2 hs
  |succ j=>exact ih h1 j s acw (by rw[show c0+1+j=c0+(j+1) from qE];exact hs)
def UK :∀{fe:List TR},Qn P ops a chain fe->∀t∈fe,qj P t.o=false->mN P t.o=false->HR P t.o=false->UN P ops a t 0 chain:=by
 intro fe
 induction fe with
 |nil=>intro _ t h;cases h
 |cons t0 r ih=>
  intro h t ht h1 h2 h3;simp only[Qn]at h;rcases aEP.1 ht with rfl|ht
  .rw[h1,h2,h3]at h;exact h.1
  .split at h
   .exact ih h t ht h1 h2 h3
   .exact ih h.2 t ht h1 h2 h3
def Qo {b j:Nat}:∀{fe:List TR},KV P ops b j fe chain->∀u∈fe,mN P u.o=true->fT ops ops.size u.i j=false->fT ops ops.size j u.i=false->
 (u.i<j->u.s.m.g b=none)/\(j<u.i->u.s1.m.g b=u.s.m.g b):=by
 intro fe
 induction fe with
 |nil=>intro _ t h;cases h
 |cons t0 r ih=>
  intro h t ht h1 h2 h3;obtain⟨k1,k2⟩:=SB (show cj _ _ _ from h);rcases aEP.1 ht with rfl|ht
  .have:=k2 (by rw[h1,h2,h3];rfl);constructor
   .intro hlt;rw[show Nat.ble (t.i+1) j=true by rw[aFs];exact hlt]at this;exact this
   .intro hlt;rw[show Nat.ble (t.i+1) j=false by cases hb:Nat.ble (t.i+1) j with|false=>rfl|true=>rw[aFs]at hb;omega]at this;exact this
  .exact ih k1 t ht h1 h2 h3
def UL {all:List TR}:∀{fe:List TR},Qp P ops all chain fe->∀t∈fe,qj P t.o=true->∀b,t.ab=some b->KV P ops b t.i all chain:=by
 intro fe
 induction fe with
 |nil=>intro _ t h;cases h
 |cons t0 r ih=>
  intro h t ht h1 b hb;simp only[Qp]at h;rcases aEP.1 ht with rfl|ht
  .rw[h1]at h;have:=h.1;rw[hb]at this;exact this
  .split at h
   .exact ih h t ht h1 b hb
   .exact ih h.2 t ht h1 b hb
def Sp {k:Fr->St->Prop}(h:Sq P (pB P lvs I) n ops fr st k):
 ∃fr' st',(∃N,∀m,N<=m->fI P (RF P lvs I m) n ops fr st=.norm fr' st')/\k fr' st':=by
 obtain⟨aeY,h⟩:=h;have hst:=I2 aeY;obtain⟨as,gD,dB,hk⟩:=KM (P:=P) ops.toList st;rw[hk]at h;obtain⟨fe,ch,fr',st',⟨N,hN⟩,hR,hL,It⟩:=Mv h;refine⟨fr',st',⟨N,λm hm=>?_⟩,It⟩;have QP:=hN m hm;unfold fI;rw[hk,QP];dsimp only;have EF:(ops.toList.zip as).map (·.1)=ops.toList:=List.map_fst_zip aaE;have ki:=FC QP (by rw[EF];exact hst.s3)
 have afA:∀(i:Nat) (o:Oper),ops.toList[i]?=some o->(i,jC P ops.toList i,o)∈Cc P ops.toList 0 0:=λi o hoi=>by
  have:=Mg P ops.toList 0 0 i o hoi;simp only[aER]at this;exact aFJ this
 rw[aEW];refine⟨hst,?_,?_⟩
 .intro i t Zv htw htB c s hc;have hoi:=yc dB ki Zv;obtain⟨t',ab,g1,tN,g2,g3,g4,g5,g6,g7,g8,LV,g11⟩:=nf dB ki hoi;rw[Zv]at g1;cases g1
  have hu:∀u∈Cc P ops.toList 0 0,mN P u.2.2=true->∃tu∈fe,tu.w=true/\tu.c=u.2.1/\tu.i=u.1:=by
   intro u hu huw;obtain⟨ou,ho,e⟩:=SO hu;obtain⟨tu,_,k1,_,k2,k3,k4,k5,k6,_⟩:=nf dB ki ho;have e2:u.2.2=ou:=by rw[e]
   have e3:u.2.1=jC P ops.toList u.1:=by rw[e]
   exact⟨tu,aFJ k1,by rw[k5,<-e2];exact huw,by rw[k6,e3],k2⟩
  cases XO:HR P t.o with
  |true=>exact .inr (.inr (by rw[g3];exact IY XO htB LV s))
  |false=>
   cases ja:KH P ops (Cc P ops.toList 0 0) t.i t.c c with
   |true=>
    unfold KH at ja;simp only[aFO,aFl,aFw,Ba]at ja;rcases ja with⟨G0,ja⟩|⟨u,hu1,Zt,Tt⟩|⟨u,hu1,Zt,Tt⟩
    .have qy:=λj o hj=>by
      unfold noB at G0;rw[oD]at G0;have:=G0 _ (afA j o hj)
      simpa using this
     have Ff:=(aFb.1 hoi).1;obtain⟨k2,n1,n2,n3,n4,n5,n6⟩:=wA dB ki (ops.toList.length-i) i qE;have e6:=aaP dB ki qy n1 n2 n3;have e7:ln fe st' i=t.s:=by unfold ln;rw[Zv]
     rw[ja,g6,n5]at hc;cases hc;refine .inr (.inr ⟨t.s1,?_⟩);rw[e6,e7,g3];exact LV
    .simp only[aFs]at Tt;obtain⟨tu,k1,k2,k3,k4⟩:=hu u hu1 Zt;exact .inl ⟨tu,k1,k2,by rw[k3];exact Tt.1,by rw[k4];exact Tt.2⟩
    .simp only[aFs]at Tt;obtain⟨tu,k1,k2,k3,k4⟩:=hu u hu1 Zt;exact .inr (.inl ⟨tu,k1,k2,by rw[k3];exact Tt.1,by rw[k4];exact Tt.2⟩)
   |false=>
    refine .inr (.inr ?_);have h1:=UM (UK hR t (aFJ Zv) htB htw XO) c s hc (by rw[aER];exact ja);obtain⟨v,s1,⟨N1,TH⟩,hv⟩:=IZ h1;subst hv;exact⟨s1,DE htw (TH N1 (aEQ _))⟩
 .intro j tj b hj hjB hjb d td hd hdW a1 a2;have Ty:=yc dB ki hj;have hod:=yc dB ki hd;obtain⟨tj',_,m1,m5,m2,m3,_,_,m4,_⟩:=nf dB ki Ty;rw[hj]at m1;cases m1;obtain⟨td',_,p1,_,p2,_,p3,_,p4,_,_,_,p11⟩:=nf dB ki hod;rw[hd]at p1;cases p1
  have hb:tj.ab=some b:=by
   rw[hjb]at m5;have:=aHj m5;rw[m3,<-this]
  have h1:=Qo (UL hL tj (aFJ hj) hjB b hb) td (aFJ hd) hdW (by rw[p2,m2];exact a1) (by rw[p2,m2];exact a2);rw[p2,m2]at h1;have e1:=p11 hdW;rw[<-p4]at e1;constructor
  .intro hlt s hs;rw[e1]at hs;cases hs;exact h1.1 hlt
  .intro hlt s s' hs vG;rw[e1]at hs;cases hs;have e2:(ch++[st'])[td.c+1]?=some td.s1\/True:=.inr trivial;obtain⟨k2,n1,n2,n3,n4,n5,n6⟩:=wA dB ki (ops.toList.length-(d+1)) (d+1) (by have:=(aFb.1 hod).1;omega);have e3:jC P ops.toList (d+1)=td.c+1:=by rw[ow hod,hdW,p4];rfl
   rw[e3]at n5;rw[n5]at vG;cases vG;obtain⟨q1,q2⟩:=gap dB ki n1 n2 n3;have e4:=(ki.qU d td hd).symm
   by_cases jB:∃j2 t2,d+1<=j2/\j2<k2/\fe[j2]?=some t2/\qj P t2.o=true/\as[j2]?=some (some b)
   .exfalso;obtain⟨j2,t2,r1,r2,r3,r4,r5⟩:=jB;have:=dB.uniq j j2 b hjb r5;omega
   .rw[q2 b (λj2 t2 r1 r2 r3 r4 r5=>jB ⟨j2,t2,r1,r2,r3,r4,r5⟩),e4];exact h1.2 hlt
def KR (kn:Fr->St->Prop)(ke:Nat->Fr->St->Prop)(kr:Fr->St->Prop):Rs->Prop
 | .norm fr st=>kn fr st
 | .exit i fr st=>ke i fr st
 | .ret fr st=>kr fr st
 | .bad=>False
def SA {lv:Nat->Option (List Nat)}(c:Code):∀{fr:Fr} {st:St} {kn:Fr->St->Prop} {ke:Nat->Fr->St->Prop} {kr:Fr->St->Prop},ji P (pB P lvs I) lv n c fr st kn ke kr->
 ∃r,(∃N,∀m,N<=m->lN P (RF P lvs I m) (fI P) lv m n c fr st=r)/\KR kn ke kr r:=by
 induction c with
 |skip=>intro fr st kn ke kr h;exact⟨.norm fr st,⟨0,λ_ _=>rfl⟩,h⟩
 |region id ops draw=>
  intro fr st kn ke kr h;cases draw with
  |true=>
   obtain⟨fr',st',⟨N,hN⟩,h1⟩:=Sp (show Sq P (pB P lvs I) n ops fr st kn from h);exact⟨.norm fr' st',⟨N,λm hm=>hN m hm⟩,h1⟩
  |false=>
   obtain⟨fr',st',⟨N,hN⟩,h1⟩:=Uz (show UA P (pB P lvs I) n ops ops.toList fr st kn from h);exact⟨.norm fr' st',⟨N,λm hm=>hN m hm⟩,h1⟩
 |seq x y hx hy=>
  intro fr st kn ke kr h
  have key:ji P (pB P lvs I) lv n x fr st (λfr st=>ji P (pB P lvs I) lv n y (xT (lv (IA y)) fr) st kn ke kr) ke kr:=by
   have h':(match lv (IA y)with
    |none=>ji P (pB P lvs I) lv n x fr st (λfr st=>ji P (pB P lvs I) lv n y fr st kn ke kr) ke kr
    |some L=>dK (λvs st=>ji P (pB P lvs I) lv n y (KY L vs) st kn ke kr) λk=>ji P (pB P lvs I) lv n x fr st (λfr st=>k (L.map (fK fr)) st) ke kr):=h
   cases hl:lv (IA y)with
   |none=>rw[hl]at h';exact h'
   |some L=>rw[hl]at h';exact h'
  obtain⟨r,⟨N,hN⟩,hr⟩:=hx key;cases r with
  |norm lM gD=>
   obtain⟨r2,⟨N2,hN2⟩,Fe⟩:=hy (show ji P (pB P lvs I) lv n y (xT (lv (IA y)) lM) gD kn ke kr from hr);refine⟨r2,⟨max N N2,λm hm=>?_⟩,Fe⟩;show uH (lN P (RF P lvs I m) (fI P) lv m n x fr st) _=r2;rw[hN m qE];exact hN2 m qE
  |exit i lM gD=>
   refine⟨.exit i lM gD,⟨N,λm hm=>?_⟩,hr⟩;show uH (lN P (RF P lvs I m) (fI P) lv m n x fr st) _=_;rw[hN m hm];rfl
  |ret lM gD=>
   refine⟨.ret lM gD,⟨N,λm hm=>?_⟩,hr⟩;show uH (lN P (RF P lvs I m) (fI P) lv m n x fr st) _=_;rw[hN m hm];rfl
  |bad=>exact(show False from hr).elim
 |cond c x y hx hy=>
  intro fr st kn ke kr h;have h':Kk fr c (ji P (pB P lvs I) lv n x fr st kn ke kr) (ji P (pB P lvs I) lv n y fr st kn ke kr):=h;have e:∀m,lN P (RF P lvs I m) (fI P) lv m n (.cond c x y) fr st=De c (lN P (RF P lvs I m) (fI P) lv m n x) (lN P (RF P lvs I m) (fI P) lv m n y) fr st:=λ_=>rfl;unfold Kk at h';cases hc:fj c with
  |none=>rw[hc]at h';exact h'.elim
  |some a=>
   rw[hc]at h';dsimp only at h';unfold aD at h'
   split at h'
   .rename_i hv;obtain⟨r,⟨N,hN⟩,hr⟩:=hx h';exact⟨r,⟨N,λm hm=>aaZ⟩,hr⟩
   .rename_i hv;obtain⟨r,⟨N,hN⟩,hr⟩:=hy h';exact⟨r,⟨N,λm hm=>aaZ⟩,hr⟩
   .exact h'.elim
 |block id x hx=>
  intro fr st kn ke kr h;obtain⟨r,⟨N,hN⟩,hr⟩:=hx (show ji P (pB P lvs I) lv n x fr st kn (λi fr st=>bif Nat.beq i id then kn fr st else ke i fr st) kr from h);refine⟨sP id r,⟨N,λm hm=>?_⟩,?_⟩
  .show sP id (lN P (RF P lvs I m) (fI P) lv m n x fr st)=_;rw[hN m hm]
  .cases r with
   |norm lM gD=>exact hr
   |ret lM gD=>exact hr
   |bad=>exact hr
   |exit i lM gD=>
    have zp:(bif Nat.beq i id then kn lM gD else ke i lM gD):=hr;show KR kn ke kr (bH (Nat.beq i id) (.norm lM gD) (.exit i lM gD));cases hb:Nat.beq i id with
    |true=>rw[hb]at zp;exact zp
    |false=>rw[hb]at zp;exact zp
 |loop x hx=>
  intro fr st kn ke kr h
  have h':(match lv (IA x)with
   |none=>False
   |some L=>cZ (λvs st next=>ji P (pB P lvs I) lv n x (KY L vs) st (λfr st=>next (L.map (fK fr)) st) ke kr) (L.map (fK fr)) st):=h
  cases hl:lv (IA x)with
  |none=>rw[hl]at h';exact h'.elim
  |some L=>
   rw[hl]at h';obtain⟨m0,No⟩:=h'
   have key:∀(m0:Nat) (fr:Fr) (st:St),GD (λvs st next=>ji P (pB P lvs I) lv n x (KY L vs) st (λfr st=>next (L.map (fK fr)) st) ke kr) m0 (L.map (fK fr)) st->
    ∃r,(∃N,∀m,N<=m->∀j,m0<=j->yn (lN P (RF P lvs I m) (fI P) lv m n x) (some L) j fr st=r)/\KR kn ke kr r:=by
    intro m0
    induction m0 with
    |zero=>intro fr st hh;exact hh.elim
    |succ m0 ih=>
     intro fr st hh;obtain⟨r,⟨N,hN⟩,hr⟩:=hx (show ji P (pB P lvs I) lv n x (KY L (L.map (fK fr))) st (λfr st=>GD (λvs st next=>ji P (pB P lvs I) lv n x (KY L vs) st (λfr st=>next (L.map (fK fr)) st) ke kr) m0 (L.map (fK fr)) st) ke kr from hh);cases r with
     |norm lM gD=>
      obtain⟨r2,⟨N2,hN2⟩,Fe⟩:=ih lM gD hr;refine⟨r2,⟨max N N2,λm hm j hj=>?_⟩,Fe⟩;obtain⟨j,rfl⟩:∃i,j=i+1:=⟨j-1,qE⟩;show uH (lN P (RF P lvs I m) (fI P) lv m n x (xT (some L) fr) st) _=r2;rw[show xT (some L) fr=KY L (L.map (fK fr))from rfl,hN m qE];exact hN2 m qE j qE
     |exit i lM gD=>
      refine⟨.exit i lM gD,⟨N,λm hm j hj=>?_⟩,hr⟩;obtain⟨j,rfl⟩:∃i,j=i+1:=⟨j-1,qE⟩;show uH (lN P (RF P lvs I m) (fI P) lv m n x (xT (some L) fr) st) _=_;rw[show xT (some L) fr=KY L (L.map (fK fr))from rfl,hN m hm];rfl
     |ret lM gD=>
      refine⟨.ret lM gD,⟨N,λm hm j hj=>?_⟩,hr⟩;obtain⟨j,rfl⟩:∃i,j=i+1:=⟨j-1,qE⟩;show uH (lN P (RF P lvs I m) (fI P) lv m n x (xT (some L) fr) st) _=_;rw[show xT (some L) fr=KY L (L.map (fK fr))from rfl,hN m hm];rfl
     |bad=>exact(show False from hr).elim
   obtain⟨r,⟨N,hN⟩,hr⟩:=key m0 fr st No;refine⟨r,⟨max N m0,λm hm=>?_⟩,hr⟩;show yn (lN P (RF P lvs I m) (fI P) lv m n x) (lv (IA x)) m fr st=r;rw[hl];exact hN m qE m qE
 |exit id=>intro fr st kn ke kr h;exact⟨.exit id fr st,⟨0,λ_ _=>rfl⟩,h⟩
 |scope x hx=>intro fr st kn ke kr h;exact hx h
 |label l=>intro fr st kn ke kr h;exact⟨.norm fr st,⟨0,λ_ _=>rfl⟩,h⟩
 |ret=>intro fr st kn ke kr h;exact⟨.ret fr st,⟨0,λ_ _=>rfl⟩,h⟩
 |rangeFunc f ps x y hx hy=>intro fr st kn ke kr h;exact(show False from h).elim
 |goto l=>intro fr st kn ke kr h;exact(show False from h).elim
 |refuse y=>intro fr st kn ke kr h;exact(show False from h).elim
def PR :∀{l:List ResultVar} {k:List CV->Prop},zV P fr st l k->∃vs,Jj P fr st l=some vs/\k vs:=by
 intro l
 induction l with
 |nil=>intro k h;exact⟨[],rfl,h⟩
 |cons r l ih=>
  intro k h;have e:Jj P fr st (r::l)=(match Cs P fr st r,Jj P fr st l with|some v,some l=>some (v::l)|_,_=>none):=rfl;cases r with
  |tmp t=>
   obtain⟨vs,h1,h2⟩:=ih (show zV P fr st l λvs=>k (fK fr t::vs)from h);exact⟨_,by rw[e,h1];rfl,h2⟩
  |cell a t=>
   simp only[zV]at h
   split at h
   .rename_i u i hu hi
    have e1:Cs P fr st (.cell a t)=(match (bif iF u then aI i.size (fK fr a) st else aC (fK fr a) st)with| .ok v _=>some v| .bad=>none):=by
     show(match P.underlying t,P.info? t with
      |some u,some i=>(match bH (iF u) (aI i.size (fK fr a) st) (aC (fK fr a) st)with| .ok v _=>some v| .bad=>none)
      |_,_=>none)=_
     rw[hu,hi];dsimp only;rw[aP];cases iF u<;>rfl
    generalize (bif iF u then aI i.size (fK fr a) st else aC (fK fr a) st)=rr at h e1;cases rr with
    |bad=>exact h.elim
    |ok v s=>
     obtain⟨vs,h1,h2⟩:=ih (show zV P fr st l λvs=>k (v::vs)from h);exact⟨_,by rw[e,h1,e1],h2⟩
   .exact h.elim
def Uq {l:List ResultVar}(h:Ur P fr st l Q):upon (BD P fr st l) Q:=by
 obtain⟨vs,h1,h2⟩:=PR h;unfold BD;rw[h1];cases vs with
 |nil=>exact h2
 |cons v vs=>cases vs with
  |nil=>exact h2
  |cons u vs=>exact h2
def adM (P:Program)(l:List ResultVar)(r:Rs):OR:=match r with| .norm fr st=>BD P fr st l| .exit _ _ _=>.bad| .ret fr st=>BD P fr st l| .bad=>.bad
def Bf {args:List CV}(hI:I f args st=none)(h:aO P (pB P lvs I) (lvs f) f args st Q):pB P lvs I f args st Q:=by
 unfold aO at h
 split at h
 .rename_i fn Hl hfn
  split at h
  .rename_i c hb;obtain⟨r,⟨N,hN⟩,hr⟩:=SA c h
   have e:∀m,N<=m->RF P lvs I (m+1) f args st=adM P fn.results.toList r:=by
    intro m hm;unfold RF;simp only[BC,hI];unfold ES;have:=hN m hm;unfold RF at this;rw[Hl,aP,aEW rfl,hfn];dsimp only;rw[hb];dsimp only;rw[this];cases r<;>rfl
   have fin:∀lM gD,Ur P lM gD fn.results.toList Q->(∀m,N<=m->RF P lvs I (m+1) f args st=BD P lM gD fn.results.toList)->pB P lvs I f args st Q:=by
    intro lM gD Zu he;have hu:=Uq Zu;cases JO:BD P lM gD fn.results.toList with
    |bad=>rw[JO]at hu;exact hu.elim
    |ok v vf=>
     rw[JO]at hu;refine⟨v,vf,⟨N+1,λm hm=>?_⟩,hu⟩;obtain⟨m,rfl⟩:∃i,m=i+1:=⟨m-1,qE⟩;rw[he m qE,JO]
   cases r with
   |norm lM gD=>exact fin lM gD hr (λm hm=>e m hm)
   |ret lM gD=>exact fin lM gD hr (λm hm=>e m hm)
   |exit i lM gD=>exact(show False from hr).elim
   |bad=>exact(show False from hr).elim
  .exact h.elim
 .exact h.elim
def Ib {args:List CV}{st':St}(hI:I f args st=some (.ok v st'))(h:Q v st'):pB P lvs I f args st Q:=by
 refine⟨v,st',⟨1,λm hm=>?_⟩,h⟩;obtain⟨m,rfl⟩:∃i,m=i+1:=⟨m-1,qE⟩;unfold RF;simp only[BC,hI]
def pB.out (hm:P.follows .mixedOrders=true)(hI:nN P I){args:List CV}(h:pB P lvs I f args st Q):∃v st',rD P f args st v st'/\Q v st':=by
 obtain⟨v,st',⟨N,hN⟩,hq⟩:=h;exact⟨v,st',zT (nW hm) hI N f args st v st' (hN N (aEQ _)),hq⟩
end
end
section
variable {st:St}{p:Nat}{F G:List Nat}{a:St}{s:List CV}{n:Nat}{z:List CV}
@[simp] def af (v:CV)(st:St)(k:CV->Prop):us (.ok v st) k=k v:=id rfl
@[simp] def alw (k:CV->Prop):us .bad k=False:=id rfl
@[simp] def aS (v:CV)(st:St)(k:CV->St->Prop):upon (.ok v st) k=k v st:=id rfl
@[simp] def adn (k:CV->St->Prop):upon .bad k=False:=id rfl
@[simp] def ag (b:Bool)(x y:Prop):aD (.bool b) x y=if b=true then x else y:=by cases b<;>simp[aD]
@[simp] def aG (b c:Bool):ak b (.bool c)=some (if b=true then c else !c):=by cases b<;>rfl
@[simp] def oQ (b:Bool):ak b .undef=some false:=id rfl
@[simp] def bh (st:St)(r:OR):aZ (some true) st r=r:=id rfl
@[simp] def bS (st:St)(r:OR):aZ (some false) st r=.ok .undef st:=id rfl
@[simp] def eR (st:St)(y:(CV->St->Prop)->Prop)(k:CV->St->Prop):fD (some true) st y k=y k:=id rfl
@[simp] def pz (st:St)(y:(CV->St->Prop)->Prop)(k:CV->St->Prop):fD (some false) st y k=k .undef st:=id rfl
@[simp] def bG (p:Prop):bX p=p:=by simp[bX]
@[simp] def cV (k:List CV->St->Prop)(b:(List CV->St->Prop)->Prop):dK k b=b k:=id rfl
@[simp] def aL (v:CV)(l:List CV):au 0 (v::l)=v:=id rfl
@[simp] def aM (i:Nat)(v:CV)(l:List CV):au (i+1) (v::l)=au i l:=id rfl
@[simp] def dM (C:aY)(g:Nat)(f c args:List CV)(st:St)(k:CV->St->Prop):fF C (.func (.func g) f c) args st k=C g (f++(args++c)) st k:=id rfl
@[simp] def aF (c:Bool)(a b:CV)(st:St):aX (.bool c) a b st=if c=true then .ok a st else .ok b st:=by cases c<;>rfl
@[simp] def Yt (c:Prop)[Decidable c](a b:OR)(k:CV->Prop):us (if c then a else b) k=if c then us a k else us b k:=by split<;>rfl
@[simp] def adm (c:Prop)[Decidable c](a b:OR)(k:CV->St->Prop):upon (if c then a else b) k=if c then upon a k else upon b k:=by split<;>rfl
@[simp] def az (op:BinOp)(d:Option kj)(c:Bool)(k j:IntKind)(a b:Int)(st:St):ai op d c (.int k a) (.int j b) st=jX op k a j b st:=id rfl
@[simp] def cO (k:IntKind)(a b:Int)(st:St):jX .add k a k b st=.ok (.int k (k.wrap (a+b))) st:=TS
@[simp] def dR (k:IntKind)(a b:Int)(st:St):jX .sub k a k b st=.ok (.int k (k.wrap (a-b))) st:=TS
@[simp] def je (k:IntKind)(a b:Int)(st:St):jX .mul k a k b st=.ok (.int k (k.wrap (a*b))) st:=TS
@[simp] def Qe (k:IntKind)(a b:Int)(st:St):jX .quo k a k b st=if b=0 then .bad else .ok (.int k (k.wrap (Int.tdiv a b))) st:=TS
@[simp] def Qd (k:IntKind)(a b:Int)(st:St):jX .rem k a k b st=if b=0 then .bad else .ok (.int k (Int.tmod a b)) st:=TS
@[simp] def cI (k:IntKind)(a b:Int)(st:St):jX .eql k a k b st=.ok (.bool (decide (a=b))) st:=TS
@[simp] def fh (k:IntKind)(a b:Int)(st:St):jX .neq k a k b st=.ok (.bool (!decide (a=b))) st:=TS
@[simp] def c8 (k:IntKind)(a b:Int)(st:St):jX .lss k a k b st=.ok (.bool (decide (a<b))) st:=TS
@[simp] def iy (k:IntKind)(a b:Int)(st:St):jX .leq k a k b st=.ok (.bool (decide (a<=b))) st:=TS
@[simp] def dx (k:IntKind)(a b:Int)(st:St):jX .gtr k a k b st=.ok (.bool (decide (b<a))) st:=TS
@[simp] def sG (k:IntKind)(a b:Int)(st:St):jX .geq k a k b st=.ok (.bool (decide (b<=a))) st:=TS
@[simp] def eA (op:BinOp)(d:Option kj)(c:Bool)(a b:List UInt8)(st:St):ai op d c (.str a) (.str b) st=sF op a b st:=id rfl
def bz {x:Int}(h: -9223372036854775808<=x/\x<=9223372036854775807):IntKind.i64.wrap x=x:=IntWalk.i64_in _ h
@[simp] def cD (c:Bool)(b o:Nat)(st:St):ai .eql (some .ptr) c (.ptr b o) .bA st=.ok (.bool false) st:=id rfl
@[simp] def Tm (c:Bool)(b o:Nat)(st:St):ai .neq (some .ptr) c (.ptr b o) .bA st=.ok (.bool true) st:=id rfl
@[simp] def Wx (c:Bool)(st:St):ai .eql (some .slice) c .ae .ae st=.ok (.bool true) st:=id rfl
@[simp] def cU (b:Bool)(st:St):kY .not (.bool b) st=.ok (.bool (!b)) st:=id rfl
def okO (o:Option Bool)(st:St):OR:=match o with|some b=>.ok (.bool b) st|none=>.bad
@[simp] def adX (b:Bool)(st:St):okO (some b) st=.ok (.bool b) st:=id rfl
def qR (d:kj)(c:Bool)(s t:List CV)(st:St):ai .eql (some d) c (.agg s) (.agg t) st=okO (lO d (.agg s) (.agg t)) st:=by
 simp only[ai,pEq,NU];cases lO d (.agg s) (.agg t)<;>rfl
def wq (d:kj)(c:Bool)(s t:List CV)(st:St):ai .neq (some d) c (.agg s) (.agg t) st=okO ((lO d (.agg s) (.agg t)).map (!·)) st:=by
 simp only[ai,pEq,NU];cases lO d (.agg s) (.agg t)<;>rfl
@[simp] def aE (a:CV)(l:List CV)(st:St):av (.tuple (a::l)) 0 st=.ok a st:=id rfl
@[simp] def aN (a:CV)(l:List CV)(i:Nat)(st:St):av (.tuple (a::l)) (i+1) st=av (.tuple l) i st:=id rfl
@[simp] def nY (b o l c g:Nat)(st:St):bo .slice (.slice b o l c g) st=.ok (.int .i64 l) st:=id rfl
@[simp] def pY (st:St):bo .slice .ae st=.ok (.int .i64 0) st:=id rfl
@[simp] def fg (l:List UInt8)(st:St):bo .str (.str l) st=.ok (.int .i64 l.length) st:=id rfl
@[simp] def lB (fn:Fn)(f c:List CV)(st:St):pZ fn f c st=.ok (.func fn f c) st:=id rfl
def Oj (o:Option qB)(k:List CV->Prop):Prop:=match o with|some (.cells l _ _)=>k l|some (.ro l _)=>k l|_=>False
def onT (o:Option qB)(k:List CV->TypeId->Bool->Prop):Prop:=match o with|some (.cells l t g)=>k l t g|_=>False
def onV (o:Option CV)(k:CV->Prop):Prop:=match o with|some v=>k v|none=>False
def onL (o:Option (List CV))(k:List CV->Prop):Prop:=match o with|some v=>k v|none=>False
@[simp] def aq (l:List CV)(t:TypeId)(g:Bool)(k:List CV->Prop):Oj (some (.cells l t g)) k=k l:=id rfl
@[simp] def xE (l:List CV)(o:Obj)(k:List CV->Prop):Oj (some (.ro l o)) k=k l:=id rfl
@[simp] def aW (l:List CV)(t:TypeId)(g:Bool)(k:List CV->TypeId->Bool->Prop):onT (some (.cells l t g)) k=k l t g:=id rfl
@[simp] def ay (v:CV)(k:CV->Prop):onV (some v) k=k v:=id rfl
@[simp] def aB (b off:Nat)(st:St)(k:CV->Prop):us (aC (.ptr b off) st) k=Oj (st.m.g b) λl=>onV l[off]? k:=by
  simp only[aC];cases st.m.g b with
  |none=>rfl
  |some blk=>cases blk<;>first|rfl|(rename_i l t g;simp only[Oj];cases l[off]?<;>rfl)|(rename_i l _;simp only[Oj];cases l[off]?<;>rfl)
@[simp] def so (n b off:Nat)(st:St)(k:CV->Prop):us (aI n (.ptr b off) st) k=Oj (st.m.g b) λl=>onL (gV l off n) λs=>k (.agg s):=by
  simp only[aI];cases st.m.g b with
  |none=>rfl
  |some blk=>cases blk<;>first|rfl|(rename_i l t g;simp only[Oj];cases gV l off n<;>rfl)|(rename_i l _;simp only[Oj];cases gV l off n<;>rfl)
@[simp] def bF (b o:Nat)(st:St):dP (.ptr b o) st=.ok (.ptr b o) st:=id rfl
@[simp] def ah (off b o:Nat)(st:St):an off (.ptr b o) st=.ok (.ptr b (o+off)) st:=id rfl
@[simp] def jc (k:IntKind)(n:Int):CV.cN (.int k n)=[.int k n]:=id rfl
@[simp] def abO (b:Bool):CV.cN (.bool b)=[.bool b]:=id rfl
@[simp] def Yz (b o l c g:Nat):CV.cN (.slice b o l c g)=[.slice b o l c g]:=id rfl
@[simp] def Tk:CV.cN .ae=[.ae]:=id rfl
@[simp] def FT (b o:Nat):CV.cN (.ptr b o)=[.ptr b o]:=id rfl
@[simp] def adK (b:Nat):CV.cN (.map b)=[.map b]:=id rfl
@[simp] def FQ (l:List UInt8):CV.cN (.str l)=[.str l]:=id rfl
@[simp] def aT (l:List CV):CV.cN (.agg l)=l:=id rfl
@[simp] def acd (k:IntKind)(n:Int):CV.isAny (.int k n)=false:=id rfl
@[simp] def Zh (b:Bool):CV.isAny (.bool b)=false:=id rfl
@[simp] def WW (b o l c g:Nat):CV.isAny (.slice b o l c g)=false:=id rfl
@[simp] def aca (b o:Nat):CV.isAny (.ptr b o)=false:=id rfl
@[simp] def acb (b:Nat):CV.isAny (.map b)=false:=id rfl
@[simp] def abZ (l:List UInt8):CV.isAny (.str l)=false:=id rfl
@[simp] def ace (l:List CV):CV.isAny (.agg l)=false:=id rfl
@[simp] def UD:bj []=true:=id rfl
@[simp] def uM (v:CV)(l:List CV):bj (v::l)=(cE v&&bj l):=id rfl
@[simp] def rH (l m:List CV):bj (l++m)=(bj l&&bj m):=by simp[bj]
@[simp] def sI (l:List UInt8):bj (l.map bQ)=true:=by
  simp only[bj,List.all_eq_true,aFq];rintro x ⟨b,_,rfl⟩;rfl
@[simp] def WD (k:IntKind)(n:Int):cE (.int k n)=true:=id rfl
@[simp] def UE (b:Bool):cE (.bool b)=true:=id rfl
@[simp] def MX:cE .ae=true:=id rfl
@[simp] def WC (b:Nat):cE (.map b)=true:=id rfl
def bD (l:List CV)(off:Nat)(t:List CV):List CV:=l.take off++(t++l.drop (off+t.length))
@[simp] def aJ (n b off:Nat)(x:CV)(st:St)(k:CV->St->Prop):upon (aR n (.ptr b off) x st) k=
 onT (st.m.g b) λl t g=>(x.cN.length=n/\bj x.cN=true/\off+n<=l.length)/\k .undef (St.set st b (.cells (bD l off x.cN) t g)):=by
  simp only[aR];cases st.m.g b with
  |none=>rfl
  |some blk=>
   cases blk with
   |cells l t g=>
    simp only[onT,aP,aFl,aFw]
    by_cases h:x.cN.length=n/\bj x.cN=true
    .rw[aEW h];obtain⟨rfl,h2⟩:=h;unfold dY
     by_cases h3:off+x.cN.length<=l.length
     .rw[aEW h3];simp only[upon,bD,h2,h3,aHa]
      rfl
     .rw[aET h3];simp[upon,h3]
    .rw[aET h];simp only[upon,eq_iff_iff,false_iff];rintro⟨⟨h1,h2,_⟩,_⟩;exact h ⟨h1,h2⟩
   |map es c=>rfl
   |lmap es=>rfl
   |ro l o=>rfl
@[simp] def sD (st:St)(b:Nat)(blk:qB):(St.set st b blk).nx=st.nx:=id rfl
def KI (st:St)(b q:Nat)(blk:qB):(St.set st b blk).m.g q=if q=b then some blk else st.m.g q:=rfl
@[simp] def ar (st:St)(b:Nat)(blk:qB):(St.set st b blk).m.g b=some blk:=by simp[KI]
def al (st:St)(b q:Nat)(blk:qB)(h:q≠b):(St.set st b blk).m.g q=st.m.g q:=by simp[KI,h]
@[simp] def wB (st:St)(blk:qB):(St.new st blk).nx=st.nx+1:=id rfl
def Ek (st:St)(q:Nat)(blk:qB):(St.new st blk).m.g q=if q=st.nx then some blk else st.m.g q:=rfl
@[simp] def ao (st:St)(blk:qB):(St.new st blk).m.g st.nx=some blk:=by simp[Ek]
def bg (st:St)(q:Nat)(blk:qB)(h:q<st.nx):(St.new st blk).m.g q=st.m.g q:=by simp[Ek,Nat.ne_of_lt h]
@[simp] def MB (st:St):(St.skip st).nx=st.nx+1:=id rfl
@[simp] def FO (st:St):(St.skip st).m=st.m:=id rfl
@[simp] def cH (t:TypeId)(z:List CV)(st:St):du t z st=.ok (.ptr st.nx 0) (St.new st (.cells z t false)):=id rfl
@[simp] def iO (st:St):jG none st=.ok (.map st.nx) (St.new st (.map [] 0)):=id rfl
@[simp] def bV (t:TypeId)(x:CV)(st:St)(k:CV->St->Prop):upon (gK t x st) k=(x.isAny=false/\k (.ptr st.nx 0) (St.new st (.cells x.cN t false))):=by
  unfold gK;cases h:x.isAny<;>simp
@[simp] def UF (c:Prop)[Decidable c](x:List CV)(k:List CV->Prop):onL (if c then some x else none) k=(c/\k x):=by
  by_cases h:c<;>simp[h,onL]
@[simp] def wx (l:List CV)(off n:Nat)(k:List CV->Prop):onL (gV l off n) k=(off+n<=l.length/\k ((l.drop off).take n)):=by
  unfold gV;exact UF _ _ _
@[simp] def set_set (st:St)(b:Nat)(x y:qB):St.set (St.set st b x) b y=St.set st b y:=by
  simp only[St.set,St.mk.injEq,and_true];exact PT.ext λp=>by simp only[PT.eZ];split<;>rfl
@[simp] def mF (l:List CV)(off:Nat)(t:List CV)(h:off+t.length<=l.length):(bD l off t).length=l.length:=by
  simp[bD];omega
def dV (z:List CV)(parts:List uB)(st:St):bk z parts st=match gC parts z with|some s=>.ok (.agg s) st|none=>.bad:=by
 unfold bk;cases gC parts z<;>rfl
def cR (off size:Nat)(x:CV)(l:List uB)(s:List CV):gC ((off,size,x)::l) s=if (x.cN.length=size/\x.isAny=false)/\off+x.cN.length<=s.length then gC l (bD s off x.cN)else none:=by
 have e:gC ((off,size,x)::l) s=bH (Nat.beq x.cN.length size&& !x.isAny) (Option.rec none (λs'=>gC l s') (dY s off x.cN)) none:=rfl;rw[e];simp only[aP,aFl,aFw,aHA]
 by_cases h:x.cN.length=size/\x.isAny=false
 .simp only[h,and_self,aFm,aHa];unfold dY bD
  by_cases h2:off+x.cN.length<=s.length
  .rw[aEW h2,aEW (by rw[<-h.1];exact h2)]
  .rw[aET h2,aET (by rw[<-h.1];exact h2)]
 .rw[aET h,aET (λh2=>h h2.1)]
@[simp] def ld (s:List CV):gC [] s=some s:=id rfl
def eH (st:St):Prop:=∀b,st.nx<=b->st.m.g b=none
def eH.new (h:eH st)(blk:qB):eH (St.new st blk):=λb hb=>by
 simp only[wB]at hb;rw[Ek,aET qE];exact h b qE
def eH.skip (h:eH st):eH (St.skip st):=λb hb=>h b (by simp only[MB]at hb;omega)
def eH.set (h:eH st)(hp:p<st.nx)(blk:qB):eH (St.set st p blk):=λb hb=>by
 simp only[sD]at hb;rw[al _ _ _ _ qE];exact h b hb
structure Kp (F:List Nat)(st st':St):Prop where
 nx:st.nx<=st'.nx
 keep:∀b,(_:b<st.nx:=by omega)->(_:b∉F:=by simp)->st'.m.g b=st.m.g b
 fresh:eH st->eH st'
def Kp.refl (F:List Nat)(st:St):Kp F st st:=⟨aEQ _,λ_ _ _=>rfl,id⟩
def Kp.trans {b c:St}(h:Kp F a b)(k:Kp G b c)(hg:∀q∈G,q∈F\/a.nx<=q:=by simp):Kp F a c:=
 ⟨aGb h.nx k.nx,λq h1 h2=>by rw[k.keep q (aFg h1 h.nx) (λh3=>by rcases hg q h3 with h4|h4;exact h2 h4;omega),h.keep q h1 h2],λhf=>k.fresh (h.fresh hf)⟩
def Kp.new {b:St}(h:Kp F a b)(blk:qB):Kp F a (St.new b blk):=
 ⟨by have:=h.nx;simp;omega,λq h1 h2=>by rw[bg _ _ _ (aFg h1 h.nx),h.keep q h1 h2],λhf=>(h.fresh hf).new _⟩
def Kp.skip {b:St}(h:Kp F a b):Kp F a (St.skip b):=⟨by have:=h.nx;simp;omega,λq h1 h2=>h.keep q h1 h2,λhf=>(h.fresh hf).skip⟩
def Kp.set {b:St}(h:Kp F a b)(blk:qB)(hp:p∈F\/a.nx<=p)(hl:p<b.nx):Kp F a (St.set b p blk):=
 ⟨h.nx,λq h1 h2=>by rw[al _ _ _ _ (λe=>by subst e;rcases hp with h3|h3;exact h2 h3;omega),h.keep q h1 h2],λhf=>(h.fresh hf).set hl _⟩
def Kp.mono {b:St}(h:Kp F a b)(hs:∀q∈F,q∈G\/a.nx<=q):Kp G a b:=
 ⟨h.nx,λq h1 h2=>h.keep q h1 λh3=>by rcases hs q h3 with h4|h4;exact h2 h4;omega,h.fresh⟩
def Qs {s s1:St}{b:qB}(h:St.new s b=s1):Kp [] s s1/\s1.m.g s.nx=some b/\s1.nx=s.nx+1:=by
 subst h;exact⟨(Kp.refl [] s).new _,ao _ _,rfl⟩
def jH {b e:Nat}{parts:List uB}(h:st.m.g b=none)(hs:gC parts z=some s):fG b e n z parts st=.ok (.slice b 0 n n 0) (St.set st b (.cells s e false)):=by
 unfold fG;rw[h,hs];rfl
def Gp {k b:Nat}{e:TypeId}{g:Bool}(h:st.m.g b=some (.cells s e g))(hn:0<n)(hs:s.length=n*k):de .slice k z (.slice b 0 n n 0) st=some (n,s):=by
 have e0:de .slice k z (.slice b 0 n n 0) st=(match dN k n (.slice b 0 n n 0) st with|some s=>some (n,s)|none=>none):=rfl
 have e1:dN k n (.slice b 0 n n 0) st=some s:=by
  have e2:dN k n (.slice b 0 n n 0) st=bH (Nat.beq n 0) (some []) (bH (Bool.or (Nat.beq 0 0) (Nat.ble n n)) (match st.m.g b with|some (.cells s _ _)=>gV s 0 (n*k)|some (.ro s _)=>gV s 0 (n*k)|_=>none) none):=rfl;have e3:Nat.beq n 0=false:=by cases h:Nat.beq n 0 with|false=>rfl|true=>rw[aFw]at h;omega
  rw[e2,e3,h];simp only[aP,aEM,aFa];rw[aEW uG];unfold gV;rw[aEW qE,aFr,aEX qE]
 rw[e0,e1]
end
