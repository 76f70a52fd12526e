import Derived.Test.YtomffjeofpafnaaGreatDoorLimE
namespace Lim
open Go
noncomputable section
set_option linter.defProp false
section
variable {y:OR}{op:BinOp}{k:IntKind}{a:Int}
def CF.bare:CF->Bool
 | .WO _| .pick .. | .nil _| .un .. | .Jx .. | .iface .. | .func .. | .oH .. | .rj .. | .slice3 .. | .oJ .. | .fieldAddr .. | .field .. =>true
 | .vL .. | .AT .. | .vK .. | .vM .. | .extract .. | .sV .. | .bin .. | .build .. =>true
 | .conv c _=>(match c with| .toInt _| .same=>true|_=>false)
 | .len k _=>(match k with| .map=>false|_=>true)
 |_=>false
structure cn (x y:OR):Prop where
 eq:∀v s,x=.ok v s->∃s',y=.ok v s'
section
variable {st st':St}
def cn.bad :cn .bad y:=⟨λ_ _ h=>by cases h⟩
def cn.ok (v:CV):cn (.ok v st) (.ok v st'):=⟨λ_ _ h=>by cases h;exact⟨_,rfl⟩⟩
def cn.bE {b:Bool}{x c y':OR}(e:cn x c)(d:cn y y'):cn (bE b x y) (bE b c y'):=by cases b;exact d;exact e
def cn.opt {b:Type}{x:Option b}{n c:OR}{f d:b->OR}(e:cn n c)(h:∀v,cn (f v) (d v)):cn (Option.rec (motive:=λ_=>OR) n f x) (Option.rec (motive:=λ_=>OR) c d x):=by cases x;exact e;exact h _
def cn.Zm {b:Int}:cn (mm op k a b st) (mm op k a b st'):=by
 cases op<;>simp only[mm]<;>first|exact cn.ok _|exact cn.bad|(split<;>first|exact cn.ok _|exact cn.bad)
def cn.int {j:IntKind}{b:Int}:cn (ki op k a j b st) (ki op k a j b st'):=by
 cases op<;>simp only[ki]<;>split<;>first|exact cn.ok _|exact cn.bad|exact cn.Zm
def cn.str {a b:List UInt8}:cn (sv op a b st) (sv op a b st'):=by
 cases op<;>simp only[sv]<;>first|exact cn.ok _|exact cn.bad|(split<;>first|exact cn.ok _|exact cn.bad)
def cn.bin {d:Option kK}{b:Bool}{x y:CV}:cn (aj op d b x y st) (aj op d b x y st'):=by
 unfold aj
 split<;>first
  |exact cn.int
  |exact cn.str
  |exact cn.bad
  |(unfold wH;split<;>first|exact cn.bad|exact cn.bE cn.bad (cn.ok _))
  |(split
    .unfold pEq;split<;>first|exact cn.ok _|exact cn.bad
    .exact cn.bad)
end
def JD {e:gu}{op:CF}{fr:Fr}{st st':St}(h:op.bare=true):cn (de e op fr st) (de e op fr st'):=by
 cases op with
 |WO x=>exact cn.ok _
 |pick c a b=>simp only[de];unfold bk;split<;>first|exact cn.bE (cn.ok _) (cn.ok _)|exact cn.bad
 |nil x=>simp only[de];unfold dJ;split<;>first|exact cn.ok _|exact cn.bad
 |bin op d BP x y=>exact cn.bin
 |un op x=>simp only[de];unfold mi;split<;>first|exact cn.ok _|exact cn.bad|(split<;>first|exact cn.ok _|exact cn.bad)
 |conv c x=>cases c<;>first|(cases h;done)|(simp only[de];cases ev fr x<;>first|exact cn.ok _|exact cn.bad)
 |Jx n x=>simp only[de];unfold pM;split<;>first|exact cn.bE (cn.ok _) cn.bad|exact cn.bad
 |iface t x=>exact cn.ok _
 |func fn f c=>exact cn.ok _
 |oH x lo hi=>simp only[de];unfold iI;split<;>first|exact cn.bad|(split<;>first|exact cn.ok _|exact cn.bad)
 |rj size x lo hi=>
  simp only[de];unfold aR;split
  .split<;>first|exact cn.ok _|exact cn.bad
  .refine cn.bE ?_ cn.bad
   split
   .exact cn.bE (cn.ok _) (cn.bE (cn.ok _) cn.bad)
   .exact cn.bad
  .exact cn.bad
 |slice3 size x lo hi mx=>
  simp only[de];unfold jd;split
  .split
   .split
    .exact cn.bE (cn.bE (cn.ok _) (cn.ok _)) cn.bad
    .exact cn.bad
   .exact cn.bad
  .split
   .split<;>first|exact cn.ok _|exact cn.bad
   .exact cn.bad
  .exact cn.bad
 |oJ n size x lo hi=>simp only[de];unfold bT;split<;>first|exact cn.bad|(split<;>first|exact cn.bad|exact cn.bE (cn.ok _) (cn.ok _))
 |fieldAddr off x=>simp only[de];unfold al;split<;>first|exact cn.ok _|exact cn.bad
 |field agg off size x=>simp only[de];unfold AB;split<;>first|exact cn.opt cn.bad (λ_=>cn.ok _)|exact cn.bad
 |vL n size x i=>simp only[de];unfold fP;split<;>first|exact cn.bE (cn.ok _) cn.bad|exact cn.bad
 |AT size x i=>simp only[de];unfold cV;split<;>first|exact cn.bE (cn.ok _) cn.bad|exact cn.bad
 |vK x i=>simp only[de];unfold pN;split<;>first|exact cn.bad|(split<;>first|exact cn.ok _|exact cn.bad)
 |vM n size agg x i=>simp only[de];unfold wF;split<;>first|exact cn.bE (cn.opt cn.bad (λ_=>cn.ok _)) cn.bad|exact cn.bad
 |extract x i=>simp only[de];unfold aB;split<;>first|exact cn.opt cn.bad (λ_=>cn.ok _)|exact cn.bad
 |len k x=>cases k<;>first|(cases h;done)|(simp only[de];unfold bt;cases ev fr x<;>first|exact cn.ok _|exact cn.bad|exact cn.bE (cn.ok _) (cn.ok _))
 |sV mx x y=>simp only[de];unfold C0;split<;>first|exact cn.bE (cn.ok _) cn.bad|exact cn.bad
 |build z parts=>simp only[de];unfold aZ;exact cn.opt cn.bad (λ_=>cn.ok _)
 |_=>cases h
abbrev aY:=Nat->List CV->St->(CV->St->Prop)->Prop
def upon (r:OR)(k:CV->St->Prop):Prop:=match r with| .ok v st=>k v st| .bad=>False
def us (r:OR)(k:CV->Prop):Prop:=match r with| .ok v _=>k v| .bad=>False
def br (g:Option Bool)(st:St)(r:OR):OR:=match g with|some true=>r|some false=>.ok .undef st|none=>.bad
def gdW (g:Option Bool)(st:St)(b:Prop)(k:CV->St->Prop):Prop:=match g with|some true=>b|some false=>k .undef st|none=>False
def ao (b:Bool)(v:CV):Option Bool:=match v with| .bool c=>some (bE b c (Bool.not c))| .undef=>some false|_=>none
def fA (C:aY)(f:CV)(args:List CV)(st:St)(k:CV->St->Prop):Prop:=match f with| .func (.func g) first captured=>C g (first++(args++captured)) st k|_=>False
def aC (v:CV)(x y:Prop):Prop:=match v with| .bool true=>x| .bool false=>y|_=>False
def oO:gu:=λ_ _ _=>.bad
def mN (b:Array Oper)(fr:Fr)(c:Nat×Bool):Option Bool:=
 match (b[c.1]?).bind (·.dst)with|none=>some false|some d=>ao c.2 (fH fr d)
def opW (C:aY)(g:Option Bool)(op:CF)(fr:Fr)(st:St)(k:CV->St->Prop):Prop:=
 match op with
 | .call f args=>gdW g st (C f (MB fr args) st k) k
 | .DJ f args=>gdW g st (fA C (ev fr f) (MB fr args) st k) k
 |op=>bif op.still then us (br g st (de oO op fr st)) (λv=>k v st)else upon (br g st (de oO op fr st)) k
def YV (C:aY)(op:CF)(fr:Fr)(st:St)(k:CV->St->Prop):Prop:=
 match op with
 | .call f args=>C f (MB fr args) st k
 | .DJ f args=>fA C (ev fr f) (MB fr args) st k
 |op=>bif op.still then us (de oO op fr st) (λv=>k v st)else upon (de oO op fr st) k
def Ln (P:Program)(C:aY)(b:Array Oper)(o:Oper)(fr:Fr)(st:St)(k:CV->St->Prop):Prop:=
 match mI P o.op with
 |none=>False
 |some op=>match o.guard with
  |none=>YV C op fr st k
  |some c=>opW C (mN b fr c) op fr st k
def YO (n:Nat)(b:Option Tmp)(v:CV)(fr:Fr)(k:Fr->Prop):Prop:=match b with|none=>k fr|some d=>bif Nat.ble (d+1) n then k (fr.put d (some v))else False
def Uz (P:Program)(C:aY)(n:Nat)(b:Array Oper):List Oper->Fr->St->(Fr->St->Prop)->Prop
 |[],fr,st,k=>k fr st
 |o::l,fr,st,k=>Ln P C b o fr st λv st=>YO n o.dst v fr λfr=>Uz P C n b l fr st k
def xU (P:Program)(C:aY)(c:Array Oper)(f:Option Nat)(o:Oper)(fr:Fr)(st:St)(k:CV->St->Prop):Prop:=
 match oP P o,f with
 |none,none=>Ln P C c o fr st k
 |some d,some b=>upon (match o.guard with|none=>jy b d.2 d.1 st|some e=>br (mN c fr e) st (jy b d.2 d.1 st)) k
 |none,some b=>(match lE P o with
  |some x=>upon (match o.guard with
   |none=>fE b x.1 x.2.1 (cH x.2.1 x.2.2.1) (On fr x.2.2.2) st
   |some e=>br (mN c fr e) st (fE b x.1 x.2.1 (cH x.2.1 x.2.2.1) (On fr x.2.2.2) st)) k
  |none=>False)
 |_,_=>False
def DV (P:Program)(C:aY)(n:Nat)(b:Array Oper):List (Oper×Option Nat)->Nat->Nat->Fr->St->(List TR->List St->Fr->St->Prop)->Prop
 |[],_,_,fr,st,k=>k [] [] fr st
 |o::l,i,c,fr,st,k=>xU P C b o.2 o.1 fr st λv st'=>YO n o.1.dst v fr λfr'=>bif ni P o.1
   then DV P C n b l (i+1) (c+1) fr' st' (λd e=>k (⟨i,o.2,o.1,true,c,fr,v,st,st'⟩::d) (st::e))
   else DV P C n b l (i+1) c fr' st' (λd e=>k (⟨i,o.2,o.1,false,c,fr,v,st,st'⟩::d) e)
def cj (b:Bool)(p q:Prop):Prop:=match b with|true=>q|false=>p/\q
abbrev Yr:=Nat×Nat×Oper
def CB (P:Program):List Oper->Nat->Nat->List Yr
 |[],_,_=>[]
 |o::l,i,c=>(i,c,o)::CB P l (i+1) (bif ni P o then c+1 else c)
def IF (P:Program)(o:Oper):Bool:=match oP P o with|some _=>false|none=>match mI P o.op with|some op=>op.bare|none=>false
def noB (P:Program)(a:List Yr):Bool:=CC a λu=>Bool.not (qP P u.2.2)
def Lo (P:Program)(b:Array Oper)(a:List Yr)(i c:Nat)(d:Nat):Bool:=
 Bool.or (Bool.and (noB P a) (Nat.beq d c)) (Bool.or (FG a λu=>Bool.and (ni P u.2.2) (Bool.and (Nat.ble (Nat.succ u.2.1) d) (fM b b.size u.1 i)))
  (FG a λu=>Bool.and (ni P u.2.2) (Bool.and (Nat.ble d u.2.1) (fM b b.size i u.1))))
def reW (P:Program)(b:Array Oper)(t:TR)(s:St):Prop:=xU P (λ_ _ _ _=>False) b t.ab t.o t.fr s λv _=>v=t.v
def UK (P:Program)(b:Array Oper)(a:List Yr)(t:TR):Nat->List St->Prop
 |_,[]=>True
 |c',s::r=>cj (Lo P b a t.i t.c c') (reW P b t s) (UK P b a t (c'+1) r)
def Qj (P:Program)(c:Array Oper)(a:List Yr)(b:List St):List TR->Prop
 |[]=>True
 |t::r=>(match Bool.or (qP P t.o) (Bool.or (ni P t.o) (IF P t.o))with|true=>Qj P c a b r|false=>UK P c a t 0 b/\Qj P c a b r)
def LF (P:Program)(c:Array Oper)(b:Nat)(j:Nat):List TR->List St->Prop
 |[],_=>True
 |u::r,chain=>cj (Bool.or (Bool.not (ni P u.o)) (Bool.or (fM c c.size u.i j) (fM c c.size j u.i)))
   (match Nat.ble (u.i+1) j with|true=>u.s.m.g b=none|false=>u.s1.m.g b=u.s.m.g b) (LF P c b j r chain)
def Ql (P:Program)(d:Array Oper)(e:List TR)(c:List St):List TR->Prop
 |[]=>True
 |t::r=>(match qP P t.o with|false=>Ql P d e c r|true=>(match t.ab with|some b=>LF P d b t.i e c|none=>True)/\Ql P d e c r)
def Sj (P:Program)(C:aY)(n:Nat)(b:Array Oper)(fr:Fr)(st:St)(k:Fr->St->Prop):Prop:=
 Pw P b=true/\JM P b.toList st λf e=>DV P C n b (b.toList.zip f) 0 0 fr e λc d fr' st'=>
  Qj P b (CB P b.toList 0 0) (d++[st']) c/\Ql P b c (d++[st']) c/\k fr' st'
def dX (k:List CV->St->Prop)(b:(List CV->St->Prop)->Prop):Prop:=b k
def Hj (b:List CV->St->(List CV->St->Prop)->Prop):Nat->List CV->St->Prop
 |0,_,_=>False
 |m+1,vs,st=>b vs st (Hj b m)
def df (b:List CV->St->(List CV->St->Prop)->Prop)(c:List CV)(st:St):Prop:=∃m,Hj b m c st
def KN (fr:Fr)(c:Operand)(x y:Prop):Prop:=match fh c with|some c=>aC (ev fr c) x y|none=>False
def jn (P:Program)(C:aY)(lv:Nat->Option (List Nat))(n:Nat):Code->Fr->St->(Fr->St->Prop)->(Nat->Fr->St->Prop)->(Fr->St->Prop)->Prop
 | .skip,fr,st,b,_,_=>b fr st
 | .region _ ops draw,fr,st,b,_,_=>bif draw then Sj P C n ops fr st b else Uz P C n ops ops.toList fr st b
 | .seq x y,fr,st,b,d,kr=>(match lv (Jd y)with
   |none=>jn P C lv n x fr st (λfr st=>jn P C lv n y fr st b d kr) d kr
   |some L=>dX (λe st=>jn P C lv n y (LK L e) st b d kr) λk=>jn P C lv n x fr st (λfr st=>k (L.map (fH fr)) st) d kr)
 | .cond c x y,fr,st,b,d,kr=>KN fr c (jn P C lv n x fr st b d kr) (jn P C lv n y fr st b d kr)
 | .block id x,fr,st,b,d,kr=>jn P C lv n x fr st b (λi fr st=>bif Nat.beq i id then b fr st else d i fr st) kr
 | .loop x,fr,st,_,d,kr=>(match lv (Jd x)with
   |none=>False
   |some L=>df (λe st next=>jn P C lv n x (LK L e) st (λfr st=>next (L.map (fH fr)) st) d kr) (L.map (fH fr)) st)
 | .exit id,fr,st,_,d,_=>d id fr st
 | .scope x,fr,st,b,d,kr=>jn P C lv n x fr st b d kr
 | .label _,fr,st,b,_,_=>b fr st
 | .ret,fr,st,_,_,kr=>kr fr st
 |_,_,_,_,_,_=>False
def Am (P:Program)(fr:Fr)(st:St):List ResultVar->(List CV->Prop)->Prop
 |[],k=>k []
 | .tmp t::l,k=>Am P fr st l λb=>k (fH fr t::b)
 | .cell a t::l,k=>(match P.underlying t,P.info? t with
   |some u,some i=>us (bif iO u then aJ i.size (fH fr a) st else aA (fH fr a) st) λv=>Am P fr st l λb=>k (v::b)
   |_,_=>False)
def Uo (P:Program)(fr:Fr)(st:St)(l:List ResultVar)(Q:CV->St->Prop):Prop:=
 Am P fr st l λb=>match b with|[]=>Q .undef st|[v]=>Q v st|v::u::b=>Q (.tuple (v::u::b)) st
def aN (P:Program)(C:aY)(lv:Nat->Option (List Nat))(f:Nat)(args:List CV)(st:St)(Q:CV->St->Prop):Prop:=
 match iq P f,P.funcs[f]? with
 |true,some fn=>(match fn.body with
  |some c=>jn P C lv fn.ntmps c (rK args) st (λfr st=>Uo P fr st fn.results.toList Q) (λ_ _ _=>False) (λfr st=>Uo P fr st fn.results.toList Q)
  |none=>False)
 |_,_=>False
abbrev zr (n:Nat):List CV:=List.replicate n (.int .u8 0)
def ay:Nat->List CV->CV
 |0,vs=>vs.headD .any
 |i+1,vs=>ay i (vs.drop 1)
def gM (t:TypeId)(x:CV)(st:St):OR:=bE x.isAny .bad (dp t x.cK st)
def St.skip (st:St):St:=⟨st.m,st.nx+1⟩
def gK (g:Option Bool)(st:St)(y:(CV->St->Prop)->Prop)(k:CV->St->Prop):Prop:=gdW g st (y k) k
def ck (p:Prop):Prop:=(true=true)/\p
def eQ (off:Nat)(p:CV)(st:St)(k:CV->Prop):Prop:=us (dJ p st) λp=>us (al off p st) λa=>us (aA a st) k
def sy (c b:Nat)(p:CV)(st:St)(k:CV->Prop):Prop:=us (dJ p st) λp=>us (al c p st) λa=>us (al b a st) λa=>us (aA a st) k
def jV (g:Option Bool)(off:Nat)(p:CV)(st:St)(k:CV->Prop):Prop:=us (br g st (dJ p st)) λp=>us (br g st (al off p st)) λa=>us (br g st (aA a st)) k
def zx (n off:Nat)(p:CV)(st:St)(k:CV->Prop):Prop:=us (dJ p st) λp=>us (al off p st) λa=>us (aJ n a st) k
def mc (n off:Nat)(p x:CV)(st:St)(k:St->Prop):Prop:=us (dJ p st) λp=>us (al off p st) λa=>upon (aQ n a x st) λ_ s=>k s
def BU (n c b:Nat)(p x:CV)(st:St)(k:St->Prop):Prop:=us (dJ p st) λp=>us (al c p st) λa=>us (al b a st) λa=>upon (aQ n a x st) λ_ s=>k s
def fl (off:Nat)(p:CV)(st:St)(k:CV->Prop):Prop:=us (al off p st) λa=>us (aA a st) k
def iy (g:Option Bool)(off:Nat)(p:CV)(st:St)(k:CV->Prop):Prop:=us (br g st (al off p st)) λa=>us (br g st (aA a st)) k
def OZ (n off:Nat)(p:CV)(st:St)(k:CV->Prop):Prop:=us (al off p st) λa=>us (aJ n a st) k
def fst (n off:Nat)(p x:CV)(st:St)(k:St->Prop):Prop:=us (al off p st) λa=>upon (aQ n a x st) λ_ s=>k s
def idx (size:Nat)(x i:CV)(st:St)(k:CV->Prop):Prop:=us (cV size x i st) λa=>us (aA a st) k
def AU (g:Option Bool)(size:Nat)(x i:CV)(st:St)(k:CV->Prop):Prop:=us (br g st (cV size x i st)) λa=>us (br g st (aA a st)) k
def gU (n size:Nat)(x i:CV)(st:St)(k:CV->Prop):Prop:=us (cV size x i st) λa=>us (aJ n a st) k
def Hw (n size:Nat)(x i y:CV)(st:St)(k:St->Prop):Prop:=us (cV size x i st) λa=>upon (aQ n a y st) λ_ s=>k s
def Vb (size off:Nat)(x i:CV)(st:St)(k:CV->Prop):Prop:=us (cV size x i st) λa=>us (al off a st) λa=>us (aA a st) k
def jl (g:Option Bool)(size off:Nat)(x i:CV)(st:St)(k:CV->Prop):Prop:=us (br g st (cV size x i st)) λa=>us (br g st (al off a st)) λa=>us (br g st (aA a st)) k
def Xh (n size off:Nat)(x i:CV)(st:St)(k:CV->Prop):Prop:=us (cV size x i st) λa=>us (al off a st) λa=>us (aJ n a st) k
end
section
variable {f:Nat}{st:St}{Q:CV->St->Prop}{r:OR}{k:CV->St->Prop}{F:Nat->OR}{op:CF}{fr:Fr}{g:Option Bool}{ops:Array Oper}{o:Oper}{call:gu}{n:Nat}{v:CV}{ab:Option Nat}{s1:St}{a:List Yr}{chain:List St}
section
variable (P:Program) (lvs:Nat->Nat->Option (List Nat)) (I:zd)
def RF (n:Nat):gu:=BY P (fF P) lvs I n
def qt (f:Nat)(args:List CV)(st:St)(Q:CV->St->Prop):Prop:=∃v st',(∃N,∀n,N<=n->RF P lvs I n f args st=.ok v st')/\Q v st'
end
def IX (F:Nat->OR)(k:CV->St->Prop):Prop:=∃v st',(∃N,∀n,N<=n->F n=.ok v st')/\k v st'
section
variable {P:Program} {lvs:Nat->Nat->Option (List Nat)} {I:zd}
def qt.mono {args:List CV}{b:CV->St->Prop}(h:qt P lvs I f args st Q)(c:∀v st',Q v st'->b v st'):qt P lvs I f args st b:=by
 obtain⟨v,st',e,d⟩:=h;exact⟨v,st',e,c _ _ d⟩
def IX.const (h:upon r k)(b:∀n,F n=r):IX F k:=by
 cases r with
 |ok v st=>exact⟨v,st,⟨0,λn _=>b n⟩,h⟩
 |bad=>exact h.elim
def Le (b:Still st r)(h:us r λv=>k v st):upon r k:=by
 cases r with
 |ok v s=>have:=b.eq v s rfl;subst this;exact h
 |bad=>exact h
def DI {f:CV}{args:List CV}(h:fA (qt P lvs I) f args st k):IX (λn=>yc (RF P lvs I n) f args st) k:=by
 unfold fA at h
 split at h
 .exact h
 .exact h.elim
def rl (call:gu)(op:CF)(fr:Fr)(st:St)(c:∀f args,op≠ .call f args)(b:∀f args,op≠ .DJ f args):de call op fr st=de oO op fr st:=by
 cases op<;>first|rfl|exact absurd rfl (c _ _)|exact absurd rfl (b _ _)
def UA (h:YV (qt P lvs I) op fr st k):IX (λn=>de (RF P lvs I n) op fr st) k:=by
 unfold YV at h
 split at h
 .exact h
 .exact DI h
 .rename_i h1 h2
  have b:upon (de oO op fr st) k:=by
   cases hs:op.still with
   |true=>rw[hs]at h;exact Le (sN hs) h
   |false=>rw[hs]at h;exact h
  exact IX.const b λn=>rl _ _ _ _ (λf a e=>h1 f a e) (λf a e=>h2 f a e)
def IX.gd {c:Prop}(h:gdW g st c k)(d:c->IX F k):IX (λn=>br g st (F n)) k:=by
 cases g with
 |none=>exact h.elim
 |some b=>cases b with
  |true=>exact d h
  |false=>exact⟨_,_,⟨0,λn _=>rfl⟩,h⟩
def YU (h:opW (qt P lvs I) g op fr st k):IX (λn=>br g st (de (RF P lvs I n) op fr st)) k:=by
 unfold opW at h
 split at h
 .exact IX.gd h λh=>h
 .exact IX.gd h λh=>DI h
 .rename_i h1 h2
  have c:upon (br g st (de oO op fr st)) k:=by
   cases hs:op.still with
   |true=>
    rw[hs]at h;refine Le ?_ h;cases g with
    |none=>exact Still.bad
    |some b=>cases b with
     |true=>exact sN hs
     |false=>exact Still.ok _
   |false=>rw[hs]at h;exact h
  refine IX.const c λn=>?_;rw[rl _ _ _ _ (λf a e=>h1 f a e) (λf a e=>h2 f a e)]
def Bc {b:Nat×Bool}(h:o.guard=some b):fN ops fr o=mN ops fr b:=by
 unfold fN mN;rw[h];dsimp only;cases (ops[b.1]?).bind (·.dst)with
 |none=>rfl
 |some d=>dsimp only;cases fH fr d<;>rfl
def Pv (d:mI P o.op=some op):mR P call ops o fr st=match o.guard with|none=>de call op fr st|some c=>br (mN ops fr c) st (de call op fr st):=by
 unfold mR;cases hg:o.guard with
 |none=>
  have:fN ops fr o=some true:=by unfold fN;rw[hg]
  rw[this,d]
 |some c=>
  rw[Bc hg,d];dsimp only;cases mN ops fr c with
  |none=>rfl
  |some b=>cases b<;>rfl
def Gp (h:Ln P (qt P lvs I) ops o fr st k):IX (λn=>mR P (RF P lvs I n) ops o fr st) k:=by
 unfold Ln at h;cases b:mI P o.op with
 |none=>rw[b]at h;exact h.elim
 |some op=>
  rw[b]at h;dsimp only at h;have e:(λn=>mR P (RF P lvs I n) ops o fr st)=λn=>(match o.guard with|none=>de (RF P lvs I n) op fr st|some c=>br (mN ops fr c) st (de (RF P lvs I n) op fr st)):=funext λn=>Pv b;rw[e];cases hg:o.guard with
  |none=>rw[hg]at h;exact UA h
  |some c=>rw[hg]at h;exact YU h
def GO {b:Option Tmp}{k:Fr->Prop}(h:YO n b v fr k):∃fr',GQ n b v fr=some fr'/\k fr':=by
 cases b with
 |none=>exact⟨fr,rfl,h⟩
 |some d=>
  have c:(bif Nat.ble (d+1) n then k (fr.put d (some v))else False):=h;cases hb:Nat.ble (d+1) n with
  |false=>rw[hb]at c;exact c.elim
  |true=>
   rw[hb]at c;refine⟨_,?_,c⟩;unfold GQ;simp only[dH,aO];rw[aHP hb]
def Uy :∀{l:List Oper} {fr:Fr} {st:St} {k:Fr->St->Prop},Uz P (qt P lvs I) n ops l fr st k->
 ∃fr' st',(∃N,∀m,N<=m->qd P (RF P lvs I m) n ops l fr st=.norm fr' st')/\k fr' st':=by
 intro l
 induction l with
 |nil=>intro fr st k h;exact⟨fr,st,⟨0,λ_ _=>rfl⟩,h⟩
 |cons o l j=>
  intro fr st k h;obtain⟨v,A,⟨N,q⟩,w⟩:=Gp h;obtain⟨y,i,u⟩:=GO w;obtain⟨fr',st',⟨x,b⟩,s⟩:=j u;refine⟨fr',st',⟨max N x,λm z=>?_⟩,s⟩;have c:=q m uM;dsimp only at c;rw[yH,c];dsimp only;rcases CT i with⟨e,rfl⟩|⟨d,e,p,rfl⟩
  .rw[e];exact b m uM
  .rw[e];dsimp only;rw[aHP p];exact b m uM
def CK (h:xU P (qt P lvs I) ops ab o fr st k):IX (λn=>ig P (RF P lvs I n) ops ab o fr st) k:=by
 have c:∀(r:OR),upon (match o.guard with|none=>r|some d=>br (mN ops fr d) st r) k->IX (λ_=>(match fN ops fr o with|some true=>r|some false=>.ok .undef st|none=>.bad)) k:=by
  intro r e;refine IX.const e λn=>?_;cases hg:o.guard with
  |none=>
   have:fN ops fr o=some true:=by unfold fN;rw[hg]
   rw[this]
  |some d=>
   rw[Bc hg];dsimp only;cases mN ops fr d with
   |none=>rfl
   |some b=>cases b<;>rfl
 unfold xU at h;unfold ig
 split at h
 .rename_i h1;rw[h1];exact Gp h
 .rename_i i b h1;rw[h1];exact c _ h
 .rename_i b h1;rw[h1];dsimp only
  split at h
  .rename_i x hx;rw[hx];exact c _ h
  .exact h.elim
 .exact h.elim
def Jn (h:xU P (λ_ _ _ _=>False) ops ab o fr st k):IX (λ_=>ig P oO ops ab o fr st) k:=by
 have d:xU P (qt P (λ_ _=>none) (λ_ _ _=>some .bad)) ops ab o fr st k:=by
  have e:(qt P (λ_ _=>none) (λ_ _ _=>some OR.bad))=λ_ _ _ _=>False:=by
   funext f args st k
   refine propext ⟨?_,λh=>h.elim⟩;rintro⟨v,st',⟨N,b⟩,_⟩;have:=b (N+1) uM;unfold RF at this;simp only[BY]at this;cases this
  rw[e];exact h
 obtain⟨v,s1,⟨N,b⟩,c⟩:=CK d;refine⟨v,s1,⟨0,λ_ _=>?_⟩,c⟩
 have e:∀n,RF P (λ_ _=>none) (λ_ _ _=>some OR.bad) n=oO:=by
  intro n
  funext f args st
  cases n with
  |zero=>rfl
  |succ n=>unfold RF;simp only[BY];rfl
 have:=b N (aHK _);dsimp only at this;rw[e]at this;exact this
def MW :∀{l:List (Oper×Option Nat)} {i c:Nat} {fr:Fr} {st:St} {k:List TR->List St->Fr->St->Prop},DV P (qt P lvs I) n ops l i c fr st k->
 ∃p q fr' st',(∃N,∀m,N<=m->rZ P (RF P lvs I m) n ops l i c fr st=some (p,q,fr',st'))/\k p q fr' st':=by
 intro l
 induction l with
 |nil=>intro i c fr st k h;exact⟨[],[],fr,st,⟨0,λ_ _=>rfl⟩,h⟩
 |cons o l x=>
  intro i c fr st k h;obtain⟨v,C,⟨N,y⟩,A⟩:=CK h;obtain⟨B,w,j⟩:=GO A
  have e:∀call,rZ P call n ops (o::l) i c fr st=OR.rec (λv st'=>pT v λv=>pT st' λst'=>
   Option.rec none (λfr'=>bE (ni P o.1)
    (Option.rec none (λr=>some (⟨i,o.2,o.1,true,c,fr,v,st,st'⟩::r.1,st::r.2.1,r.2.2)) (rZ P call n ops l (Nat.succ i) (Nat.succ c) fr' st'))
    (Option.rec none (λr=>some (⟨i,o.2,o.1,false,c,fr,v,st,st'⟩::r.1,r.2.1,r.2.2)) (rZ P call n ops l (Nat.succ i) c fr' st'))) (GQ n o.1.dst v fr)) none (ig P call ops o.2 o.1 fr st):=λ_=>rfl
  cases hw:ni P o.1 with
  |true=>
   rw[hw]at j;obtain⟨p,q,fr',st',⟨u,b⟩,s⟩:=x j;refine⟨_,_,fr',st',⟨max N u,λm z=>?_⟩,s⟩;have d:=y m uM;dsimp only at d;rw[e,d];simp only[dH,w,aO,hw,aIj];rw[b m uM]
  |false=>
   rw[hw]at j;obtain⟨p,q,fr',st',⟨u,b⟩,s⟩:=x j;refine⟨_,_,fr',st',⟨max N u,λm z=>?_⟩,s⟩;have d:=y m uM;dsimp only at d;rw[e,d];simp only[dH,w,aO,hw,aHH,aHV];rw[b m uM]
def D9 (d:ni P o=false)(h:ig P oO ops ab o fr st=.ok v s1):ig P call ops ab o fr st=.ok v s1:=by
 unfold ig at h⊢
 split at h
 .unfold mR at h⊢
  split at h
  .rename_i c
   try rw[c]
   split at h
   .rename_i op i;rw[rl call op]
    .exact h
    .intro f args e;subst e;cases h
    .intro f args e;subst e;have b:yc oO (ev fr f) (MB fr args) st=.ok v s1:=h;unfold yc at b
     split at b<;>cases b
   .cases h
  .exact h
  .cases h
 .exact h
 .exact h
 .cases h
def Jm (c:IF P o=true)(d:qP P o=false)(h:ig P call ops ab o fr st=.ok v s1)(s:St):∃s2,ig P call ops ab o fr s=.ok v s2:=by
 have e:lE P o=none:=by
  unfold qP at d;cases e:lE P o with
  |none=>rfl
  |some x=>rw[e]at d;cases d
 unfold IF at c;unfold ig at h⊢;cases hn:oP P o with
 |some j=>rw[hn]at c;cases c
 |none=>
  rw[hn]at c h;dsimp only at c h;cases ab with
  |some b=>dsimp only at h;rw[e]at h;cases h
  |none=>
   dsimp only at h⊢;unfold mR at h⊢;cases hw:fN ops fr o with
   |none=>rw[hw]at h;cases h
   |some b=>
    rw[hw]at h;cases b with
    |false=>cases h;exact⟨_,rfl⟩
    |true=>
     dsimp only at h⊢;cases i:mI P o.op with
     |none=>rw[i]at h;cases h
     |some op=>
      rw[i]at h c;exact(JD c).eq _ _ h
def MN (P:Program):∀(l:List Oper) (i c k:Nat) (o:Oper),l[k]?=some o->(CB P l i c)[k]?=some (i+k,c+ef P l k,o):=by
 intro l
 induction l with
 |nil=>intro i c k o h;simp at h
 |cons b l d=>
  intro i c k o h;cases k with
  |zero=>simp at h;subst h;rfl
  |succ k=>
   show(CB P l (i+1) (bif ni P b then c+1 else c))[k]?=_;rw[d _ _ k o TK,xm];cases ni P b<;>simp<;>omega
def IJ (P:Program):∀(l:List Oper) (i c:Nat),(CB P l i c).length=l.length:=by
 intro l
 induction l with
 |nil=>intro i c;rfl
 |cons o l b=>intro i c;show(CB P l _ _).length+1=_;rw[b];rfl
def SJ {l:List Oper}{x:Yr}(h:x∈CB P l 0 0):∃o,l[x.1]?=some o/\x=(x.1,ef P l x.1,o):=by
 obtain⟨k,b,rfl⟩:=aIM h;rw[IJ]at b;have h1:=MN P l 0 0 k l[k] (aHO b);rw[aHO (by rw[IJ];exact b)]at h1;have h2:=aJX h1;rw[h2];simp only[aHN];exact⟨l[k],aHO b,rfl⟩
def abj {p:List (Option Nat)}{e:List TR}{A:List St}{E i d:St}{D C:Fr}(z:vd P ops.toList E p i)(l:IQ (ops.toList.zip p) P call n ops 0 0 D i e A C d)(q:∀(j:Nat) (o:Oper),ops.toList[j]?=some o->qP P o=false){k:Nat}:
 ∀{k':Nat},k<=k'->k'<=ops.toList.length->(∀(j:Nat) (o:Oper),k<=j->j<k'->ops.toList[j]?=some o->ni P o=false)->lP e d k'=lP e d k:=by
 intro k'
 induction k' with
 |zero=>intro h _ _;have:k=0:=by omega
        subst this;rfl
 |succ k' s=>
  intro h G m
  by_cases w:k=k'+1
  .subst w;rfl
  have u:=s uM uM (λj o c x=>m j o c uM);have b:ops.toList[k']?=some ops.toList[k']:=aHO uM;generalize ops.toList[k']=o at b;obtain⟨t,ab,c,x,O,N,M,L,K,J,H,B,y⟩:=nH z l b;rw[<-l.qY k' t c,<-u,sH (m k' o uM uM b) (q k' o b) B];unfold lP;rw[c]
def Sx {b:Bool}{p q:Prop}(h:cj b p q):q/\(b=false->p):=by
 cases b with
 |true=>exact⟨h,λe=>by cases e⟩
 |false=>exact⟨h.2,λ_=>h.1⟩
def UJ {t:TR}:∀{chain:List St} {b:Nat},UK P ops a t b chain->∀(j:Nat) (s:St),chain[j]?=some s->Lo P ops a t.i t.c (b+j)=false->reW P ops t s:=by
 intro chain
 induction chain with
 |nil=>intro b _ j s h;simp at h
 |cons p r e=>
  intro b h j s hj d;obtain⟨m,l⟩:=Sx (show cj _ _ _ from h);cases j with
  |zero=>simp at hj;subst hj;exact l d
  |succ j=>exact e m j s adn (by rw[show b+1+j=b+(j+1) from uM];exact d)
def UH :∀{c:List TR},Qj P ops a chain c->∀t∈c,qP P t.o=false->ni P t.o=false->IF P t.o=false->UK P ops a t 0 chain:=by
 intro c
 induction c with
 |nil=>intro _ t h;cases h
 |cons t0 r j=>
  intro h t b i e d;simp only[Qj]at h;rcases aHJ.1 b with rfl|b
  .rw[i,e,d]at h;exact h.1
  .split at h
   .exact j h t b i e d
   .exact j h.2 t b i e d
def Qk {b j:Nat}:∀{d:List TR},LF P ops b j d chain->∀u∈d,ni P u.o=true->fM ops ops.size u.i j=false->fM ops ops.size j u.i=false->
 (u.i<j->u.s.m.g b=none)/\(j<u.i->u.s1.m.g b=u.s.m.g b):=by
 intro d
 induction d with
 |nil=>intro _ t h;cases h
 |cons t0 r y=>
  intro h t e q p l;obtain⟨x,w⟩:=Sx (show cj _ _ _ from h);rcases aHJ.1 e with rfl|e
  .have:=w (by rw[q,p,l];rfl);constructor
   .intro c;rw[show Nat.ble (t.i+1) j=true by rw[aIr];exact c]at this;exact this
   .intro c;rw[show Nat.ble (t.i+1) j=false by cases hb:Nat.ble (t.i+1) j with|false=>rfl|true=>rw[aIr]at hb;omega]at this;exact this
  .exact y x t e q p l
def UI {c:List TR}:∀{e:List TR},Ql P ops c chain e->∀t∈e,qP P t.o=true->∀b,t.ab=some b->LF P ops b t.i c chain:=by
 intro e
 induction e with
 |nil=>intro _ t h;cases h
 |cons t0 r m=>
  intro h t d l b j;simp only[Ql]at h;rcases aHJ.1 d with rfl|d
  .rw[l]at h;have:=h.1;rw[j]at this;exact this
  .split at h
   .exact m h t d l b j
   .exact m h.2 t d l b j
def Si {k:Fr->St->Prop}(h:Sj P (qt P lvs I) n ops fr st k):
 ∃fr' st',(∃N,∀m,N<=m->fF P (RF P lvs I m) n ops fr st=.norm fr' st')/\k fr' st':=by
 obtain⟨ae,h⟩:=h;have M:=Jo ae;obtain⟨as,hO,dz,hk⟩:=Lw (P:=P) ops.toList st;rw[hk]at h;obtain⟨eY,ch,fr',st',⟨N,hN⟩,hR,hL,Ff⟩:=MW h;refine⟨fr',st',⟨N,λm hm=>?_⟩,Ff⟩;have QQ:=hN m hm;unfold fF;rw[hk,QQ];dsimp only;have E8:(ops.toList.zip as).map (·.1)=ops.toList:=List.map_fst_zip ach;have l:=Gf QQ (by rw[E8];exact M.s3)
 have ad:∀(i:Nat) (o:Oper),ops.toList[i]?=some o->(i,ef P ops.toList i,o)∈CB P ops.toList 0 0:=λi o q=>by
  have:=MN P ops.toList 0 0 i o q;simp only[aHN]at this;exact aII this
 rw[aHP];refine⟨M,?_,?_⟩
 .intro i t W K L c s hc;have q:=yC dz l W;obtain⟨t',ab,g1,uZ,g2,g3,g4,g5,g6,g7,g8,Mz,ah⟩:=nH dz l q;rw[W]at g1;cases g1
  have V:∀u∈CB P ops.toList 0 0,ni P u.2.2=true->∃p∈eY,p.w=true/\p.c=u.2.1/\p.i=u.1:=by
   intro u V aa;obtain⟨ou,ho,e⟩:=SJ V;obtain⟨p,_,J,_,x,U,T,k5,k6,_⟩:=nH dz l ho;have e2:u.2.2=ou:=by rw[e]
   have e3:u.2.1=ef P ops.toList u.1:=by rw[e]
   exact⟨p,aII J,by rw[k5,<-e2];exact aa,by rw[k6,e3],x⟩
  cases XS:IF P t.o with
  |true=>exact .inr (.inr (by rw[g3];exact Jm XS L Mz s))
  |false=>
   cases E:Lo P ops (CB P ops.toList 0 0) t.i t.c c with
   |true=>
    unfold Lo at E;simp only[aIK,aIf,aIs,Bs]at E;rcases E with⟨HH,E⟩|⟨u,z,Zz,D⟩|⟨u,z,Zz,D⟩
    .have so:=λj o R=>by
      unfold noB at HH;rw[pj]at HH;have:=HH _ (ad j o R)
      simpa using this
     have FW:=(aHW.1 q).1;obtain⟨x,n1,n2,n3,n4,S,n6⟩:=wO dz l (ops.toList.length-i) i uM;have e6:=abj dz l so n1 n2 n3;have e7:lP eY st' i=t.s:=by unfold lP;rw[W]
     rw[E,g6,S]at hc;cases hc;refine .inr (.inr ⟨t.s1,?_⟩);rw[e6,e7,g3];exact Mz
    .simp only[aIr]at D;obtain⟨p,J,x,U,T⟩:=V u z Zz;exact .inl ⟨p,J,x,by rw[U];exact D.1,by rw[T];exact D.2⟩
    .simp only[aIr]at D;obtain⟨p,J,x,U,T⟩:=V u z Zz;exact .inr (.inl ⟨p,J,x,by rw[U];exact D.1,by rw[T];exact D.2⟩)
   |false=>
    refine .inr (.inr ?_);have h1:=UJ (UH hR t (aII W) L K XS) c s hc (by rw[aHN];exact E);obtain⟨v,s1,⟨N1,TB⟩,hv⟩:=Jn h1;subst hv;exact⟨s1,D9 K (TB N1 (aHK _))⟩
 .intro j tj b R ac O d G hd C a1 a2;have Tr:=yC dz l R;have A:=yC dz l hd;obtain⟨af,_,m1,m5,m2,m3,_,_,m4,_⟩:=nH dz l Tr;rw[R]at m1;cases m1;obtain⟨ag,_,p1,_,Y,_,p3,_,p4,_,_,_,Z⟩:=nH dz l A;rw[hd]at p1;cases p1
  have hb:tj.ab=some b:=by
   rw[O]at m5;have:=aJX m5;rw[m3,<-this]
  have h1:=Qk (UI hL tj (aII R) ac b hb) G (aII hd) C (by rw[Y,m2];exact a1) (by rw[Y,m2];exact a2);rw[Y,m2]at h1;have e1:=Z C;rw[<-p4]at e1;constructor
  .intro B s hs;rw[e1]at hs;cases hs;exact h1.1 B
  .intro B s s' hs uF;rw[e1]at hs;cases hs;have e2:(ch++[st'])[G.c+1]?=some G.s1\/True:=.inr trivial;obtain⟨x,n1,n2,n3,n4,S,n6⟩:=wO dz l (ops.toList.length-(d+1)) (d+1) (by have:=(aHW.1 A).1;omega);have e3:ef P ops.toList (d+1)=G.c+1:=by rw[oZ A,C,p4];rfl
   rw[e3]at S;rw[S]at uF;cases uF;obtain⟨q1,q2⟩:=gap dz l n1 n2 n3;have e4:=(l.qY d G hd).symm
   by_cases iS:∃y H,d+1<=y/\y<x/\eY[y]?=some H/\qP P H.o=true/\as[y]?=some (some b)
   .exfalso;obtain⟨y,H,r1,r2,r3,r4,X⟩:=iS;have:=dz.uniq j y b O X;omega
   .rw[q2 b (λy H r1 r2 r3 r4 X=>iS ⟨y,H,r1,r2,r3,r4,X⟩),e4];exact h1.2 B
def KR (c:Fr->St->Prop)(d:Nat->Fr->St->Prop)(b:Fr->St->Prop):Rs->Prop
 | .norm fr st=>c fr st
 | .exit i fr st=>d i fr st
 | .ret fr st=>b fr st
 | .bad=>False
def Sv {lv:Nat->Option (List Nat)}(c:Code):∀{fr:Fr} {st:St} {d:Fr->St->Prop} {b:Nat->Fr->St->Prop} {kr:Fr->St->Prop},jn P (qt P lvs I) lv n c fr st d b kr->
 ∃r,(∃N,∀m,N<=m->mj P (RF P lvs I m) (fF P) lv m n c fr st=r)/\KR d b kr r:=by
 induction c with
 |skip=>intro fr st d b kr h;exact⟨.norm fr st,⟨0,λ_ _=>rfl⟩,h⟩
 |region id ops draw=>
  intro fr st d b kr h;cases draw with
  |true=>
   obtain⟨fr',st',⟨N,hN⟩,E⟩:=Si (show Sj P (qt P lvs I) n ops fr st d from h);exact⟨.norm fr' st',⟨N,λm hm=>hN m hm⟩,E⟩
  |false=>
   obtain⟨fr',st',⟨N,hN⟩,E⟩:=Uy (show Uz P (qt P lvs I) n ops ops.toList fr st d from h);exact⟨.norm fr' st',⟨N,λm hm=>hN m hm⟩,E⟩
 |seq x y hx C=>
  intro fr st d b kr h
  have z:jn P (qt P lvs I) lv n x fr st (λfr st=>jn P (qt P lvs I) lv n y (yx (lv (Jd y)) fr) st d b kr) b kr:=by
   have q:(match lv (Jd y)with
    |none=>jn P (qt P lvs I) lv n x fr st (λfr st=>jn P (qt P lvs I) lv n y fr st d b kr) b kr
    |some L=>dX (λw st=>jn P (qt P lvs I) lv n y (LK L w) st d b kr) λk=>jn P (qt P lvs I) lv n x fr st (λfr st=>k (L.map (fH fr)) st) b kr):=h
   cases hl:lv (Jd y)with
   |none=>rw[hl]at q;exact q
   |some L=>rw[hl]at q;exact q
  obtain⟨r,⟨N,hN⟩,p⟩:=hx z;cases r with
  |norm s hO=>
   obtain⟨B,⟨G,A⟩,H⟩:=C (show jn P (qt P lvs I) lv n y (yx (lv (Jd y)) s) hO d b kr from p);refine⟨B,⟨max N G,λm hm=>?_⟩,H⟩;show uN (mj P (RF P lvs I m) (fF P) lv m n x fr st) _=B;rw[hN m uM];exact A m uM
  |exit i s hO=>
   refine⟨.exit i s hO,⟨N,λm hm=>?_⟩,p⟩;show uN (mj P (RF P lvs I m) (fF P) lv m n x fr st) _=_;rw[hN m hm];rfl
  |ret s hO=>
   refine⟨.ret s hO,⟨N,λm hm=>?_⟩,p⟩;show uN (mj P (RF P lvs I m) (fF P) lv m n x fr st) _=_;rw[hN m hm];rfl
  |bad=>exact(show False from p).elim
 |cond c x y hx C=>
  intro fr st d b kr h;have q:KN fr c (jn P (qt P lvs I) lv n x fr st d b kr) (jn P (qt P lvs I) lv n y fr st d b kr):=h;have e:∀m,mj P (RF P lvs I m) (fF P) lv m n (.cond c x y) fr st=DG c (mj P (RF P lvs I m) (fF P) lv m n x) (mj P (RF P lvs I m) (fF P) lv m n y) fr st:=λ_=>rfl;unfold KN at q;cases hc:fh c with
  |none=>rw[hc]at q;exact q.elim
  |some a=>
   rw[hc]at q;dsimp only at q;unfold aC at q
   split at q
   .rename_i hv;obtain⟨r,⟨N,hN⟩,p⟩:=hx q;exact⟨r,⟨N,λm hm=>acq⟩,p⟩
   .rename_i hv;obtain⟨r,⟨N,hN⟩,p⟩:=C q;exact⟨r,⟨N,λm hm=>acq⟩,p⟩
   .exact q.elim
 |block id x hx=>
  intro fr st d b kr h;obtain⟨r,⟨N,hN⟩,p⟩:=hx (show jn P (qt P lvs I) lv n x fr st d (λi fr st=>bif Nat.beq i id then d fr st else b i fr st) kr from h);refine⟨sY id r,⟨N,λm hm=>?_⟩,?_⟩
  .show sY id (mj P (RF P lvs I m) (fF P) lv m n x fr st)=_;rw[hN m hm]
  .cases r with
   |norm s hO=>exact p
   |ret s hO=>exact p
   |bad=>exact p
   |exit i s hO=>
    have D:(bif Nat.beq i id then d s hO else b i s hO):=p;show KR d b kr (bE (Nat.beq i id) (.norm s hO) (.exit i s hO));cases hb:Nat.beq i id with
    |true=>rw[hb]at D;exact D
    |false=>rw[hb]at D;exact D
 |loop x hx=>
  intro fr st d b kr h
  have q:(match lv (Jd x)with
   |none=>False
   |some L=>df (λw st next=>jn P (qt P lvs I) lv n x (LK L w) st (λfr st=>next (L.map (fH fr)) st) b kr) (L.map (fH fr)) st):=h
  cases hl:lv (Jd x)with
  |none=>rw[hl]at q;exact q.elim
  |some L=>
   rw[hl]at q;obtain⟨u,M⟩:=q
   have z:∀(u:Nat) (fr:Fr) (st:St),Hj (λw st next=>jn P (qt P lvs I) lv n x (LK L w) st (λfr st=>next (L.map (fH fr)) st) b kr) u (L.map (fH fr)) st->
    ∃r,(∃N,∀m,N<=m->∀j,u<=j->yM (mj P (RF P lvs I m) (fF P) lv m n x) (some L) j fr st=r)/\KR d b kr r:=by
    intro u
    induction u with
    |zero=>intro fr st hh;exact hh.elim
    |succ u K=>
     intro fr st hh;obtain⟨r,⟨N,hN⟩,p⟩:=hx (show jn P (qt P lvs I) lv n x (LK L (L.map (fH fr))) st (λfr st=>Hj (λw st next=>jn P (qt P lvs I) lv n x (LK L w) st (λfr st=>next (L.map (fH fr)) st) b kr) u (L.map (fH fr)) st) b kr from hh);cases r with
     |norm s hO=>
      obtain⟨B,⟨G,A⟩,H⟩:=K s hO p;refine⟨B,⟨max N G,λm hm j J=>?_⟩,H⟩;obtain⟨j,rfl⟩:∃i,j=i+1:=⟨j-1,uM⟩;show uN (mj P (RF P lvs I m) (fF P) lv m n x (yx (some L) fr) st) _=B;rw[show yx (some L) fr=LK L (L.map (fH fr))from rfl,hN m uM];exact A m uM j uM
     |exit i s hO=>
      refine⟨.exit i s hO,⟨N,λm hm j J=>?_⟩,p⟩;obtain⟨j,rfl⟩:∃i,j=i+1:=⟨j-1,uM⟩;show uN (mj P (RF P lvs I m) (fF P) lv m n x (yx (some L) fr) st) _=_;rw[show yx (some L) fr=LK L (L.map (fH fr))from rfl,hN m hm];rfl
     |ret s hO=>
      refine⟨.ret s hO,⟨N,λm hm j J=>?_⟩,p⟩;obtain⟨j,rfl⟩:∃i,j=i+1:=⟨j-1,uM⟩;show uN (mj P (RF P lvs I m) (fF P) lv m n x (yx (some L) fr) st) _=_;rw[show yx (some L) fr=LK L (L.map (fH fr))from rfl,hN m hm];rfl
     |bad=>exact(show False from p).elim
   obtain⟨r,⟨N,hN⟩,p⟩:=z u fr st M;refine⟨r,⟨max N u,λm hm=>?_⟩,p⟩;show yM (mj P (RF P lvs I m) (fF P) lv m n x) (lv (Jd x)) m fr st=r;rw[hl];exact hN m uM m uM
 |exit id=>intro fr st d b kr h;exact⟨.exit id fr st,⟨0,λ_ _=>rfl⟩,h⟩
 |scope x hx=>intro fr st d b kr h;exact hx h
 |label l=>intro fr st d b kr h;exact⟨.norm fr st,⟨0,λ_ _=>rfl⟩,h⟩
 |ret=>intro fr st d b kr h;exact⟨.ret fr st,⟨0,λ_ _=>rfl⟩,h⟩
 |rangeFunc f ps x y hx C=>intro fr st d b kr h;exact(show False from h).elim
 |goto l=>intro fr st d b kr h;exact(show False from h).elim
 |refuse y=>intro fr st d b kr h;exact(show False from h).elim
def PU :∀{l:List ResultVar} {k:List CV->Prop},Am P fr st l k->∃vs,JF P fr st l=some vs/\k vs:=by
 intro l
 induction l with
 |nil=>intro k h;exact⟨[],rfl,h⟩
 |cons r l d=>
  intro k h;have e:JF P fr st (r::l)=(match CR P fr st r,JF P fr st l with|some v,some l=>some (v::l)|_,_=>none):=rfl;cases r with
  |tmp t=>
   obtain⟨vs,c,b⟩:=d (show Am P fr st l λvs=>k (fH fr t::vs)from h);exact⟨_,by rw[e,c];rfl,b⟩
  |cell a t=>
   simp only[Am]at h
   split at h
   .rename_i u i hu hi
    have j:CR P fr st (.cell a t)=(match (bif iO u then aJ i.size (fH fr a) st else aA (fH fr a) st)with| .ok v _=>some v| .bad=>none):=by
     show(match P.underlying t,P.info? t with
      |some u,some i=>(match bE (iO u) (aJ i.size (fH fr a) st) (aA (fH fr a) st)with| .ok v _=>some v| .bad=>none)
      |_,_=>none)=_
     rw[hu,hi];dsimp only;rw[aO];cases iO u<;>rfl
    generalize (bif iO u then aJ i.size (fH fr a) st else aA (fH fr a) st)=m at h j;cases m with
    |bad=>exact h.elim
    |ok v s=>
     obtain⟨vs,c,b⟩:=d (show Am P fr st l λvs=>k (v::vs)from h);exact⟨_,by rw[e,c,j],b⟩
   .exact h.elim
def Un {l:List ResultVar}(h:Uo P fr st l Q):upon (BZ P fr st l) Q:=by
 obtain⟨b,d,c⟩:=PU h;unfold BZ;rw[d];cases b with
 |nil=>exact c
 |cons v b=>cases b with
  |nil=>exact c
  |cons u b=>exact c
def aeD (P:Program)(l:List ResultVar)(r:Rs):OR:=match r with| .norm fr st=>BZ P fr st l| .exit _ _ _=>.bad| .ret fr st=>BZ P fr st l| .bad=>.bad
def By {args:List CV}(y:I f args st=none)(h:aN P (qt P lvs I) (lvs f) f args st Q):qt P lvs I f args st Q:=by
 unfold aN at h
 split at h
 .rename_i fn A hfn
  split at h
  .rename_i c hb;obtain⟨r,⟨N,x⟩,q⟩:=Sv c h
   have e:∀m,N<=m->RF P lvs I (m+1) f args st=aeD P fn.results.toList r:=by
    intro m j;unfold RF;simp only[BY,y];unfold Fu;have:=x m j;unfold RF at this;rw[A,aO,aHP rfl,hfn];dsimp only;rw[hb];dsimp only;rw[this];cases r<;>rfl
   have l:∀b d,Uo P b d fn.results.toList Q->(∀m,N<=m->RF P lvs I (m+1) f args st=BZ P b d fn.results.toList)->qt P lvs I f args st Q:=by
    intro b d z w;have p:=Un z;cases s:BZ P b d fn.results.toList with
    |bad=>rw[s]at p;exact p.elim
    |ok v u=>
     rw[s]at p;refine⟨v,u,⟨N+1,λm j=>?_⟩,p⟩;obtain⟨m,rfl⟩:∃i,m=i+1:=⟨m-1,uM⟩;rw[w m uM,s]
   cases r with
   |norm b d=>exact l b d q (λm j=>e m j)
   |ret b d=>exact l b d q (λm j=>e m j)
   |exit i b d=>exact(show False from q).elim
   |bad=>exact(show False from q).elim
  .exact h.elim
 .exact h.elim
def IT {args:List CV}{st':St}(b:I f args st=some (.ok v st'))(h:Q v st'):qt P lvs I f args st Q:=by
 refine⟨v,st',⟨1,λm c=>?_⟩,h⟩;obtain⟨m,rfl⟩:∃i,m=i+1:=⟨m-1,uM⟩;unfold RF;simp only[BY,b]
end
end
section
variable {st:St}{p:Nat}{F G:List Nat}{a:St}{s:List CV}{n:Nat}{z:List CV}
@[simp] def af (v:CV)(st:St)(k:CV->Prop):us (.ok v st) k=k v:=id rfl
@[simp] def anQ (k:CV->Prop):us .bad k=False:=id rfl
@[simp] def aP (v:CV)(st:St)(k:CV->St->Prop):upon (.ok v st) k=k v st:=id rfl
@[simp] def adY (k:CV->St->Prop):upon .bad k=False:=id rfl
@[simp] def ag (b:Bool)(x y:Prop):aC (.bool b) x y=if b=true then x else y:=by cases b<;>simp[aC]
@[simp] def aG (b c:Bool):ao b (.bool c)=some (if b=true then c else !c):=by cases b<;>rfl
@[simp] def lr (b:Bool):ao b .undef=some false:=id rfl
@[simp] def ba (st:St)(r:OR):br (some true) st r=r:=id rfl
@[simp] def bU (st:St)(r:OR):br (some false) st r=.ok .undef st:=id rfl
@[simp] def dI (st:St)(y:(CV->St->Prop)->Prop)(k:CV->St->Prop):gK (some true) st y k=y k:=id rfl
@[simp] def pV (st:St)(y:(CV->St->Prop)->Prop)(k:CV->St->Prop):gK (some false) st y k=k .undef st:=id rfl
@[simp] def bD (p:Prop):ck p=p:=by simp[ck]
@[simp] def cM (k:List CV->St->Prop)(b:(List CV->St->Prop)->Prop):dX k b=b k:=id rfl
@[simp] def aK (v:CV)(l:List CV):ay 0 (v::l)=v:=id rfl
@[simp] def aL (i:Nat)(v:CV)(l:List CV):ay (i+1) (v::l)=ay i l:=id rfl
@[simp] def dM (C:aY)(g:Nat)(f c args:List CV)(st:St)(k:CV->St->Prop):fA C (.func (.func g) f c) args st k=C g (f++(args++c)) st k:=id rfl
@[simp] def aF (c:Bool)(a b:CV)(st:St):bk (.bool c) a b st=if c=true then .ok a st else .ok b st:=by cases c<;>rfl
@[simp] def YA (c:Prop)[Decidable c](a b:OR)(k:CV->Prop):us (if c then a else b) k=if c then us a k else us b k:=by split<;>rfl
@[simp] def adX (c:Prop)[Decidable c](a b:OR)(k:CV->St->Prop):upon (if c then a else b) k=if c then upon a k else upon b k:=by split<;>rfl
@[simp] def av (e:BinOp)(d:Option kK)(c:Bool)(k j:IntKind)(a b:Int)(st:St):aj e d c (.int k a) (.int j b) st=ki e k a j b st:=id rfl
@[simp] def cI (k:IntKind)(a b:Int)(st:St):ki .add k a k b st=.ok (.int k (k.wrap (a+b))) st:=abb
@[simp] def dS (k:IntKind)(a b:Int)(st:St):ki .sub k a k b st=.ok (.int k (k.wrap (a-b))) st:=abb
@[simp] def jj (k:IntKind)(a b:Int)(st:St):ki .mul k a k b st=.ok (.int k (k.wrap (a*b))) st:=abb
@[simp] def Qb (k:IntKind)(a b:Int)(st:St):ki .quo k a k b st=if b=0 then .bad else .ok (.int k (k.wrap (Int.tdiv a b))) st:=abb
@[simp] def Qa (k:IntKind)(a b:Int)(st:St):ki .rem k a k b st=if b=0 then .bad else .ok (.int k (Int.tmod a b)) st:=abb
@[simp] def cC (k:IntKind)(a b:Int)(st:St):ki .eql k a k b st=.ok (.bool (decide (a=b))) st:=abb
@[simp] def ff (k:IntKind)(a b:Int)(st:St):ki .neq k a k b st=.ok (.bool (!decide (a=b))) st:=abb
@[simp] def c8 (k:IntKind)(a b:Int)(st:St):ki .lss k a k b st=.ok (.bool (decide (a<b))) st:=abb
@[simp] def lU (k:IntKind)(a b:Int)(st:St):ki .leq k a k b st=.ok (.bool (decide (a<=b))) st:=abb
@[simp] def dh (k:IntKind)(a b:Int)(st:St):ki .gtr k a k b st=.ok (.bool (decide (b<a))) st:=abb
@[simp] def qE (k:IntKind)(a b:Int)(st:St):ki .geq k a k b st=.ok (.bool (decide (b<=a))) st:=abb
@[simp] def ep (e:BinOp)(d:Option kK)(c:Bool)(a b:List UInt8)(st:St):aj e d c (.str a) (.str b) st=sv e a b st:=id rfl
def bA {x:Int}(h: -9223372036854775808<=x/\x<=9223372036854775807):IntKind.i64.wrap x=x:=IntWalk.i64_in _ h
@[simp] def cc (c:Bool)(b o:Nat)(st:St):aj .eql (some .ptr) c (.ptr b o) .bq st=.ok (.bool false) st:=id rfl
@[simp] def Tf (c:Bool)(b o:Nat)(st:St):aj .neq (some .ptr) c (.ptr b o) .bq st=.ok (.bool true) st:=id rfl
@[simp] def WE (c:Bool)(st:St):aj .eql (some .slice) c .ae .ae st=.ok (.bool true) st:=id rfl
@[simp] def cR (b:Bool)(st:St):mi .not (.bool b) st=.ok (.bool (!b)) st:=id rfl
def okO (o:Option Bool)(st:St):OR:=match o with|some b=>.ok (.bool b) st|none=>.bad
@[simp] def aeT (b:Bool)(st:St):okO (some b) st=.ok (.bool b) st:=id rfl
def rq (d:kK)(c:Bool)(s t:List CV)(st:St):aj .eql (some d) c (.agg s) (.agg t) st=okO (mJ d (.agg s) (.agg t)) st:=by
 simp only[aj,pEq,Oy];cases mJ d (.agg s) (.agg t)<;>rfl
def EH (d:kK)(c:Bool)(s t:List CV)(st:St):aj .neq (some d) c (.agg s) (.agg t) st=okO ((mJ d (.agg s) (.agg t)).map (!·)) st:=by
 simp only[aj,pEq,Oy];cases mJ d (.agg s) (.agg t)<;>rfl
@[simp] def aD (a:CV)(l:List CV)(st:St):aB (.tuple (a::l)) 0 st=.ok a st:=id rfl
@[simp] def aI (a:CV)(l:List CV)(i:Nat)(st:St):aB (.tuple (a::l)) (i+1) st=aB (.tuple l) i st:=id rfl
@[simp] def oM (b o l c g:Nat)(st:St):bt .slice (.slice b o l c g) st=.ok (.int .i64 l) st:=id rfl
@[simp] def wE (st:St):bt .slice .ae st=.ok (.int .i64 0) st:=id rfl
@[simp] def gQ (l:List UInt8)(st:St):bt .str (.str l) st=.ok (.int .i64 l.length) st:=id rfl
@[simp] def lV (b:Fn)(f c:List CV)(st:St):qF b f c st=.ok (.func b f c) st:=id rfl
def OM (o:Option rU)(k:List CV->Prop):Prop:=match o with|some (.cells l _ _)=>k l|some (.ro l _)=>k l|_=>False
def onT (o:Option rU)(k:List CV->TypeId->Bool->Prop):Prop:=match o with|some (.cells l t g)=>k l t g|_=>False
def onV (o:Option CV)(k:CV->Prop):Prop:=match o with|some v=>k v|none=>False
def onL (o:Option (List CV))(k:List CV->Prop):Prop:=match o with|some v=>k v|none=>False
@[simp] def ar (l:List CV)(t:TypeId)(g:Bool)(k:List CV->Prop):OM (some (.cells l t g)) k=k l:=id rfl
@[simp] def ye (l:List CV)(o:Obj)(k:List CV->Prop):OM (some (.ro l o)) k=k l:=id rfl
@[simp] def aS (l:List CV)(t:TypeId)(g:Bool)(k:List CV->TypeId->Bool->Prop):onT (some (.cells l t g)) k=k l t g:=id rfl
@[simp] def aw (v:CV)(k:CV->Prop):onV (some v) k=k v:=id rfl
@[simp] def Hd (v:List CV)(k:List CV->Prop):onL (some v) k=k v:=id rfl
@[simp] def az (b off:Nat)(st:St)(k:CV->Prop):us (aA (.ptr b off) st) k=OM (st.m.g b) λl=>onV l[off]? k:=by
  simp only[aA];cases st.m.g b with
  |none=>rfl
  |some blk=>cases blk<;>first|rfl|(rename_i l t g;simp only[OM];cases l[off]?<;>rfl)|(rename_i l _;simp only[OM];cases l[off]?<;>rfl)
@[simp] def qv (n b off:Nat)(st:St)(k:CV->Prop):us (aJ n (.ptr b off) st) k=OM (st.m.g b) λl=>onL (gY l off n) λs=>k (.agg s):=by
  simp only[aJ];cases st.m.g b with
  |none=>rfl
  |some blk=>cases blk<;>first|rfl|(rename_i l t g;simp only[OM];cases gY l off n<;>rfl)|(rename_i l _;simp only[OM];cases gY l off n<;>rfl)
@[simp] def bj (b o:Nat)(st:St):dJ (.ptr b o) st=.ok (.ptr b o) st:=id rfl
@[simp] def ah (off b o:Nat)(st:St):al off (.ptr b o) st=.ok (.ptr b (o+off)) st:=id rfl
@[simp] def ji (k:IntKind)(n:Int):CV.cK (.int k n)=[.int k n]:=id rfl
@[simp] def acj (b:Bool):CV.cK (.bool b)=[.bool b]:=id rfl
@[simp] def YF (b o l c g:Nat):CV.cK (.slice b o l c g)=[.slice b o l c g]:=id rfl
@[simp] def Td:CV.cK .ae=[.ae]:=id rfl
@[simp] def Gy (b o:Nat):CV.cK (.ptr b o)=[.ptr b o]:=id rfl
@[simp] def aeB (b:Nat):CV.cK (.map b)=[.map b]:=id rfl
@[simp] def Gx (l:List UInt8):CV.cK (.str l)=[.str l]:=id rfl
@[simp] def aT (l:List CV):CV.cK (.agg l)=l:=id rfl
@[simp] def acA (k:IntKind)(n:Int):CV.isAny (.int k n)=false:=id rfl
@[simp] def Zl (b:Bool):CV.isAny (.bool b)=false:=id rfl
@[simp] def Xe (b o l c g:Nat):CV.isAny (.slice b o l c g)=false:=id rfl
@[simp] def acy (b o:Nat):CV.isAny (.ptr b o)=false:=id rfl
@[simp] def acz (b:Nat):CV.isAny (.map b)=false:=id rfl
@[simp] def acx (l:List UInt8):CV.isAny (.str l)=false:=id rfl
@[simp] def acB (l:List CV):CV.isAny (.agg l)=false:=id rfl
@[simp] def UB:bh []=true:=id rfl
@[simp] def Ci (v:CV)(l:List CV):bh (v::l)=(cF v&&bh l):=id rfl
@[simp] def zm (l m:List CV):bh (l++m)=(bh l&&bh m):=by simp[bh]
@[simp] def sU (l:List UInt8):bh (l.map bP)=true:=by
  simp only[bh,aKd,aIk];rintro x ⟨b,_,rfl⟩;rfl
@[simp] def WJ (k:IntKind)(n:Int):cF (.int k n)=true:=id rfl
@[simp] def UC (b:Bool):cF (.bool b)=true:=id rfl
@[simp] def Nt:cF .ae=true:=id rfl
@[simp] def WI (b:Nat):cF (.map b)=true:=id rfl
def bz (l:List CV)(off:Nat)(t:List CV):List CV:=l.take off++(t++l.drop (off+t.length))
@[simp] def aH (n b off:Nat)(x:CV)(st:St)(k:CV->St->Prop):upon (aQ n (.ptr b off) x st) k=
 onT (st.m.g b) λl t g=>(x.cK.length=n/\bh x.cK=true/\off+n<=l.length)/\k .undef (St.set st b (.cells (bz l off x.cK) t g)):=by
  simp only[aQ];cases st.m.g b with
  |none=>rfl
  |some blk=>
   cases blk with
   |cells l t g=>
    simp only[onT,aO,aIf,aIs]
    by_cases h:x.cK.length=n/\bh x.cK=true
    .rw[aHP h];obtain⟨rfl,e⟩:=h;unfold dZ
     by_cases d:off+x.cK.length<=l.length
     .rw[aHP d];simp only[upon,bz,e,d,aKc]
      rfl
     .rw[aHM d];simp[upon,d]
    .rw[aHM h];simp only[upon,eq_iff_iff,false_iff];rintro⟨⟨f,e,_⟩,_⟩;exact h ⟨f,e⟩
   |map es c=>rfl
   |lmap es=>rfl
   |ro l o=>rfl
@[simp] def sL (st:St)(b:Nat)(blk:rU):(St.set st b blk).nx=st.nx:=id rfl
def Lp (st:St)(b q:Nat)(blk:rU):(St.set st b blk).m.g q=if q=b then some blk else st.m.g q:=rfl
@[simp] def an (st:St)(b:Nat)(blk:rU):(St.set st b blk).m.g b=some blk:=by simp[Lp]
def ak (st:St)(b q:Nat)(blk:rU)(h:q≠b):(St.set st b blk).m.g q=st.m.g q:=by simp[Lp,h]
@[simp] def wP (st:St)(blk:rU):(St.new st blk).nx=st.nx+1:=id rfl
def EP (st:St)(q:Nat)(blk:rU):(St.new st blk).m.g q=if q=st.nx then some blk else st.m.g q:=rfl
@[simp] def au (st:St)(blk:rU):(St.new st blk).m.g st.nx=some blk:=by simp[EP]
def aX (st:St)(q:Nat)(blk:rU)(h:q<st.nx):(St.new st blk).m.g q=st.m.g q:=by simp[EP,Nat.ne_of_lt h]
@[simp] def M5 (st:St):(St.skip st).nx=st.nx+1:=id rfl
@[simp] def Gv (st:St):(St.skip st).m=st.m:=id rfl
@[simp] def cz (t:TypeId)(z:List CV)(st:St):dp t z st=.ok (.ptr st.nx 0) (St.new st (.cells z t false)):=id rfl
@[simp] def fV (st:St):jz none st=.ok (.map st.nx) (St.new st (.map [] 0)):=id rfl
@[simp] def bS (t:TypeId)(x:CV)(st:St)(k:CV->St->Prop):upon (gM t x st) k=(x.isAny=false/\k (.ptr st.nx 0) (St.new st (.cells x.cK t false))):=by
  unfold gM;cases h:x.isAny<;>simp
@[simp] def UD (c:Prop)[Decidable c](x:List CV)(k:List CV->Prop):onL (if c then some x else none) k=(c/\k x):=by
  by_cases h:c<;>simp[h,onL]
@[simp] def wL (l:List CV)(off n:Nat)(k:List CV->Prop):onL (gY l off n) k=(off+n<=l.length/\k ((l.drop off).take n)):=by
  unfold gY;exact UD _ _ _
@[simp] def set_set (st:St)(b:Nat)(x y:rU):St.set (St.set st b x) b y=St.set st b y:=by
  simp only[St.set,St.mk.injEq,and_true];exact PT.ext λp=>by simp only[PT.eW];split<;>rfl
@[simp] def mU (l:List CV)(off:Nat)(t:List CV)(h:off+t.length<=l.length):(bz l off t).length=l.length:=by
  simp[bz];omega
def dB (z:List CV)(b:List uI)(st:St):aZ z b st=match gC b z with|some s=>.ok (.agg s) st|none=>.bad:=by
 unfold aZ;cases gC b z<;>rfl
def cE (off size:Nat)(x:CV)(l:List uI)(s:List CV):gC ((off,size,x)::l) s=if (x.cK.length=size/\x.isAny=false)/\off+x.cK.length<=s.length then gC l (bz s off x.cK)else none:=by
 have e:gC ((off,size,x)::l) s=bE (Nat.beq x.cK.length size&& !x.isAny) (Option.rec none (λs'=>gC l s') (dZ s off x.cK)) none:=rfl;rw[e];simp only[aO,aIf,aIs,aKH]
 by_cases h:x.cK.length=size/\x.isAny=false
 .simp only[h,and_self,aIj,aKc];unfold dZ bz
  by_cases b:off+x.cK.length<=s.length
  .rw[aHP b,aHP (by rw[<-h.1];exact b)]
  .rw[aHM b,aHM (by rw[<-h.1];exact b)]
 .rw[aHM h,aHM (λb=>h b.1)]
@[simp] def lJ (s:List CV):gC [] s=some s:=id rfl
def eA (st:St):Prop:=∀b,st.nx<=b->st.m.g b=none
def eA.new (h:eA st)(blk:rU):eA (St.new st blk):=λb c=>by
 simp only[wP]at c;rw[EP,aHM uM];exact h b uM
def eA.skip (h:eA st):eA (St.skip st):=λb c=>h b (by simp only[M5]at c;omega)
def eA.set (h:eA st)(d:p<st.nx)(blk:rU):eA (St.set st p blk):=λb c=>by
 simp only[sL]at c;rw[ak _ _ _ _ uM];exact h b c
structure Kp (F:List Nat)(st st':St):Prop where
 nx:st.nx<=st'.nx
 keep:∀b,(_:b<st.nx:=by omega)->(_:b∉F:=by simp)->st'.m.g b=st.m.g b
 fresh:eA st->eA st'
def Kp.refl (F:List Nat)(st:St):Kp F st st:=⟨aHK _,λ_ _ _=>rfl,id⟩
def Kp.trans {b c:St}(h:Kp F a b)(k:Kp G b c)(g:∀q∈G,q∈F\/a.nx<=q:=by simp):Kp F a c:=
 ⟨aIz h.nx k.nx,λq f e=>by rw[k.keep q (aId f h.nx) (λj=>by rcases g q j with d|d;exact e d;omega),h.keep q f e],λi=>k.fresh (h.fresh i)⟩
def Kp.new {b:St}(h:Kp F a b)(blk:rU):Kp F a (St.new b blk):=
 ⟨by have:=h.nx;simp;omega,λq c e=>by rw[aX _ _ _ (aId c h.nx),h.keep q c e],λd=>(h.fresh d).new _⟩
def Kp.skip {b:St}(h:Kp F a b):Kp F a (St.skip b):=⟨by have:=h.nx;simp;omega,λq e d=>h.keep q e d,λc=>(h.fresh c).skip⟩
def Kp.set {b:St}(h:Kp F a b)(blk:rU)(d:p∈F\/a.nx<=p)(f:p<b.nx):Kp F a (St.set b p blk):=
 ⟨h.nx,λq i c=>by rw[ak _ _ _ _ (λe=>by subst e;rcases d with h3|h3;exact c h3;omega),h.keep q i c],λg=>(h.fresh g).set f _⟩
def Kp.mono {b:St}(h:Kp F a b)(d:∀q∈F,q∈G\/a.nx<=q):Kp G a b:=
 ⟨h.nx,λq g f=>h.keep q g λe=>by rcases d q e with c|c;exact f c;omega,h.fresh⟩
def AG {s c:St}{b:rU}(h:St.new s b=c):Kp [] s c/\c.m.g s.nx=some b/\c.nx=s.nx+1:=by
 subst h;exact⟨(Kp.refl [] s).new _,au _ _,rfl⟩
def jO {b e:Nat}{c:List uI}(h:st.m.g b=none)(d:gC c z=some s):fE b e n z c st=.ok (.slice b 0 n n 0) (St.set st b (.cells s e false)):=by
 unfold fE;rw[h,d];rfl
def GZ {k b:Nat}{e:TypeId}{g:Bool}(h:st.m.g b=some (.cells s e g))(l:0<n)(j:s.length=n*k):cT .slice k z (.slice b 0 n n 0) st=some (n,s):=by
 have i:cT .slice k z (.slice b 0 n n 0) st=(match dE k n (.slice b 0 n n 0) st with|some s=>some (n,s)|none=>none):=rfl
 have f:dE k n (.slice b 0 n n 0) st=some s:=by
  have d:dE k n (.slice b 0 n n 0) st=bE (Nat.beq n 0) (some []) (bE (Bool.or (Nat.beq 0 0) (Nat.ble n n)) (match st.m.g b with|some (.cells s _ _)=>gY s 0 (n*k)|some (.ro s _)=>gY s 0 (n*k)|_=>none) none):=rfl;have c:Nat.beq n 0=false:=by cases h:Nat.beq n 0 with|false=>rfl|true=>rw[aIs]at h;omega
  rw[d,c,h];simp only[aO,aHH,aHV];rw[aHP wb];unfold gY;rw[aHP uM,aIn,aHS uM]
 rw[i,f]
end
