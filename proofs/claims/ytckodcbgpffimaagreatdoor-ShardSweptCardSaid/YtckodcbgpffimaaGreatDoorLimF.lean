import Derived.Test.YtckodcbgpffimaaGreatDoorLimE
namespace Lim
open Go
noncomputable section
set_option linter.defProp false
section
variable {y:OR}{op:BinOp}{k:IntKind}{a:Int}
def DE.bare:DE->Bool
 | .YI _| .pick .. | .nil _| .un .. | .KH .. | .iface .. | .func .. | .pW .. | .sK .. | .slice3 .. | .pY .. | .fieldAddr .. | .field .. =>θ
 | .xg .. | .BD .. | .xf .. | .xh .. | .extract .. | .ur .. | .bin .. | .build .. =>θ
 | .conv c _=>(match c with| .toInt _| .same=>θ|_=>φ)
 | .len k _=>(match k with| .map=>φ|_=>θ)
 |_=>φ
structure cz (x y:OR):Prop where
 eq:∀v s,x=.ok v s->∃s',y=.ok v s'
section
variable {Z Z':O}
def cz.bad :cz .bad y:=⟨λ_ _ h=>by cases h⟩
def cz.ok (v:K):cz (.ok v Z) (.ok v Z'):=⟨λ_ _ h=>by cases h;exact⟨_,rfl⟩⟩
def cz.bF {b:Bool}{x c y':OR}(e:cz x c)(d:cz y y'):cz (bF b x y) (bF b c y'):=by cases b;exact d;exact e
def cz.opt {b:Type}{x:υ b}{n c:OR}{f d:b->OR}(e:cz n c)(h:∀v,cz (f v) (d v)):cz (Option.rec (motive:=λ_=>OR) n f x) (Option.rec (motive:=λ_=>OR) c d x):=by cases x;exact e;exact h _
def cz.acf {b:Int}:cz (mY op k a b Z) (mY op k a b Z'):=by
 cases op<;>simp only[mY]<;>first|exact cz.ok _|exact cz.bad|(split<;>first|exact cz.ok _|exact cz.bad)
def cz.int {j:IntKind}{b:Int}:cz (lb op k a j b Z) (lb op k a j b Z'):=by
 cases op<;>simp only[lb]<;>split<;>first|exact cz.ok _|exact cz.bad|exact cz.acf
def cz.str {a b:δ Γ}:cz (sO op a b Z) (sO op a b Z'):=by
 cases op<;>simp only[sO]<;>first|exact cz.ok _|exact cz.bad|(split<;>first|exact cz.ok _|exact cz.bad)
def cz.bin {d:υ lB}{b:Bool}{x y:K}:cz (R op d b x y Z) (R op d b x y Z'):=by
 unfold R
 split<;>first
  |exact cz.int
  |exact cz.str
  |exact cz.bad
  |(unfold yb;split<;>first|exact cz.bad|exact cz.bF cz.bad (cz.ok _))
  |(split
    .unfold È;split<;>first|exact cz.ok _|exact cz.bad
    .exact cz.bad)
end
def KO {e:gZ}{op:DE}{fr:Fr}{Z Z':O}(h:op.bare=θ):cz (dn e op fr Z) (dn e op fr Z'):=by
 cases op with
 |YI x=>exact cz.ok _
 |pick c a b=>simp only[dn];unfold bg;split<;>first|exact cz.bF (cz.ok _) (cz.ok _)|exact cz.bad
 |nil x=>simp only[dn];unfold df;split<;>first|exact cz.ok _|exact cz.bad
 |bin op d CQ x y=>exact cz.bin
 |un op x=>simp only[dn];unfold kZ;split<;>first|exact cz.ok _|exact cz.bad|(split<;>first|exact cz.ok _|exact cz.bad)
 |conv c x=>cases c<;>first|(cases h;done)|(simp only[dn];cases ev fr x<;>first|exact cz.ok _|exact cz.bad)
 |KH n x=>simp only[dn];unfold qL;split<;>first|exact cz.bF (cz.ok _) cz.bad|exact cz.bad
 |iface t x=>exact cz.ok _
 |func fn f c=>exact cz.ok _
 |pW x lo hi=>simp only[dn];unfold gj;split<;>first|exact cz.bad|(split<;>first|exact cz.ok _|exact cz.bad)
 |sK size x lo hi=>
  simp only[dn];unfold aQ;split
  .split<;>first|exact cz.ok _|exact cz.bad
  .refine cz.bF ?_ cz.bad
   split
   .exact cz.bF (cz.ok _) (cz.bF (cz.ok _) cz.bad)
   .exact cz.bad
  .exact cz.bad
 |slice3 size x lo hi mx=>
  simp only[dn];unfold jK;split
  .split
   .split
    .exact cz.bF (cz.bF (cz.ok _) (cz.ok _)) cz.bad
    .exact cz.bad
   .exact cz.bad
  .split
   .split<;>first|exact cz.ok _|exact cz.bad
   .exact cz.bad
  .exact cz.bad
 |pY n size x lo hi=>simp only[dn];unfold cD;split<;>first|exact cz.bad|(split<;>first|exact cz.bad|exact cz.bF (cz.ok _) (cz.ok _))
 |fieldAddr off x=>simp only[dn];unfold aj;split<;>first|exact cz.ok _|exact cz.bad
 |field agg off size x=>simp only[dn];unfold zf;split<;>first|exact cz.opt cz.bad (λ_=>cz.ok _)|exact cz.bad
 |xg n size x i=>simp only[dn];unfold gE;split<;>first|exact cz.bF (cz.ok _) cz.bad|exact cz.bad
 |BD size x i=>simp only[dn];unfold de;split<;>first|exact cz.bF (cz.ok _) cz.bad|exact cz.bad
 |xf x i=>simp only[dn];unfold nJ;split<;>first|exact cz.bad|(split<;>first|exact cz.ok _|exact cz.bad)
 |xh n size agg x i=>simp only[dn];unfold xZ;split<;>first|exact cz.bF (cz.opt cz.bad (λ_=>cz.ok _)) cz.bad|exact cz.bad
 |extract x i=>simp only[dn];unfold az;split<;>first|exact cz.opt cz.bad (λ_=>cz.ok _)|exact cz.bad
 |len k x=>cases k<;>first|(cases h;done)|(simp only[dn];unfold aY;cases ev fr x<;>first|exact cz.ok _|exact cz.bad|exact cz.bF (cz.ok _) (cz.ok _))
 |ur mx x y=>simp only[dn];unfold Bk;split<;>first|exact cz.bF (cz.ok _) cz.bad|exact cz.bad
 |build z parts=>simp only[dn];unfold aR;exact cz.opt cz.bad (λ_=>cz.ok _)
 |_=>cases h
abbrev aV:=Nat->δ K->O->(K->O->Prop)->Prop
def E (r:OR)(k:K->O->Prop):Prop:=match r with| .ok v Z=>k v Z| .bad=>False
def U (r:OR)(k:K->Prop):Prop:=match r with| .ok v _=>k v| .bad=>False
def kx (g:υ Bool)(Z:O)(r:OR):OR:=match g with|some true=>r|some false=>.ok .undef Z|none=>.bad
def gdW (g:υ Bool)(Z:O)(b:Prop)(k:K->O->Prop):Prop:=match g with|some true=>b|some false=>k .undef Z|none=>False
def bj (b:Bool)(v:K):υ Bool:=match v with| .bool c=>Φ (bF b c (Bool.not c))| .undef=>Φ φ|_=>ν
def eJ (C:aV)(f:K)(args:δ K)(Z:O)(k:K->O->Prop):Prop:=match f with| .func (.func g) first captured=>C g (first++(args++captured)) Z k|_=>False
def aA (v:K)(x y:Prop):Prop:=match v with| .bool true=>x| .bool false=>y|_=>False
def qc:gZ:=λ_ _ _=>.bad
def nN (b:Array Oper)(fr:Fr)(c:Nat×Bool):υ Bool:=
 match (b[c.1]?).bind (·.dst)with|none=>Φ φ|some d=>bj c.2 (fZ fr d)
def opW (C:aV)(g:υ Bool)(op:DE)(fr:Fr)(Z:O)(k:K->O->Prop):Prop:=
 match op with
 | .call f args=>gdW g Z (C f (Ob fr args) Z k) k
 | .EK f args=>gdW g Z (eJ C (ev fr f) (Ob fr args) Z k) k
 |op=>bif op.still then U (kx g Z (dn qc op fr Z)) (λv=>k v Z)else E (kx g Z (dn qc op fr Z)) k
def abw (C:aV)(op:DE)(fr:Fr)(Z:O)(k:K->O->Prop):Prop:=
 match op with
 | .call f args=>C f (Ob fr args) Z k
 | .EK f args=>eJ C (ev fr f) (Ob fr args) Z k
 |op=>bif op.still then U (dn qc op fr Z) (λv=>k v Z)else E (dn qc op fr Z) k
def MY (P:Program)(C:aV)(b:Array Oper)(o:Oper)(fr:Fr)(Z:O)(k:K->O->Prop):Prop:=
 match nE P o.op with
 |none=>False
 |some op=>match o.guard with
  |none=>abw C op fr Z k
  |some c=>opW C (nN b fr c) op fr Z k
def abo (n:Nat)(b:υ Tmp)(v:K)(fr:Fr)(k:Fr->Prop):Prop:=match b with|none=>k fr|some d=>bif Nat.ble (d+1) n then k (fr.put d (Φ v))else False
def Wk (P:Program)(C:aV)(n:Nat)(b:Array Oper):δ Oper->Fr->O->(Fr->O->Prop)->Prop
 |[],fr,Z,k=>k fr Z
 |o::l,fr,Z,k=>MY P C b o fr Z λv Z=>abo n o.dst v fr λfr=>Wk P C n b l fr Z k
def zb (P:Program)(C:aV)(c:Array Oper)(f:υ Nat)(o:Oper)(fr:Fr)(Z:O)(k:K->O->Prop):Prop:=
 match qd P o,f with
 |none,none=>MY P C c o fr Z k
 |some d,some b=>E (match o.guard with|none=>jL b d.2 d.1 Z|some e=>kx (nN c fr e) Z (jL b d.2 d.1 Z)) k
 |none,some b=>(match ma P o with
  |some x=>E (match o.guard with
   |none=>eM b x.1 x.2.1 (cr x.2.1 x.2.2.1) (P8 fr x.2.2.2) Z
   |some e=>kx (nN c fr e) Z (eM b x.1 x.2.1 (cr x.2.1 x.2.2.1) (P8 fr x.2.2.2) Z)) k
  |none=>False)
 |_,_=>False
def E0 (P:Program)(C:aV)(n:Nat)(b:Array Oper):δ (Oper×υ Nat)->Nat->Nat->Fr->O->(δ TR->δ O->Fr->O->Prop)->Prop
 |[],_,_,fr,Z,k=>k [] [] fr Z
 |o::l,i,c,fr,Z,k=>zb P C b o.2 o.1 fr Z λv Z'=>abo n o.1.dst v fr λfr'=>bif oK P o.1
   then E0 P C n b l (i+1) (c+1) fr' Z' (λd e=>k (⟨i,o.2,o.1,θ,c,fr,v,Z,Z'⟩::d) (Z::e))
   else E0 P C n b l (i+1) c fr' Z' (λd e=>k (⟨i,o.2,o.1,φ,c,fr,v,Z,Z'⟩::d) e)
def cj (b:Bool)(p q:Prop):Prop:=match b with|true=>q|false=>p/\q
abbrev Ç:=Nat×Nat×Oper
def DA (P:Program):δ Oper->Nat->Nat->δ Ç
 |[],_,_=>[]
 |o::l,i,c=>(i,c,o)::DA P l (i+1) (bif oK P o then c+1 else c)
def JJ (P:Program)(o:Oper):Bool:=match qd P o with|some _=>φ|none=>match nE P o.op with|some op=>op.bare|none=>φ
def noB (P:Program)(a:δ Ç):Bool:=DB a λu=>Bool.not (rW P u.2.2)
def M4 (P:Program)(b:Array Oper)(a:δ Ç)(i c:Nat)(d:Nat):Bool:=
 Bool.or (Bool.and (noB P a) (Nat.beq d c)) (Bool.or (GL a λu=>Bool.and (oK P u.2.2) (Bool.and (Nat.ble (Nat.succ u.2.1) d) (gz b b.size u.1 i)))
  (GL a λu=>Bool.and (oK P u.2.2) (Bool.and (Nat.ble d u.2.1) (gz b b.size i u.1))))
def reW (P:Program)(b:Array Oper)(t:TR)(s:O):Prop:=zb P (λ_ _ _ _=>False) b t.ab t.o t.fr s λv _=>v=t.v
def Ww (P:Program)(b:Array Oper)(a:δ Ç)(t:TR):Nat->δ O->Prop
 |_,[]=>True
 |c',s::r=>cj (M4 P b a t.i t.c c') (reW P b t s) (Ww P b a t (c'+1) r)
def Sc (P:Program)(c:Array Oper)(a:δ Ç)(b:δ O):δ TR->Prop
 |[]=>True
 |t::r=>(match Bool.or (rW P t.o) (Bool.or (oK P t.o) (JJ P t.o))with|true=>Sc P c a b r|false=>Ww P c a t 0 b/\Sc P c a b r)
def Ni (P:Program)(c:Array Oper)(b:Nat)(j:Nat):δ TR->δ O->Prop
 |[],_=>True
 |u::r,chain=>cj (Bool.or (Bool.not (oK P u.o)) (Bool.or (gz c c.size u.i j) (gz c c.size j u.i)))
   (match Nat.ble (u.i+1) j with|true=>u.s.m.g b=ν|false=>u.s1.m.g b=u.s.m.g b) (Ni P c b j r chain)
def Se (P:Program)(d:Array Oper)(e:δ TR)(c:δ O):δ TR->Prop
 |[]=>True
 |t::r=>(match rW P t.o with|false=>Se P d e c r|true=>(match t.ab with|some b=>Ni P d b t.i e c|none=>True)/\Se P d e c r)
def Ub (P:Program)(C:aV)(n:Nat)(b:Array Oper)(fr:Fr)(Z:O)(k:Fr->O->Prop):Prop:=
 Rj P b=θ/\K0 P b.toList Z λf e=>E0 P C n b (b.toList.zip f) 0 0 fr e λc d fr' Z'=>
  Sc P b (DA P b.toList 0 0) (d++[Z']) c/\Se P b c (d++[Z']) c/\k fr' Z'
def dp (k:δ K->O->Prop)(b:(δ K->O->Prop)->Prop):Prop:=b k
def Ed (b:δ K->O->(δ K->O->Prop)->Prop):Nat->δ K->O->Prop
 |0,_,_=>False
 |m+1,vs,Z=>b vs Z (Ed b m)
def cV (b:δ K->O->(δ K->O->Prop)->Prop)(c:δ K)(Z:O):Prop:=∃m,Ed b m c Z
def MC (fr:Fr)(c:Operand)(x y:Prop):Prop:=match fI c with|some c=>aA (ev fr c) x y|none=>False
def jW (P:Program)(C:aV)(lv:Nat->υ (δ Nat))(n:Nat):Code->Fr->O->(Fr->O->Prop)->(Nat->Fr->O->Prop)->(Fr->O->Prop)->Prop
 | .skip,fr,Z,b,_,_=>b fr Z
 | .region _ ops draw,fr,Z,b,_,_=>bif draw then Ub P C n ops fr Z b else Wk P C n ops ops.toList fr Z b
 | .seq x y,fr,Z,b,d,kr=>(match lv (Kj y)with
   |none=>jW P C lv n x fr Z (λfr Z=>jW P C lv n y fr Z b d kr) d kr
   |some L=>dp (λe Z=>jW P C lv n y (Nn L e) Z b d kr) λk=>jW P C lv n x fr Z (λfr Z=>k (L.map (fZ fr)) Z) d kr)
 | .cond c x y,fr,Z,b,d,kr=>MC fr c (jW P C lv n x fr Z b d kr) (jW P C lv n y fr Z b d kr)
 | .block id x,fr,Z,b,d,kr=>jW P C lv n x fr Z b (λi fr Z=>bif Nat.beq i id then b fr Z else d i fr Z) kr
 | .loop x,fr,Z,_,d,kr=>(match lv (Kj x)with
   |none=>False
   |some L=>cV (λe Z next=>jW P C lv n x (Nn L e) Z (λfr Z=>next (L.map (fZ fr)) Z) d kr) (L.map (fZ fr)) Z)
 | .exit id,fr,Z,_,d,_=>d id fr Z
 | .scope x,fr,Z,b,d,kr=>jW P C lv n x fr Z b d kr
 | .label _,fr,Z,b,_,_=>b fr Z
 | .ret,fr,Z,_,_,kr=>kr fr Z
 |_,_,_,_,_,_=>False
def Ba (P:Program)(fr:Fr)(Z:O):δ ResultVar->(δ K->Prop)->Prop
 |[],k=>k []
 | .tmp t::l,k=>Ba P fr Z l λb=>k (fZ fr t::b)
 | .cell a t::l,k=>(match P.underlying t,P.info? t with
   |some u,some i=>U (bif jB u then aF i.size (fZ fr a) Z else aw (fZ fr a) Z) λv=>Ba P fr Z l λb=>k (v::b)
   |_,_=>False)
def Wa (P:Program)(fr:Fr)(Z:O)(l:δ ResultVar)(Q:K->O->Prop):Prop:=
 Ba P fr Z l λb=>match b with|[]=>Q .undef Z|[v]=>Q v Z|v::u::b=>Q (.tuple (v::u::b)) Z
def aM (P:Program)(C:aV)(lv:Nat->υ (δ Nat))(f:Nat)(args:δ K)(Z:O)(Q:K->O->Prop):Prop:=
 match iP P f,P.funcs[f]? with
 |true,some fn=>(match fn.body with
  |some c=>jW P C lv fn.ntmps c (sY args) Z (λfr Z=>Wa P fr Z fn.results.toList Q) (λ_ _ _=>False) (λfr Z=>Wa P fr Z fn.results.toList Q)
  |none=>False)
 |_,_=>False
abbrev zr (n:Nat):δ K:=List.replicate n (.int .u8 0)
def A:Nat->δ K->K
 |0,vs=>vs.headD .any
 |i+1,vs=>A i (vs.drop 1)
def fC (t:TypeId)(x:K)(Z:O):OR:=bF x.isAny .bad (cK t x.bY Z)
def O.skip (Z:O):O:=⟨Z.m,Z.nx+1⟩
def iF (g:υ Bool)(Z:O)(y:(K->O->Prop)->Prop)(k:K->O->Prop):Prop:=gdW g Z (y k) k
def bJ (p:Prop):Prop:=(θ=θ)/\p
def fP (off:Nat)(p:K)(Z:O)(k:K->Prop):Prop:=U (df p Z) λp=>U (aj off p Z) λa=>U (aw a Z) k
def oE (c b:Nat)(p:K)(Z:O)(k:K->Prop):Prop:=U (df p Z) λp=>U (aj c p Z) λa=>U (aj b a Z) λa=>U (aw a Z) k
def lI (g:υ Bool)(off:Nat)(p:K)(Z:O)(k:K->Prop):Prop:=U (kx g Z (df p Z)) λp=>U (kx g Z (aj off p Z)) λa=>U (kx g Z (aw a Z)) k
def zu (n off:Nat)(p:K)(Z:O)(k:K->Prop):Prop:=U (df p Z) λp=>U (aj off p Z) λa=>U (aF n a Z) k
def sq (n off:Nat)(p x:K)(Z:O)(k:O->Prop):Prop:=U (df p Z) λp=>U (aj off p Z) λa=>E (aJ n a x Z) λ_ s=>k s
def CY (n c b:Nat)(p x:K)(Z:O)(k:O->Prop):Prop:=U (df p Z) λp=>U (aj c p Z) λa=>U (aj b a Z) λa=>E (aJ n a x Z) λ_ s=>k s
def fl (off:Nat)(p:K)(Z:O)(k:K->Prop):Prop:=U (aj off p Z) λa=>U (aw a Z) k
def gG (g:υ Bool)(off:Nat)(p:K)(Z:O)(k:K->Prop):Prop:=U (kx g Z (aj off p Z)) λa=>U (kx g Z (aw a Z)) k
def QC (n off:Nat)(p:K)(Z:O)(k:K->Prop):Prop:=U (aj off p Z) λa=>U (aF n a Z) k
def fst (n off:Nat)(p x:K)(Z:O)(k:O->Prop):Prop:=U (aj off p Z) λa=>E (aJ n a x Z) λ_ s=>k s
def idx (size:Nat)(x i:K)(Z:O)(k:K->Prop):Prop:=U (de size x i Z) λa=>U (aw a Z) k
def Gh (g:υ Bool)(size:Nat)(x i:K)(Z:O)(k:K->Prop):Prop:=U (kx g Z (de size x i Z)) λa=>U (kx g Z (aw a Z)) k
def fj (n size:Nat)(x i:K)(Z:O)(k:K->Prop):Prop:=U (de size x i Z) λa=>U (aF n a Z) k
def BE (n size:Nat)(x i y:K)(Z:O)(k:O->Prop):Prop:=U (de size x i Z) λa=>E (aJ n a y Z) λ_ s=>k s
def yw (size off:Nat)(x i:K)(Z:O)(k:K->Prop):Prop:=U (de size x i Z) λa=>U (aj off a Z) λa=>U (aw a Z) k
def je (g:υ Bool)(size off:Nat)(x i:K)(Z:O)(k:K->Prop):Prop:=U (kx g Z (de size x i Z)) λa=>U (kx g Z (aj off a Z)) λa=>U (kx g Z (aw a Z)) k
def Eo (n size off:Nat)(x i:K)(Z:O)(k:K->Prop):Prop:=U (de size x i Z) λa=>U (aj off a Z) λa=>U (aF n a Z) k
abbrev gT (c:K)(Z:O)(r:OR):OR:=kx (bj θ c) Z r
abbrev gF (c:K)(Z:O)(r:OR):OR:=kx (bj φ c) Z r
end
section
variable {f:Nat}{Z:O}{Q:K->O->Prop}{r:OR}{k:K->O->Prop}{F:Nat->OR}{op:DE}{fr:Fr}{g:υ Bool}{ops:Array Oper}{o:Oper}{call:gZ}{n:Nat}{v:K}{ab:υ Nat}{s1:O}{a:δ Ç}{chain:δ O}
section
variable (P:Program) (hY:Nat->Nat->υ (δ Nat)) (I:Aj)
def RF (n:Nat):gZ:=C3 P (fX P) hY I n
def rC (f:Nat)(args:δ K)(Z:O)(Q:K->O->Prop):Prop:=∃v Z',(∃N,∀n,N<=n->RF P hY I n f args Z=.ok v Z')/\Q v Z'
end
def JY (F:Nat->OR)(k:K->O->Prop):Prop:=∃v Z',(∃N,∀n,N<=n->F n=.ok v Z')/\k v Z'
section
variable {P:Program} {hY:Nat->Nat->υ (δ Nat)} {I:Aj}
def rC.mono {args:δ K}{b:K->O->Prop}(h:rC P hY I f args Z Q)(c:∀v Z',Q v Z'->b v Z'):rC P hY I f args Z b:=by
 obtain⟨v,Z',e,d⟩:=h;exact⟨v,Z',e,c _ _ d⟩
def JY.const (h:E r k)(b:∀n,F n=r):JY F k:=by
 cases r with
 |ok v Z=>exact⟨v,Z,⟨0,λn _=>b n⟩,h⟩
 |bad=>exact h.elim
def MT (b:Still Z r)(h:U r λv=>k v Z):E r k:=by
 cases r with
 |ok v s=>have:=b.eq v s rfl;subst this;exact h
 |bad=>exact h
def EJ {f:K}{args:δ K}(h:eJ (rC P hY I) f args Z k):JY (λn=>zg (RF P hY I n) f args Z) k:=by
 unfold eJ at h
 split at h
 .exact h
 .exact h.elim
def sM (call:gZ)(op:DE)(fr:Fr)(Z:O)(c:∀f args,op≠ .call f args)(b:∀f args,op≠ .EK f args):dn call op fr Z=dn qc op fr Z:=by
 cases op<;>first|rfl|exact absurd rfl (c _ _)|exact absurd rfl (b _ _)
def Wl (h:abw (rC P hY I) op fr Z k):JY (λn=>dn (RF P hY I n) op fr Z) k:=by
 unfold abw at h
 split at h
 .exact h
 .exact EJ h
 .rename_i h1 h2
  have b:E (dn qc op fr Z) k:=by
   cases hs:op.still with
   |true=>rw[hs]at h;exact MT (uh hs) h
   |false=>rw[hs]at h;exact h
  exact JY.const b λn=>sM _ _ _ _ (λf a e=>h1 f a e) (λf a e=>h2 f a e)
def JY.gd {c:Prop}(h:gdW g Z c k)(d:c->JY F k):JY (λn=>kx g Z (F n)) k:=by
 cases g with
 |none=>exact h.elim
 |some b=>cases b with
  |true=>exact d h
  |false=>exact⟨_,_,⟨0,λn _=>rfl⟩,h⟩
def abv (h:opW (rC P hY I) g op fr Z k):JY (λn=>kx g Z (dn (RF P hY I n) op fr Z)) k:=by
 unfold opW at h
 split at h
 .exact JY.gd h λh=>h
 .exact JY.gd h λh=>EJ h
 .rename_i h1 h2
  have c:E (kx g Z (dn qc op fr Z)) k:=by
   cases hs:op.still with
   |true=>
    rw[hs]at h;refine MT ?_ h;cases g with
    |none=>exact Still.bad
    |some b=>cases b with
     |true=>exact uh hs
     |false=>exact Still.ok _
   |false=>rw[hs]at h;exact h
  refine JY.const c λn=>?_;rw[sM _ _ _ _ (λf a e=>h1 f a e) (λf a e=>h2 f a e)]
def B0 {b:Nat×Bool}(h:o.guard=Φ b):gD ops fr o=nN ops fr b:=by
 unfold gD nN;rw[h];dsimp only;cases (ops[b.1]?).bind (·.dst)with
 |none=>rfl
 |some d=>dsimp only;cases fZ fr d<;>rfl
def Ri (d:nE P o.op=Φ op):nX P call ops o fr Z=match o.guard with|none=>dn call op fr Z|some c=>kx (nN ops fr c) Z (dn call op fr Z):=by
 unfold nX;cases hg:o.guard with
 |none=>
  have:gD ops fr o=Φ θ:=by unfold gD;rw[hg]
  rw[this,d]
 |some c=>
  rw[B0 hg,d];dsimp only;cases nN ops fr c with
  |none=>rfl
  |some b=>cases b<;>rfl
def Hx (h:MY P (rC P hY I) ops o fr Z k):JY (λn=>nX P (RF P hY I n) ops o fr Z) k:=by
 unfold MY at h;cases b:nE P o.op with
 |none=>rw[b]at h;exact h.elim
 |some op=>
  rw[b]at h;dsimp only at h;have e:(λn=>nX P (RF P hY I n) ops o fr Z)=λn=>(match o.guard with|none=>dn (RF P hY I n) op fr Z|some c=>kx (nN ops fr c) Z (dn (RF P hY I n) op fr Z)):=funext λn=>Ri b;rw[e];cases hg:o.guard with
  |none=>rw[hg]at h;exact Wl h
  |some c=>rw[hg]at h;exact abv h
def HY {b:υ Tmp}{k:Fr->Prop}(h:abo n b v fr k):∃fr',Ia n b v fr=Φ fr'/\k fr':=by
 cases b with
 |none=>exact⟨fr,rfl,h⟩
 |some d=>
  have c:(bif Nat.ble (d+1) n then k (fr.put d (Φ v))else False):=h;cases hb:Nat.ble (d+1) n with
  |false=>rw[hb]at c;exact c.elim
  |true=>
   rw[hb]at c;refine⟨_,?_,c⟩;unfold Ia;simp only[dR,aS];rw[gq hb]
def Wj :∀{l:δ Oper} {fr:Fr} {Z:O} {k:Fr->O->Prop},Wk P (rC P hY I) n ops l fr Z k->
 ∃fr' Z',(∃N,∀m,N<=m->rf P (RF P hY I m) n ops l fr Z=.norm fr' Z')/\k fr' Z':=by
 intro l
 induction l with
 |nil=>intro fr Z k h;exact⟨fr,Z,⟨0,λ_ _=>rfl⟩,h⟩
 |cons o l j=>
  intro fr Z k h;obtain⟨v,z,⟨N,q⟩,w⟩:=Hx h;obtain⟨y,i,u⟩:=HY w;obtain⟨fr',Z',⟨x,b⟩,s⟩:=j u;refine⟨fr',Z',⟨max N x,λm C=>?_⟩,s⟩;have c:=q m J;dsimp only at c;rw[zP,c];dsimp only;rcases DV i with⟨e,rfl⟩|⟨d,e,p,rfl⟩
  .rw[e];exact b m J
  .rw[e];dsimp only;rw[gq p];exact b m J
def DN (h:zb P (rC P hY I) ops ab o fr Z k):JY (λn=>iM P (RF P hY I n) ops ab o fr Z) k:=by
 have key:∀(r:OR),E (match o.guard with|none=>r|some c=>kx (nN ops fr c) Z r) k->JY (λ_=>(match gD ops fr o with|some true=>r|some false=>.ok .undef Z|none=>.bad)) k:=by
  intro r d;refine JY.const d λn=>?_;cases hg:o.guard with
  |none=>
   have:gD ops fr o=Φ θ:=by unfold gD;rw[hg]
   rw[this]
  |some c=>
   rw[B0 hg];dsimp only;cases nN ops fr c with
   |none=>rfl
   |some b=>cases b<;>rfl
 unfold zb at h;unfold iM
 split at h
 .rename_i h1;rw[h1];exact Hx h
 .rename_i e b h1;rw[h1];exact key _ h
 .rename_i b h1;rw[h1];dsimp only
  split at h
  .rename_i x hx;rw[hx];exact key _ h
  .exact h.elim
 .exact h.elim
def Kw (h:zb P (λ_ _ _ _=>False) ops ab o fr Z k):JY (λ_=>iM P qc ops ab o fr Z) k:=by
 have d:zb P (rC P (λ_ _=>ν) (λ_ _ _=>Φ .bad)) ops ab o fr Z k:=by
  have e:(rC P (λ_ _=>ν) (λ_ _ _=>Φ OR.bad))=λ_ _ _ _=>False:=by
   funext f args Z k
   refine propext ⟨?_,λh=>h.elim⟩;rintro⟨v,Z',⟨N,b⟩,_⟩;have:=b (N+1) J;unfold RF at this;simp only[C3]at this;cases this
  rw[e];exact h
 obtain⟨v,s1,⟨N,b⟩,c⟩:=DN d;refine⟨v,s1,⟨0,λ_ _=>?_⟩,c⟩
 have e:∀n,RF P (λ_ _=>ν) (λ_ _ _=>Φ OR.bad) n=qc:=by
  intro n
  funext f args Z
  cases n with
  |zero=>rfl
  |succ n=>unfold RF;simp only[C3];rfl
 have:=b N (hI _);dsimp only at this;rw[e]at this;exact this
def OO :∀{l:δ (Oper×υ Nat)} {i c:Nat} {fr:Fr} {Z:O} {k:δ TR->δ O->Fr->O->Prop},E0 P (rC P hY I) n ops l i c fr Z k->
 ∃p q fr' Z',(∃N,∀m,N<=m->tA P (RF P hY I m) n ops l i c fr Z=Φ (p,q,fr',Z'))/\k p q fr' Z':=by
 intro l
 induction l with
 |nil=>intro i c fr Z k h;exact⟨[],[],fr,Z,⟨0,λ_ _=>rfl⟩,h⟩
 |cons o l x=>
  intro i c fr Z k h;obtain⟨v,G,⟨N,y⟩,C⟩:=DN h;obtain⟨D,w,j⟩:=HY C
  have e:∀call,tA P call n ops (o::l) i c fr Z=OR.rec (λv Z'=>qT v λv=>qT Z' λZ'=>
   Option.rec ν (λfr'=>bF (oK P o.1)
    (Option.rec ν (λr=>Φ (⟨i,o.2,o.1,θ,c,fr,v,Z,Z'⟩::r.1,Z::r.2.1,r.2.2)) (tA P call n ops l (Nat.succ i) (Nat.succ c) fr' Z'))
    (Option.rec ν (λr=>Φ (⟨i,o.2,o.1,φ,c,fr,v,Z,Z'⟩::r.1,r.2.1,r.2.2)) (tA P call n ops l (Nat.succ i) c fr' Z'))) (Ia n o.1.dst v fr)) ν (iM P call ops o.2 o.1 fr Z):=λ_=>rfl
  cases hw:oK P o.1 with
  |true=>
   rw[hw]at j;obtain⟨p,q,fr',Z',⟨u,b⟩,s⟩:=x j;refine⟨_,_,fr',Z',⟨max N u,λm z=>?_⟩,s⟩;have d:=y m J;dsimp only at d;rw[e,d];simp only[dR,w,aS,hw,ix];rw[b m J]
  |false=>
   rw[hw]at j;obtain⟨p,q,fr',Z',⟨u,b⟩,s⟩:=x j;refine⟨_,_,fr',Z',⟨max N u,λm z=>?_⟩,s⟩;have d:=y m J;dsimp only at d;rw[e,d];simp only[dR,w,aS,hw,pi,ii];rw[b m J]
def E9 (d:oK P o=φ)(h:iM P qc ops ab o fr Z=.ok v s1):iM P call ops ab o fr Z=.ok v s1:=by
 unfold iM at h⊢
 split at h
 .unfold nX at h⊢
  split at h
  .rename_i c
   try rw[c]
   split at h
   .rename_i op i;rw[sM call op]
    .exact h
    .intro f args e;subst e;cases h
    .intro f args e;subst e;have b:zg qc (ev fr f) (Ob fr args) Z=.ok v s1:=h;unfold zg at b
     split at b<;>cases b
   .cases h
  .exact h
  .cases h
 .exact h
 .exact h
 .cases h
def Kv (c:JJ P o=θ)(d:rW P o=φ)(h:iM P call ops ab o fr Z=.ok v s1)(s:O):∃s2,iM P call ops ab o fr s=.ok v s2:=by
 have e:ma P o=ν:=by
  unfold rW at d;cases e:ma P o with
  |none=>rfl
  |some x=>rw[e]at d;cases d
 unfold JJ at c;unfold iM at h⊢;cases hn:qd P o with
 |some j=>rw[hn]at c;cases c
 |none=>
  rw[hn]at c h;dsimp only at c h;cases ab with
  |some b=>dsimp only at h;rw[e]at h;cases h
  |none=>
   dsimp only at h⊢;unfold nX at h⊢;cases hw:gD ops fr o with
   |none=>rw[hw]at h;cases h
   |some b=>
    rw[hw]at h;cases b with
    |false=>cases h;exact⟨_,rfl⟩
    |true=>
     dsimp only at h⊢;cases i:nE P o.op with
     |none=>rw[i]at h;cases h
     |some op=>
      rw[i]at h c;exact(KO c).eq _ _ h
def Ow (P:Program):∀(l:δ Oper) (i c k:Nat) (o:Oper),l[k]?=Φ o->(DA P l i c)[k]?=Φ (i+k,c+eu P l k,o):=by
 intro l
 induction l with
 |nil=>intro i c k o h;simp at h
 |cons b l d=>
  intro i c k o h;cases k with
  |zero=>simp at h;subst h;rfl
  |succ k=>
   show(DA P l (i+1) (bif oK P b then c+1 else c))[k]?=_;rw[d _ _ k o GU,yJ];cases oK P b<;>simp<;>omega
def JL (P:Program):∀(l:δ Oper) (i c:Nat),(DA P l i c).length=l.length:=by
 intro l
 induction l with
 |nil=>intro i c;rfl
 |cons o l b=>intro i c;show(DA P l _ _).length+1=_;rw[b];rfl
def UD {l:δ Oper}{x:Ç}(h:x∈DA P l 0 0):∃o,l[x.1]?=Φ o/\x=(x.1,eu P l x.1,o):=by
 obtain⟨k,b,rfl⟩:=Di h;rw[JL]at b;have h1:=Ow P l 0 0 k l[k] (li b);rw[li (by rw[JL];exact b)]at h1;have h2:=Â h1;rw[h2];simp only[oa];exact⟨l[k],li b,rfl⟩
def adY {p:δ (υ Nat)}{e:δ TR}{C:δ O}{L i d:O}{H G:Fr}(z:wE P ops.toList L p i)(l:JR (ops.toList.zip p) P call n ops 0 0 H i e C G d)(q:∀(j:Nat) (o:Oper),ops.toList[j]?=Φ o->rW P o=φ){k:Nat}:
 ∀{k':Nat},k<=k'->k'<=ops.toList.length->(∀(j:Nat) (o:Oper),k<=j->j<k'->ops.toList[j]?=Φ o->oK P o=φ)->mu e d k'=mu e d k:=by
 intro k'
 induction k' with
 |zero=>intro h _ _;have:k=0:=by omega
        subst this;rfl
 |succ k' s=>
  intro h M m
  by_cases w:k=k'+1
  .subst w;rfl
  have u:=s J J (λj o c x=>m j o c J);have b:ops.toList[k']?=Φ ops.toList[k']:=li J;generalize ops.toList[k']=o at b;obtain⟨t,ab,c,x,h3,Y,X,W,T,S,N,D,y⟩:=oY z l b;rw[<-l.sr k' t c,<-u,ua (m k' o J J b) (q k' o b) D];unfold mu;rw[c]
def Up {b:Bool}{p q:Prop}(h:cj b p q):q/\(b=φ->p):=by
 cases b with
 |true=>exact⟨h,λe=>by cases e⟩
 |false=>exact⟨h.2,λ_=>h.1⟩
def Wv {t:TR}:∀{chain:δ O} {b:Nat},Ww P ops a t b chain->∀(j:Nat) (s:O),chain[j]?=Φ s->M4 P ops a t.i t.c (b+j)=φ->reW P ops t s:=by
 intro chain
 induction chain with
 |nil=>intro b _ j s h;simp at h
 |cons p r e=>
  intro b h j s hj d;obtain⟨m,l⟩:=Up (show cj _ _ _ from h);cases j with
  |zero=>simp at hj;subst hj;exact l d
  |succ j=>exact e m j s aem (by rw[show b+1+j=b+(j+1) from J];exact d)
def Wt :∀{c:δ TR},Sc P ops a chain c->∀t∈c,rW P t.o=φ->oK P t.o=φ->JJ P t.o=φ->Ww P ops a t 0 chain:=by
 intro c
 induction c with
 |nil=>intro _ t h;cases h
 |cons t0 r j=>
  intro h t b i e d;simp only[Sc]at h;rcases ip.1 b with rfl|b
  .rw[i,e,d]at h;exact h.1
  .split at h
   .exact j h t b i e d
   .exact j h.2 t b i e d
def Sd {b j:Nat}:∀{d:δ TR},Ni P ops b j d chain->∀u∈d,oK P u.o=θ->gz ops ops.size u.i j=φ->gz ops ops.size j u.i=φ->
 (u.i<j->u.s.m.g b=ν)/\(j<u.i->u.s1.m.g b=u.s.m.g b):=by
 intro d
 induction d with
 |nil=>intro _ t h;cases h
 |cons t0 r y=>
  intro h t e q p l;obtain⟨x,w⟩:=Up (show cj _ _ _ from h);rcases ip.1 e with rfl|e
  .have:=w (by rw[q,p,l];rfl);constructor
   .intro c;rw[show Nat.ble (t.i+1) j=θ by rw[nR];exact c]at this;exact this
   .intro c;rw[show Nat.ble (t.i+1) j=φ by cases hb:Nat.ble (t.i+1) j with|false=>rfl|true=>rw[nR]at hb;omega]at this;exact this
  .exact y x t e q p l
def Wu {c:δ TR}:∀{e:δ TR},Se P ops c chain e->∀t∈e,rW P t.o=θ->∀b,t.ab=Φ b->Ni P ops b t.i c chain:=by
 intro e
 induction e with
 |nil=>intro _ t h;cases h
 |cons t0 r m=>
  intro h t d l b j;simp only[Se]at h;rcases ip.1 d with rfl|d
  .rw[l]at h;have:=h.1;rw[j]at this;exact this
  .split at h
   .exact m h t d l b j
   .exact m h.2 t d l b j
def Ua {k:Fr->O->Prop}(h:Ub P (rC P hY I) n ops fr Z k):
 ∃fr' Z',(∃N,∀m,N<=m->fX P (RF P hY I m) n ops fr Z=.norm fr' Z')/\k fr' Z':=by
 obtain⟨ai,h⟩:=h;have ac:=Kx ai;obtain⟨as,iD,dG,hk⟩:=M8 (P:=P) ops.toList Z;rw[hk]at h;obtain⟨fA,ch,fr',Z',⟨N,hN⟩,hR,hL,Hc⟩:=OO h;refine⟨fr',Z',⟨N,λm hm=>?_⟩,Hc⟩;have SI:=hN m hm;unfold fX;rw[hk,SI];dsimp only;have Gt:(ops.toList.zip as).map (·.1)=ops.toList:=List.map_fst_zip aaI;have l:=Ht SI (by rw[Gt];exact ac.s3)
 have ah:∀(i:Nat) (o:Oper),ops.toList[i]?=Φ o->(i,eu P ops.toList i,o)∈DA P ops.toList 0 0:=λi o x=>by
  have:=Ow P ops.toList 0 0 i o x;simp only[oa]at this;exact Do this
 rw[gq];refine⟨ac,?_,?_⟩
 .intro i t q Y aa c s hc;have x:=zK dG l q;obtain⟨t',ab,g1,vx,g2,g3,g4,g5,g6,g7,g8,N0,PZ⟩:=oY dG l x;rw[q]at g1;cases g1
  have hu:∀u∈DA P ops.toList 0 0,oK P u.2.2=θ->∃p∈fA,p.w=θ/\p.c=u.2.1/\p.i=u.1:=by
   intro u hu af;obtain⟨ou,ho,e⟩:=UD hu;obtain⟨p,_,X,_,y,k3,k4,k5,k6,_⟩:=oY dG l ho;have e2:u.2.2=ou:=NL
   have e3:u.2.1=eu P ops.toList u.1:=NL
   exact⟨p,Do X,by rw[k5,<-e2];exact af,by rw[k6,e3],y⟩
  cases ZS:JJ P t.o with
  |true=>exact .inr (.inr (by rw[g3];exact Kv ZS aa N0 s))
  |false=>
   cases S:M4 P ops (DA P ops.toList 0 0) t.i t.c c with
   |true=>
    unfold M4 at S;simp only[xF,mZ,md,Cq]at S;rcases S with⟨Et,S⟩|⟨u,D,C,M⟩|⟨u,D,C,M⟩
    .have rm:=λj o hj=>by
      unfold noB at Et;rw[qu]at Et;have:=Et _ (ah j o hj)
      simpa using this
     have Hd:=(qo.1 x).1;obtain⟨y,n1,n2,n3,n4,n5,n6⟩:=yl dG l (ops.toList.length-i) i J;have e6:=adY dG l rm n1 n2 n3;have e7:mu fA Z' i=t.s:=by unfold mu;rw[q]
     rw[S,g6,n5]at hc;cases hc;refine .inr (.inr ⟨t.s1,?_⟩);rw[e6,e7,g3];exact N0
    .simp only[nR]at M;obtain⟨p,X,y,k3,k4⟩:=hu u D C;exact .inl ⟨p,X,y,by rw[k3];exact M.1,by rw[k4];exact M.2⟩
    .simp only[nR]at M;obtain⟨p,X,y,k3,k4⟩:=hu u D C;exact .inr (.inl ⟨p,X,y,by rw[k3];exact M.1,by rw[k4];exact M.2⟩)
   |false=>
    refine .inr (.inr ?_);have h1:=Wv (Wt hR t (Do q) aa Y ZS) c s hc (by rw[oa];exact S);obtain⟨v,s1,⟨N1,Vm⟩,hv⟩:=Kw h1;subst hv;exact⟨s1,E9 Y (Vm N1 (hI _))⟩
 .intro j tj b hj ag ad d T hd L a1 a2;have Vd:=zK dG l hj;have G:=zK dG l hd;obtain⟨aj,_,m1,m5,m2,m3,_,_,m4,_⟩:=oY dG l Vd;rw[hj]at m1;cases m1;obtain⟨ak,_,p1,_,p2,_,p3,_,p4,_,_,_,ae⟩:=oY dG l G;rw[hd]at p1;cases p1
  have hb:tj.ab=Φ b:=by
   rw[ad]at m5;have:=Â m5;rw[m3,<-this]
  have h1:=Sd (Wu hL tj (Do hj) ag b hb) T (Do hd) L (by rw[p2,m2];exact a1) (by rw[p2,m2];exact a2);rw[p2,m2]at h1;have e1:=ae L;rw[<-p4]at e1;constructor
  .intro H s hs;rw[e1]at hs;cases hs;exact h1.1 H
  .intro H s s' hs xi;rw[e1]at hs;cases hs;have e2:(ch++[Z'])[T.c+1]?=Φ T.s1\/True:=.inr trivial;obtain⟨y,n1,n2,n3,n4,n5,n6⟩:=yl dG l (ops.toList.length-(d+1)) (d+1) (by have:=(qo.1 G).1;omega);have e3:eu P ops.toList (d+1)=T.c+1:=by rw[qt G,L,p4];rfl
   rw[e3]at n5;rw[n5]at xi;cases xi;obtain⟨q1,q2⟩:=gap dG l n1 n2 n3;have e4:=(l.sr d T hd).symm
   by_cases lA:∃z W,d+1<=z/\z<y/\fA[z]?=Φ W/\rW P W.o=θ/\as[z]?=Φ (Φ b)
   .exfalso;obtain⟨z,W,r1,r2,r3,r4,r5⟩:=lA;have:=dG.uniq j z b ad r5;omega
   .rw[q2 b (λz W r1 r2 r3 r4 r5=>lA ⟨z,W,r1,r2,r3,r4,r5⟩),e4];exact h1.2 H
def KR (c:Fr->O->Prop)(d:Nat->Fr->O->Prop)(b:Fr->O->Prop):Rs->Prop
 | .norm fr Z=>c fr Z
 | .exit i fr Z=>d i fr Z
 | .ret fr Z=>b fr Z
 | .bad=>False
def Uo {lv:Nat->υ (δ Nat)}(c:Code):∀{fr:Fr} {Z:O} {d:Fr->O->Prop} {b:Nat->Fr->O->Prop} {kr:Fr->O->Prop},jW P (rC P hY I) lv n c fr Z d b kr->
 ∃r,(∃N,∀m,N<=m->mX P (RF P hY I m) (fX P) lv m n c fr Z=r)/\KR d b kr r:=by
 induction c with
 |skip=>intro fr Z d b kr h;exact⟨.norm fr Z,⟨0,λ_ _=>rfl⟩,h⟩
 |region id ops draw=>
  intro fr Z d b kr h;cases draw with
  |true=>
   obtain⟨fr',Z',⟨N,hN⟩,H⟩:=Ua (show Ub P (rC P hY I) n ops fr Z d from h);exact⟨.norm fr' Z',⟨N,λm hm=>hN m hm⟩,H⟩
  |false=>
   obtain⟨fr',Z',⟨N,hN⟩,H⟩:=Wj (show Wk P (rC P hY I) n ops ops.toList fr Z d from h);exact⟨.norm fr' Z',⟨N,λm hm=>hN m hm⟩,H⟩
 |seq x y hx D=>
  intro fr Z d b kr h
  have key:jW P (rC P hY I) lv n x fr Z (λfr Z=>jW P (rC P hY I) lv n y (zD (lv (Kj y)) fr) Z d b kr) b kr:=by
   have q:(match lv (Kj y)with
    |none=>jW P (rC P hY I) lv n x fr Z (λfr Z=>jW P (rC P hY I) lv n y fr Z d b kr) b kr
    |some L=>dp (λw Z=>jW P (rC P hY I) lv n y (Nn L w) Z d b kr) λk=>jW P (rC P hY I) lv n x fr Z (λfr Z=>k (L.map (fZ fr)) Z) b kr):=h
   cases hl:lv (Kj y)with
   |none=>rw[hl]at q;exact q
   |some L=>rw[hl]at q;exact q
  obtain⟨r,⟨N,hN⟩,p⟩:=hx key;cases r with
  |norm s iD=>
   obtain⟨C,⟨M,z⟩,S⟩:=D (show jW P (rC P hY I) lv n y (zD (lv (Kj y)) s) iD d b kr from p);refine⟨C,⟨max N M,λm hm=>?_⟩,S⟩;show wg (mX P (RF P hY I m) (fX P) lv m n x fr Z) _=C;rw[hN m J];exact z m J
  |exit i s iD=>
   refine⟨.exit i s iD,⟨N,λm hm=>?_⟩,p⟩;show wg (mX P (RF P hY I m) (fX P) lv m n x fr Z) _=_;rw[hN m hm];rfl
  |ret s iD=>
   refine⟨.ret s iD,⟨N,λm hm=>?_⟩,p⟩;show wg (mX P (RF P hY I m) (fX P) lv m n x fr Z) _=_;rw[hN m hm];rfl
  |bad=>exact(show False from p).elim
 |cond c x y hx D=>
  intro fr Z d b kr h;have q:MC fr c (jW P (rC P hY I) lv n x fr Z d b kr) (jW P (rC P hY I) lv n y fr Z d b kr):=h;have e:∀m,mX P (RF P hY I m) (fX P) lv m n (.cond c x y) fr Z=EH c (mX P (RF P hY I m) (fX P) lv m n x) (mX P (RF P hY I m) (fX P) lv m n y) fr Z:=λ_=>rfl;unfold MC at q;cases hc:fI c with
  |none=>rw[hc]at q;exact q.elim
  |some a=>
   rw[hc]at q;dsimp only at q;unfold aA at q
   split at q
   .rename_i hv;obtain⟨r,⟨N,hN⟩,p⟩:=hx q;exact⟨r,⟨N,λm hm=>aaO⟩,p⟩
   .rename_i hv;obtain⟨r,⟨N,hN⟩,p⟩:=D q;exact⟨r,⟨N,λm hm=>aaO⟩,p⟩
   .exact q.elim
 |block id x hx=>
  intro fr Z d b kr h;obtain⟨r,⟨N,hN⟩,p⟩:=hx (show jW P (rC P hY I) lv n x fr Z d (λi fr Z=>bif Nat.beq i id then d fr Z else b i fr Z) kr from h);refine⟨uy id r,⟨N,λm hm=>?_⟩,?_⟩
  .show uy id (mX P (RF P hY I m) (fX P) lv m n x fr Z)=_;rw[hN m hm]
  .cases r with
   |norm s iD=>exact p
   |ret s iD=>exact p
   |bad=>exact p
   |exit i s iD=>
    have G:(bif Nat.beq i id then d s iD else b i s iD):=p;show KR d b kr (bF (Nat.beq i id) (.norm s iD) (.exit i s iD));cases hb:Nat.beq i id with
    |true=>rw[hb]at G;exact G
    |false=>rw[hb]at G;exact G
 |loop x hx=>
  intro fr Z d b kr h
  have q:(match lv (Kj x)with
   |none=>False
   |some L=>cV (λw Z next=>jW P (rC P hY I) lv n x (Nn L w) Z (λfr Z=>next (L.map (fZ fr)) Z) b kr) (L.map (fZ fr)) Z):=h
  cases hl:lv (Kj x)with
  |none=>rw[hl]at q;exact q.elim
  |some L=>
   rw[hl]at q;obtain⟨u,X⟩:=q
   have key:∀(u:Nat) (fr:Fr) (Z:O),Ed (λw Z next=>jW P (rC P hY I) lv n x (Nn L w) Z (λfr Z=>next (L.map (fZ fr)) Z) b kr) u (L.map (fZ fr)) Z->
    ∃r,(∃N,∀m,N<=m->∀j,u<=j->zV (mX P (RF P hY I m) (fX P) lv m n x) (Φ L) j fr Z=r)/\KR d b kr r:=by
    intro u
    induction u with
    |zero=>intro fr Z hh;exact hh.elim
    |succ u W=>
     intro fr Z hh;obtain⟨r,⟨N,hN⟩,p⟩:=hx (show jW P (rC P hY I) lv n x (Nn L (L.map (fZ fr))) Z (λfr Z=>Ed (λw Z next=>jW P (rC P hY I) lv n x (Nn L w) Z (λfr Z=>next (L.map (fZ fr)) Z) b kr) u (L.map (fZ fr)) Z) b kr from hh);cases r with
     |norm s iD=>
      obtain⟨C,⟨M,z⟩,S⟩:=W s iD p;refine⟨C,⟨max N M,λm hm j T=>?_⟩,S⟩;obtain⟨j,rfl⟩:∃i,j=i+1:=⟨j-1,J⟩;show wg (mX P (RF P hY I m) (fX P) lv m n x (zD (Φ L) fr) Z) _=C;rw[show zD (Φ L) fr=Nn L (L.map (fZ fr))from rfl,hN m J];exact z m J j J
     |exit i s iD=>
      refine⟨.exit i s iD,⟨N,λm hm j T=>?_⟩,p⟩;obtain⟨j,rfl⟩:∃i,j=i+1:=⟨j-1,J⟩;show wg (mX P (RF P hY I m) (fX P) lv m n x (zD (Φ L) fr) Z) _=_;rw[show zD (Φ L) fr=Nn L (L.map (fZ fr))from rfl,hN m hm];rfl
     |ret s iD=>
      refine⟨.ret s iD,⟨N,λm hm j T=>?_⟩,p⟩;obtain⟨j,rfl⟩:∃i,j=i+1:=⟨j-1,J⟩;show wg (mX P (RF P hY I m) (fX P) lv m n x (zD (Φ L) fr) Z) _=_;rw[show zD (Φ L) fr=Nn L (L.map (fZ fr))from rfl,hN m hm];rfl
     |bad=>exact(show False from p).elim
   obtain⟨r,⟨N,hN⟩,p⟩:=key u fr Z X;refine⟨r,⟨max N u,λm hm=>?_⟩,p⟩;show zV (mX P (RF P hY I m) (fX P) lv m n x) (lv (Kj x)) m fr Z=r;rw[hl];exact hN m J m J
 |exit id=>intro fr Z d b kr h;exact⟨.exit id fr Z,⟨0,λ_ _=>rfl⟩,h⟩
 |scope x hx=>intro fr Z d b kr h;exact hx h
 |label l=>intro fr Z d b kr h;exact⟨.norm fr Z,⟨0,λ_ _=>rfl⟩,h⟩
 |ret=>intro fr Z d b kr h;exact⟨.ret fr Z,⟨0,λ_ _=>rfl⟩,h⟩
 |rangeFunc f ps x y hx D=>intro fr Z d b kr h;exact(show False from h).elim
 |goto l=>intro fr Z d b kr h;exact(show False from h).elim
 |refuse y=>intro fr Z d b kr h;exact(show False from h).elim
def RI :∀{l:δ ResultVar} {k:δ K->Prop},Ba P fr Z l k->∃vs,KQ P fr Z l=Φ vs/\k vs:=by
 intro l
 induction l with
 |nil=>intro k h;exact⟨[],rfl,h⟩
 |cons r l d=>
  intro k h;have e:KQ P fr Z (r::l)=(match DU P fr Z r,KQ P fr Z l with|some v,some l=>Φ (v::l)|_,_=>ν):=rfl;cases r with
  |tmp t=>
   obtain⟨vs,c,b⟩:=d (show Ba P fr Z l λvs=>k (fZ fr t::vs)from h);exact⟨_,by rw[e,c];rfl,b⟩
  |cell a t=>
   simp only[Ba]at h
   split at h
   .rename_i u i hu hi
    have j:DU P fr Z (.cell a t)=(match (bif jB u then aF i.size (fZ fr a) Z else aw (fZ fr a) Z)with| .ok v _=>Φ v| .bad=>ν):=by
     show(match P.underlying t,P.info? t with
      |some u,some i=>(match bF (jB u) (aF i.size (fZ fr a) Z) (aw (fZ fr a) Z)with| .ok v _=>Φ v| .bad=>ν)
      |_,_=>ν)=_
     rw[hu,hi];dsimp only;rw[aS];cases jB u<;>rfl
    generalize (bif jB u then aF i.size (fZ fr a) Z else aw (fZ fr a) Z)=m at h j;cases m with
    |bad=>exact h.elim
    |ok v s=>
     obtain⟨vs,c,b⟩:=d (show Ba P fr Z l λvs=>k (v::vs)from h);exact⟨_,by rw[e,c,j],b⟩
   .exact h.elim
def V9 {l:δ ResultVar}(h:Wa P fr Z l Q):E (C4 P fr Z l) Q:=by
 obtain⟨b,d,c⟩:=RI h;unfold C4;rw[d];cases b with
 |nil=>exact c
 |cons v b=>cases b with
  |nil=>exact c
  |cons u b=>exact c
def aho (P:Program)(l:δ ResultVar)(r:Rs):OR:=match r with| .norm fr Z=>C4 P fr Z l| .exit _ _ _=>.bad| .ret fr Z=>C4 P fr Z l| .bad=>.bad
def Cy {args:δ K}(z:I f args Z=ν)(h:aM P (rC P hY I) (hY f) f args Z Q):rC P hY I f args Z Q:=by
 unfold aM at h
 split at h
 .rename_i fn C hfn
  split at h
  .rename_i c hb;obtain⟨r,⟨N,y⟩,q⟩:=Uo c h
   have e:∀m,N<=m->RF P hY I (m+1) f args Z=aho P fn.results.toList r:=by
    intro m j;unfold RF;simp only[C3,z];unfold GC;have:=y m j;unfold RF at this;rw[C,aS,gq rfl,hfn];dsimp only;rw[hb];dsimp only;rw[this];cases r<;>rfl
   have l:∀b d,Wa P b d fn.results.toList Q->(∀m,N<=m->RF P hY I (m+1) f args Z=C4 P b d fn.results.toList)->rC P hY I f args Z Q:=by
    intro b d s x;have p:=V9 s;cases u:C4 P b d fn.results.toList with
    |bad=>rw[u]at p;exact p.elim
    |ok v w=>
     rw[u]at p;refine⟨v,w,⟨N+1,λm j=>?_⟩,p⟩;obtain⟨m,rfl⟩:∃i,m=i+1:=⟨m-1,J⟩;rw[x m J,u]
   cases r with
   |norm b d=>exact l b d q (λm j=>e m j)
   |ret b d=>exact l b d q (λm j=>e m j)
   |exit i b d=>exact(show False from q).elim
   |bad=>exact(show False from q).elim
  .exact h.elim
 .exact h.elim
def JT {args:δ K}{Z':O}(b:I f args Z=Φ (.ok v Z'))(h:Q v Z'):rC P hY I f args Z Q:=by
 refine⟨v,Z',⟨1,λm c=>?_⟩,h⟩;obtain⟨m,rfl⟩:∃i,m=i+1:=⟨m-1,J⟩;unfold RF;simp only[C3,b]
end
end
section
variable {Z:O}{p:Nat}{F G:δ Nat}{a:O}{s:δ K}{n:Nat}{z:δ K}
@[simp] def af (v:K)(Z:O)(k:K->Prop):U (.ok v Z) k=k v:=id rfl
@[simp] def aqZ (k:K->Prop):U .bad k=False:=id rfl
@[simp] def aP (v:K)(Z:O)(k:K->O->Prop):E (.ok v Z) k=k v Z:=id rfl
@[simp] def agI (k:K->O->Prop):E .bad k=False:=id rfl
@[simp] def ag (b:Bool)(x y:Prop):aA (.bool b) x y=if b=θ then x else y:=by cases b<;>simp[aA]
def Vy (b c:Bool):bj b (.bool c)=Φ (if b=θ then c else !c):=by cases b<;>rfl
def awG (c:Bool)(Z:O)(r:OR):gT (.bool c) Z r=kx (Φ c) Z r:=id rfl
def awH (c:Bool)(Z:O)(r:OR):gF (.bool c) Z r=kx (Φ (!c)) Z r:=id rfl
@[simp] def aD:(∀b c:Bool,bj b (.bool c)=Φ (if b=θ then c else !c))/\(∀(c:Bool) (Z:O) (r:OR),gT (.bool c) Z r=kx (Φ c) Z r)/\∀(c:Bool) (Z:O) (r:OR),gF (.bool c) Z r=kx (Φ (!c)) Z r:=⟨Vy,awG,awH⟩
@[simp] def nV (b:Bool):bj b .undef=Φ φ:=id rfl
@[simp] def aW (Z:O)(r:OR):kx (Φ θ) Z r=r:=id rfl
@[simp] def bA (Z:O)(r:OR):kx (Φ φ) Z r=.ok .undef Z:=id rfl
@[simp] def dH (Z:O)(y:(K->O->Prop)->Prop)(k:K->O->Prop):iF (Φ θ) Z y k=y k:=id rfl
@[simp] def gP (Z:O)(y:(K->O->Prop)->Prop)(k:K->O->Prop):iF (Φ φ) Z y k=k .undef Z:=id rfl
@[simp] def aZ (p:Prop):bJ p=p:=by simp[bJ]
@[simp] def bU (k:δ K->O->Prop)(b:(δ K->O->Prop)->Prop):dp k b=b k:=id rfl
@[simp] def aH (v:K)(l:δ K):A 0 (v::l)=v:=id rfl
@[simp] def aI (i:Nat)(v:K)(l:δ K):A (i+1) (v::l)=A i l:=id rfl
@[simp] def dv (C:aV)(g:Nat)(f c args:δ K)(Z:O)(k:K->O->Prop):eJ C (.func (.func g) f c) args Z k=C g (f++(args++c)) Z k:=id rfl
@[simp] def aC (c:Bool)(a b:K)(Z:O):bg (.bool c) a b Z=if c=θ then .ok a Z else .ok b Z:=by cases c<;>rfl
@[simp] def aaP (c:Prop)[Decidable c](a b:OR)(k:K->Prop):U (if c then a else b) k=if c then U a k else U b k:=by split<;>rfl
@[simp] def agH (c:Prop)[Decidable c](a b:OR)(k:K->O->Prop):E (if c then a else b) k=if c then E a k else E b k:=by split<;>rfl
@[simp] def au (e:BinOp)(d:υ lB)(c:Bool)(k j:IntKind)(a b:Int)(Z:O):R e d c (.int k a) (.int j b) Z=lb e k a j b Z:=id rfl
@[simp] def cE (k:IntKind)(a b:Int)(Z:O):lb .add k a k b Z=.ok (.int k (k.wrap (a+b))) Z:=QL
@[simp] def dY (k:IntKind)(a b:Int)(Z:O):lb .sub k a k b Z=.ok (.int k (k.wrap (a-b))) Z:=QL
@[simp] def jS (k:IntKind)(a b:Int)(Z:O):lb .mul k a k b Z=.ok (.int k (k.wrap (a*b))) Z:=QL
@[simp] def RZ (k:IntKind)(a b:Int)(Z:O):lb .quo k a k b Z=if b=0 then .bad else .ok (.int k (k.wrap (Int.tdiv a b))) Z:=QL
@[simp] def RY (k:IntKind)(a b:Int)(Z:O):lb .rem k a k b Z=if b=0 then .bad else .ok (.int k (Int.tmod a b)) Z:=QL
@[simp] def cn (k:IntKind)(a b:Int)(Z:O):lb .eql k a k b Z=.ok (.bool (decide (a=b))) Z:=QL
@[simp] def dJ (k:IntKind)(a b:Int)(Z:O):lb .neq k a k b Z=.ok (.bool (!decide (a=b))) Z:=QL
@[simp] def cU (k:IntKind)(a b:Int)(Z:O):lb .lss k a k b Z=.ok (.bool (decide (a<b))) Z:=QL
@[simp] def jt (k:IntKind)(a b:Int)(Z:O):lb .leq k a k b Z=.ok (.bool (decide (a<=b))) Z:=QL
@[simp] def cQ (k:IntKind)(a b:Int)(Z:O):lb .gtr k a k b Z=.ok (.bool (decide (b<a))) Z:=QL
@[simp] def rM (k:IntKind)(a b:Int)(Z:O):lb .geq k a k b Z=.ok (.bool (decide (b<=a))) Z:=QL
@[simp] def fG (e:BinOp)(d:υ lB)(c:Bool)(a b:δ Γ)(Z:O):R e d c (.str a) (.str b) Z=sO e a b Z:=id rfl
def bt {x:Int}(h: -9223372036854775808<=x/\x<=9223372036854775807):IntKind.i64.wrap x=x:=IntWalk.i64_in _ h
@[simp] def cc (c:Bool)(b o:Nat)(Z:O):R .eql (Φ .ptr) c (.ptr b o) .bq Z=.ok (.bool φ) Z:=id rfl
@[simp] def U5 (c:Bool)(b o:Nat)(Z:O):R .neq (Φ .ptr) c (.ptr b o) .bq Z=.ok (.bool θ) Z:=id rfl
@[simp] def YA (c:Bool)(Z:O):R .eql (Φ .slice) c .ae .ae Z=.ok (.bool θ) Z:=id rfl
@[simp] def bZ (b:Bool)(Z:O):kZ .not (.bool b) Z=.ok (.bool (!b)) Z:=id rfl
def okO (o:υ Bool)(Z:O):OR:=match o with|some b=>.ok (.bool b) Z|none=>.bad
@[simp] def ahE (b:Bool)(Z:O):okO (Φ b) Z=.ok (.bool b) Z:=id rfl
def yd (d:lB)(c:Bool)(s t:δ K)(Z:O):R .eql (Φ d) c (.agg s) (.agg t) Z=okO (mN d (.agg s) (.agg t)) Z:=by
 simp only[R,È,Qe];cases mN d (.agg s) (.agg t)<;>rfl
def pB (d:lB)(c:Bool)(s t:δ K)(Z:O):R .neq (Φ d) c (.agg s) (.agg t) Z=okO ((mN d (.agg s) (.agg t)).map (!·)) Z:=by
 simp only[R,È,Qe];cases mN d (.agg s) (.agg t)<;>rfl
@[simp] def aE (a:K)(l:δ K)(Z:O):az (.tuple (a::l)) 0 Z=.ok a Z:=id rfl
@[simp] def aL (a:K)(l:δ K)(i:Nat)(Z:O):az (.tuple (a::l)) (i+1) Z=az (.tuple l) i Z:=id rfl
@[simp] def jM (b o l c g:Nat)(Z:O):aY .slice (.slice b o l c g) Z=.ok (.int .i64 l) Z:=id rfl
@[simp] def oh (Z:O):aY .slice .ae Z=.ok (.int .i64 0) Z:=id rfl
@[simp] def eN (l:δ Γ)(Z:O):aY .str (.str l) Z=.ok (.int .i64 l.length) Z:=id rfl
@[simp] def ju (b:Fn)(f c:δ K)(Z:O):oi b f c Z=.ok (.func b f c) Z:=id rfl
def Nh (o:υ tp)(k:δ K->Prop):Prop:=match o with|some (.cells l _ _)=>k l|some (.ro l _)=>k l|_=>False
def onT (o:υ tp)(k:δ K->TypeId->Bool->Prop):Prop:=match o with|some (.cells l t g)=>k l t g|_=>False
def YF (o:υ K)(k:K->Prop):Prop:=match o with|some v=>k v|none=>False
def onL (o:υ (δ K))(k:δ K->Prop):Prop:=match o with|some v=>k v|none=>False
@[simp] def ak (l:δ K)(t:TypeId)(g:Bool)(k:δ K->Prop):Nh (Φ (.cells l t g)) k=k l:=id rfl
@[simp] def wQ (l:δ K)(o:Obj)(k:δ K->Prop):Nh (Φ (.ro l o)) k=k l:=id rfl
@[simp] def aU (l:δ K)(t:TypeId)(g:Bool)(k:δ K->TypeId->Bool->Prop):onT (Φ (.cells l t g)) k=k l t g:=id rfl
@[simp] def an (v:K)(k:K->Prop):YF (Φ v) k=k v:=id rfl
@[simp] def yi (v:δ K)(k:δ K->Prop):onL (Φ v) k=k v:=id rfl
@[simp] def av (b off:Nat)(Z:O)(k:K->Prop):U (aw (.ptr b off) Z) k=Nh (Z.m.g b) λl=>YF l[off]? k:=by
  simp only[aw];cases Z.m.g b with
  |none=>rfl
  |some blk=>cases blk<;>first|rfl|(rename_i l t g;simp only[Nh];cases l[off]?<;>rfl)|(rename_i l _;simp only[Nh];cases l[off]?<;>rfl)
@[simp] def nW (n b off:Nat)(Z:O)(k:K->Prop):U (aF n (.ptr b off) Z) k=Nh (Z.m.g b) λl=>onL (iv l off n) λs=>k (.agg s):=by
  simp only[aF];cases Z.m.g b with
  |none=>rfl
  |some blk=>cases blk<;>first|rfl|(rename_i l t g;simp only[Nh];cases iv l off n<;>rfl)|(rename_i l _;simp only[Nh];cases iv l off n<;>rfl)
@[simp] def bk (b o:Nat)(Z:O):df (.ptr b o) Z=.ok (.ptr b o) Z:=id rfl
@[simp] def ah (off b o:Nat)(Z:O):aj off (.ptr b o) Z=.ok (.ptr b (o+off)) Z:=id rfl
@[simp] def jR (k:IntKind)(n:Int):K.bY (.int k n)=[.int k n]:=id rfl
@[simp] def afh (b:Bool):K.bY (.bool b)=[.bool b]:=id rfl
@[simp] def aaZ (b o l c g:Nat):K.bY (.slice b o l c g)=[.slice b o l c g]:=id rfl
@[simp] def U2:K.bY .ae=[.ae]:=id rfl
@[simp] def HH (b o:Nat):K.bY (.ptr b o)=[.ptr b o]:=id rfl
@[simp] def ahk (b:Nat):K.bY (.map b)=[.map b]:=id rfl
@[simp] def HG (l:δ Γ):K.bY (.str l)=[.str l]:=id rfl
@[simp] def aN (l:δ K):K.bY (.agg l)=l:=id rfl
@[simp] def afx (k:IntKind)(n:Int):K.isAny (.int k n)=φ:=id rfl
@[simp] def ace (b:Bool):K.isAny (.bool b)=φ:=id rfl
@[simp] def YX (b o l c g:Nat):K.isAny (.slice b o l c g)=φ:=id rfl
@[simp] def afv (b o:Nat):K.isAny (.ptr b o)=φ:=id rfl
@[simp] def afw (b:Nat):K.isAny (.map b)=φ:=id rfl
@[simp] def afu (l:δ Γ):K.isAny (.str l)=φ:=id rfl
@[simp] def afy (l:δ K):K.isAny (.agg l)=φ:=id rfl
@[simp] def Wn:bh []=θ:=id rfl
@[simp] def De (v:K)(l:δ K):bh (v::l)=(cI v&&bh l):=id rfl
@[simp] def Aq (l m:δ K):bh (l++m)=(bh l&&bh m):=by simp[bh]
@[simp] def uq (l:δ Γ):bh (l.map bG)=θ:=by
  simp only[bh,ù,lm];rintro x ⟨b,_,rfl⟩;rfl
@[simp] def YE (k:IntKind)(n:Int):cI (.int k n)=θ:=id rfl
@[simp] def Wo (b:Bool):cI (.bool b)=θ:=id rfl
@[simp] def Ph:cI .ae=θ:=id rfl
@[simp] def YD (b:Nat):cI (.map b)=θ:=id rfl
def bC (l:δ K)(off:Nat)(t:δ K):δ K:=l.take off++(t++l.drop (off+t.length))
@[simp] def aK (n b off:Nat)(x:K)(Z:O)(k:K->O->Prop):E (aJ n (.ptr b off) x Z) k=
 onT (Z.m.g b) λl t g=>(x.bY.length=n/\bh x.bY=θ/\off+n<=l.length)/\k .undef (O.set Z b (.cells (bC l off x.bY) t g)):=by
  simp only[aJ];cases Z.m.g b with
  |none=>rfl
  |some blk=>
   cases blk with
   |cells l t g=>
    simp only[onT,aS,mZ,md]
    by_cases h:x.bY.length=n/\bh x.bY=θ
    .rw[gq h];obtain⟨rfl,e⟩:=h;unfold eB
     by_cases d:off+x.bY.length<=l.length
     .rw[gq d];simp only[E,bC,e,d,sE]
      rfl
     .rw[B d];simp[E,d]
    .rw[B h];simp only[E,eq_iff_iff,false_iff];rintro⟨⟨f,e,_⟩,_⟩;exact h ⟨f,e⟩
   |map es c=>rfl
   |lmap es=>rfl
   |ro l o=>rfl
@[simp] def uf (Z:O)(b:Nat)(blk:tp):(O.set Z b blk).nx=Z.nx:=id rfl
def M5 (Z:O)(b q:Nat)(blk:tp):(O.set Z b blk).m.g q=if q=b then Φ blk else Z.m.g q:=rfl
@[simp] def ao (Z:O)(b:Nat)(blk:tp):(O.set Z b blk).m.g b=Φ blk:=by simp[M5]
def ar (Z:O)(b q:Nat)(blk:tp)(h:q≠b):(O.set Z b blk).m.g q=Z.m.g q:=by simp[M5,h]
@[simp] def ym (Z:O)(blk:tp):(O.new Z blk).nx=Z.nx+1:=id rfl
def F5 (Z:O)(q:Nat)(blk:tp):(O.new Z blk).m.g q=if q=Z.nx then Φ blk else Z.m.g q:=rfl
@[simp] def ay (Z:O)(blk:tp):(O.new Z blk).m.g Z.nx=Φ blk:=by simp[F5]
def bo (Z:O)(q:Nat)(blk:tp)(h:q<Z.nx):(O.new Z blk).m.g q=Z.m.g q:=by simp[F5,Nat.ne_of_lt h]
@[simp] def OV (Z:O):(O.skip Z).nx=Z.nx+1:=id rfl
@[simp] def HD (Z:O):(O.skip Z).m=Z.m:=id rfl
@[simp] def bW (t:TypeId)(z:δ K)(Z:O):cK t z Z=.ok (.ptr Z.nx 0) (O.new Z (.cells z t φ)):=id rfl
@[simp] def og (Z:O):mF ν Z=.ok (.map Z.nx) (O.new Z (.map [] 0)):=id rfl
@[simp] def bz (t:TypeId)(x:K)(Z:O)(k:K->O->Prop):E (fC t x Z) k=(x.isAny=φ/\k (.ptr Z.nx 0) (O.new Z (.cells x.bY t φ))):=by
  unfold fC;cases h:x.isAny<;>simp
@[simp] def Wp (c:Prop)[Decidable c](x:δ K)(k:δ K->Prop):onL (if c then Φ x else ν) k=(c/\k x):=by
  by_cases h:c<;>simp[h,onL]
@[simp] def yj (l:δ K)(off n:Nat)(k:δ K->Prop):onL (iv l off n) k=(off+n<=l.length/\k ((l.drop off).take n)):=by
  unfold iv;exact Wp _ _ _
@[simp] def set_set (Z:O)(b:Nat)(x y:tp):O.set (O.set Z b x) b y=O.set Z b y:=by
  simp only[O.set,O.mk.injEq,and_true];exact PT.ext λp=>by simp only[PT.fw];split<;>rfl
@[simp] def om (l:δ K)(off:Nat)(t:δ K)(h:off+t.length<=l.length):(bC l off t).length=l.length:=by
  simp[bC];omega
def eK (z:δ K)(b:δ wa)(Z:O):aR z b Z=match gY b z with|some s=>.ok (.agg s) Z|none=>.bad:=by
 unfold aR;cases gY b z<;>rfl
def cW (off size:Nat)(x:K)(l:δ wa)(s:δ K):gY ((off,size,x)::l) s=if (x.bY.length=size/\x.isAny=φ)/\off+x.bY.length<=s.length then gY l (bC s off x.bY)else ν:=by
 have e:gY ((off,size,x)::l) s=bF (Nat.beq x.bY.length size&& !x.isAny) (Option.rec ν (λs'=>gY l s') (eB s off x.bY)) ν:=rfl;rw[e];simp only[aS,mZ,md,å]
 by_cases h:x.bY.length=size/\x.isAny=φ
 .simp only[h,and_self,ix,sE];unfold eB bC
  by_cases b:off+x.bY.length<=s.length
  .rw[gq b,gq (by rw[<-h.1];exact b)]
  .rw[B b,B (by rw[<-h.1];exact b)]
 .rw[B h,B (λb=>h b.1)]
@[simp] def mi (s:δ K):gY [] s=Φ s:=id rfl
def dV (Z:O):Prop:=∀b,Z.nx<=b->Z.m.g b=ν
def dV.new (h:dV Z)(blk:tp):dV (O.new Z blk):=λb c=>by
 simp only[ym]at c;rw[F5,B J];exact h b J
def dV.skip (h:dV Z):dV (O.skip Z):=λb c=>h b (by simp only[OV]at c;omega)
def dV.set (h:dV Z)(d:p<Z.nx)(blk:tp):dV (O.set Z p blk):=λb c=>by
 simp only[uf]at c;rw[ar _ _ _ _ J];exact h b c
structure Kp (F:List Nat)(Z Z':O):Prop where
 nx:Z.nx<=Z'.nx
 keep:∀b,(_:b<Z.nx:=by omega)->(_:b∉F:=by simp)->Z'.m.g b=Z.m.g b
 fresh:dV Z->dV Z'
def Kp.refl (F:δ Nat)(Z:O):Kp F Z Z:=⟨hI _,λ_ _ _=>rfl,id⟩
def Kp.trans {b c:O}(h:Kp F a b)(k:Kp G b c)(g:∀q∈G,q∈F\/a.nx<=q:=by simp):Kp F a c:=
 ⟨rx h.nx k.nx,λq f e=>by rw[k.keep q (ov f h.nx) (λj=>by rcases g q j with d|d;exact e d;omega),h.keep q f e],λi=>k.fresh (h.fresh i)⟩
def Kp.new {b:O}(h:Kp F a b)(blk:tp):Kp F a (O.new b blk):=
 ⟨by have:=h.nx;simp;omega,λq c e=>by rw[bo _ _ _ (ov c h.nx),h.keep q c e],λd=>(h.fresh d).new _⟩
def Kp.skip {b:O}(h:Kp F a b):Kp F a (O.skip b):=⟨by have:=h.nx;simp;omega,λq e d=>h.keep q e d,λc=>(h.fresh c).skip⟩
def Kp.set {b:O}(h:Kp F a b)(blk:tp)(f:p∈F\/a.nx<=p)(g:p<b.nx):Kp F a (O.set b p blk):=
 ⟨h.nx,λq j d=>by rw[ar _ _ _ _ (λe=>by subst e;rcases f with c|c;exact d c;omega),h.keep q j d],λi=>(h.fresh i).set g _⟩
def Kp.mono {b:O}(h:Kp F a b)(d:∀q∈F,q∈G\/a.nx<=q):Kp G a b:=
 ⟨h.nx,λq g f=>h.keep q g λe=>by rcases d q e with c|c;exact f c;omega,h.fresh⟩
def dB {s c:O}{b:tp}(h:O.new s b=c):Kp [] s c/\c.m.g s.nx=Φ b/\c.nx=s.nx+1:=by
 subst h;exact⟨(Kp.refl [] s).new _,ay _ _,rfl⟩
def fY {b e:Nat}{c:δ wa}(h:Z.m.g b=ν)(d:gY c z=Φ s):eM b e n z c Z=.ok (.slice b 0 n n 0) (O.set Z b (.cells s e φ)):=by
 unfold eM;rw[h,d];rfl
def wm {k b:Nat}{e:TypeId}{g:Bool}(h:Z.m.g b=Φ (.cells s e g))(l:0<n)(j:s.length=n*k):cZ .slice k z (.slice b 0 n n 0) Z=Φ (n,s):=by
 have i:cZ .slice k z (.slice b 0 n n 0) Z=(match dW k n (.slice b 0 n n 0) Z with|some s=>Φ (n,s)|none=>ν):=rfl
 have f:dW k n (.slice b 0 n n 0) Z=Φ s:=by
  have d:dW k n (.slice b 0 n n 0) Z=bF (Nat.beq n 0) (Φ []) (bF (Bool.or (Nat.beq 0 0) (Nat.ble n n)) (match Z.m.g b with|some (.cells s _ _)=>iv s 0 (n*k)|some (.ro s _)=>iv s 0 (n*k)|_=>ν) ν):=rfl;have c:Nat.beq n 0=φ:=by cases h:Nat.beq n 0 with|false=>rfl|true=>rw[md]at h;omega
  rw[d,c,h];simp only[aS,pi,ii];rw[gq V];unfold iv;rw[gq J,tu,lw J]
 rw[i,f]
def yU:=And.intro @pi @af
def lW:=And.intro @ak @an
def zac:=And.intro @oa @lW
def ll:=And.intro @ag @yU
def zae:=And.intro @ah @zac
def vr:=And.intro @av @zae
def ke:=And.intro @aH @aI
def ly:=And.intro @af @vr
def AC:=And.intro @aC @aD
def Ut:=And.intro @ll @AC
def tw:=And.intro @ra @aW
def DK:=And.intro @aE @aL
def rb:=And.intro @af @lW
def ï:=And.intro @r8 @Ut
def rr:=And.intro @bk @ly
def NE:=And.intro @yU @AC
def xl:=And.intro @af @ag
def xz:=And.intro @aK @aU
def u6:=And.intro @af @DK
def xk:=And.intro @bA @ï
def zY:=And.intro @ll @DK
def yB:=And.intro @bU @ke
def DJ:=And.intro @ke @xl
def DI:=And.intro @tw @NE
def GT:=And.intro @Ut @tw
def GE:=And.intro @aP @xz
def Gz:=And.intro @r8 @bZ
def Gm:=And.intro @oa @an
end
