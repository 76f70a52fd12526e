import Derived.Test.YtomffjeofpafnaaGreatDoorLimC
import Derived.Scope
import Derived.LoopN
namespace Lim
open Go
noncomputable section
set_option linter.defProp false
abbrev uW:=Nat×Nat×fc
inductive Cf where
 |WE (x:fc)
 |pick (c a b:fc)
 |new (t:Nat) (z:List CV)
 |box (t:Nat) (x:fc)
 |build (z:List CV) (parts:List uW)
 |buildSlice (e len:Nat) (z:List CV) (parts:List uW)
 |GF (a:fc)
 |An (n:Nat) (a:fc)
 |store (n:Nat) (a x:fc)
 |nil (x:fc)
 |bin (op:BinOp) (d:Option kj) (Bt:Bool) (x y:fc)
 |un (op:UnOp) (x:fc)
 |conv (c:Ds) (x:fc)
 |Jc (n:Nat) (x:fc)
 |iface (t:Nat) (x:fc)
 |func (fn:Fn) (f c:List fc)
 |mkMap (r:Option fc)
 |mkSlice (e bytes:Nat) (z:List CV) (l c:fc)
 |nT (x:fc) (lo hi:Option fc)
 |qJ (size:Nat) (x:fc) (lo hi:Option fc)
 |slice3 (size:Nat) (x:fc) (lo:Option fc) (hi mx:fc)
 |nV (n size:Nat) (x:fc) (lo hi:Option fc)
 |fieldAddr (off:Nat) (x:fc)
 |field (agg:Bool) (off size:Nat) (x:fc)
 |vE (n size:Nat) (x i:fc)
 |AB (size:Nat) (x i:fc)
 |vD (x i:fc)
 |vF (n size:Nat) (agg:Bool) (x i:fc)
 |lookup (d:kj) (z:CV) (ok:Bool) (x k:fc)
 |mapUpdate (d:kj) (m k x:fc)
 |mapEntry (d:kj) (z:CV) (m k:fc)
 |entryStore (m s x:fc)
 |extract (x:fc) (i:Nat)
 |len (k:Od) (x:fc)
 |append (e size bytes:Nat) (z:List CV) (k:Ia) (s x:fc)
 |copy (str:Bool) (size:Nat) (d s:fc)
 |clear (z:List CV) (x:fc)
 |sK (mx:Bool) (x y:fc)
 |delete (d:kj) (m k:fc)
 |call (f:Nat) (args:List fc)
 |Dh (f:fc) (args:List fc)
def LX (fr:Fr)(l:List fc):List CV:=List.rec [] (λx _ r=>ev fr x::r) l
def Sd (fr:Fr)(x:Option fc):Option CV:=Option.rec none (λx=>some (ev fr x)) x
def NK (fr:Fr)(l:List uW):List uB:=List.rec [] (λp _ r=>(p.1,p.2.1,ev fr p.2.2)::r) l
abbrev gq:=Nat->List CV->St->OR
def xC (call:gq)(f:CV)(args:List CV)(st:St):OR:=
 match f with| .func (.func f) first captured=>call f (first++(args++captured)) st|_=>.bad
def df (call:gq)(op:Cf)(fr:Fr)(st:St):OR:=
 match op with
 | .WE x=>.ok (ev fr x) st
 | .pick c a b=>aX (ev fr c) (ev fr a) (ev fr b) st
 | .new t z=>du t z st
 | .box t x=>bH (ev fr x).isAny .bad (du t (ev fr x).cN st)
 | .build z parts=>bk z (NK fr parts) st
 | .buildSlice e len z parts=>bM e len (cM len z) (NK fr parts) st
 | .GF a=>aC (ev fr a) st
 | .An n a=>aI n (ev fr a) st
 | .store n a x=>aR n (ev fr a) (ev fr x) st
 | .nil x=>dP (ev fr x) st
 | .bin op d Bt x y=>ai op d Bt (ev fr x) (ev fr y) st
 | .un op x=>kY op (ev fr x) st
 | .conv c x=>cW c (ev fr x) st
 | .Jc n x=>oZ n (ev fr x) st
 | .iface t x=>vo t (ev fr x) st
 | .func fn f c=>pZ fn (LX fr f) (LX fr c) st
 | .mkMap r=>jG (Sd fr r) st
 | .mkSlice e bytes z l c=>pe e bytes z (ev fr l) (ev fr c) st
 | .nT x lo hi=>ix (ev fr x) (Sd fr lo) (Sd fr hi) st
 | .qJ size x lo hi=>aQ size (ev fr x) (Sd fr lo) (Sd fr hi) st
 | .slice3 size x lo hi mx=>iU size (ev fr x) (Sd fr lo) (ev fr hi) (ev fr mx) st
 | .nV n size x lo hi=>bY n size (ev fr x) (Sd fr lo) (Sd fr hi) st
 | .fieldAddr off x=>an off (ev fr x) st
 | .field agg off size x=>Ai agg off size (ev fr x) st
 | .vE n size x i=>fV n size (ev fr x) (ev fr i) st
 | .AB size x i=>cc size (ev fr x) (ev fr i) st
 | .vD x i=>ph (ev fr x) (ev fr i) st
 | .vF n size agg x i=>wj n size agg (ev fr x) (ev fr i) st
 | .lookup d z ok x k=>gN d z ok (ev fr x) (ev fr k) st
 | .mapUpdate d m k x=>dO d (ev fr m) (ev fr k) (ev fr x) st
 | .mapEntry d z m k=>fN d z (ev fr m) (ev fr k) st
 | .entryStore m s x=>dX (ev fr m) (ev fr s) (ev fr x) st
 | .extract x i=>av (ev fr x) i st
 | .len k x=>bo k (ev fr x) st
 | .append e size bytes z k s x=>bT e size bytes (ev fr s) (de k size z (ev fr x) st) st
 | .copy str size d s=>gJ str size (ev fr d) (ev fr s) st
 | .clear z x=>sH z (ev fr x) st
 | .sK mx x y=>Cz mx (ev fr x) (ev fr y) st
 | .delete d m k=>pj d (ev fr m) (ev fr k) st
 | .call f args=>call f (LX fr args) st
 | .Dh f args=>xC call (ev fr f) (LX fr args) st
def ia (P:Program)(f:Nat):Bool:=match P.funcs[f]? with|some fn=> !(fn.name== "runtime.NumGoroutine")&&fn.body.isSome|none=>false
def E9 (P:Program)(f:Nat)(args:List CV)(st:St)(v:CV)(st':St):Prop:=
 ∀(ρ:Ren) (w:World) (args':Array Value),WR ρ st w->eK ρ args args'.toList->
  Calls P f args' w λe w'=>∃v' ρ',e=.returned v'/\VR ρ' v v'/\br ρ st w ρ' st' w'
def aia (P:Program)(f:Nat)(args:List CV)(st:St)(v:CV)(st':St):Prop:=
 st'=st/\∀(ρ:Ren) (w:World) (args':Array Value),WR ρ st w->eK ρ args args'.toList->∃v',(callFunc f args').run P w=.ok (.value v') w/\VR ρ v v'
def rD (P:Program)(f:Nat)(args:List CV)(st:St)(v:CV)(st':St):Prop:=(ia P f=true/\E9 P f args st v st')\/aia P f args st v st'
def jm (P:Program)(call:gq):Prop:=∀f args st v st',call f args st=.ok v st'->rD P f args st v st'
def zu (i:TypeInfo):Option (List CV):=
 match i.zero with
 |some z=>bH (Nat.beq z.cells.size i.size) (qT z.cells.toList) none
 |none=>none
def jV {i:TypeInfo}{s:List CV}(h:zu i=some s):∃z,i.zero=some z/\z.cells.size=i.size/\∀ρ,eK ρ s z.cells.toList:=by
 unfold zu at h
 split at h
 .rename_i z hz;simp only[aP,aFw]at h
  split at h
  .rename_i hs;exact⟨z,hz,hs,λρ=>wy _ _ h ρ⟩
  .cases h
 .cases h
def TM (i:TypeInfo):Option CV:=match i.zero with|some z=>ofValue z|none=>none
def Cg {i:TypeInfo}{c:CV}(h:TM i=some c):∃z,i.zero=some z/\∀ρ,VR ρ c z:=by
 unfold TM at h
 split at h
 .rename_i z hz;exact⟨z,hz,λρ=>VR.ofValue h ρ⟩
 .cases h
def yE (l:List Operand):Option (List fc):=List.rec (some []) (λx _ r=>Option.rec none (λr=>Option.rec none (λc=>some (c::r)) (fj x)) r) l
def NY (x:Option Operand):Option (Option fc):=match x with|none=>some none|some x=>(match fj x with|some c=>some (some c)|none=>none)
def tm (place:Nat->Option (Nat×Nat))(l:List (Nat×Operand)):Option (List uW):=
 List.rec (some []) (λp _ r=>Option.rec none (λr=>(match place p.1,fj p.2 with|some (off,size),some c=>some ((off,size,c)::r)|_,_=>none)) r) l
section
variable {P:Program} {ρ:Ren} {st st':St} {w:World} {v:CV} {fr:Fr} {a:Act}
def pA:∀{l:List Operand} {c:List fc},yE l=some c->FR ρ fr a.tmps->eK ρ (LX fr c) (l.map a.eval):=by
 intro l
 induction l with
 |nil=>intro c h _;cases h;exact eK.nil ρ
 |cons x l ih=>
  intro c h hf;have e:yE (x::l)=Option.rec none (λr=>Option.rec none (λc=>some (c::r)) (fj x)) (yE l):=rfl;rw[e]at h;cases hl:yE l with
  |none=>rw[hl]at h;cases h
  |some r=>
   rw[hl]at h;cases hx:fj x with
   |none=>rw[hx]at h;cases h
   |some c'=>
    rw[hx]at h;cases h;exact eK.cons (bu hx hf) (ih hl hf)
def fP {x:Option Operand}{c:Option fc}(h:NY x=some c)(hf:FR ρ fr a.tmps):Td ρ (Sd fr c) (x.map a.eval):=by
 unfold NY at h
 split at h
 .cases h;trivial
 .split at h
  .rename_i x c' hc;cases h;exact bu hc hf
  .cases h
def nH {place:Nat->Option (Nat×Nat)}:∀{l:List (Nat×Operand)} {c:List uW},tm place l=some c->FR ρ fr a.tmps->ry ρ place (NK fr c) (l.map λp=>(p.1,a.eval p.2)):=by
 intro l
 induction l with
 |nil=>intro c h _;cases h;exact .nil
 |cons p l ih=>
  intro c h hf;have e:tm place (p::l)=Option.rec none (λr=>(match place p.1,fj p.2 with|some (off,size),some c=>some ((off,size,c)::r)|_,_=>none)) (tm place l):=rfl;rw[e]at h;cases hl:tm place l with
  |none=>rw[hl]at h;cases h
  |some r=>
   rw[hl]at h;dsimp only at h
   split at h
   .rename_i off size c' h1 h2;cases h;exact .cons p.1 off size (ev fr c') _ _ _ h1 (bu h2 hf) (ih hl hf)
   .cases h
end
def Wa (P:Program)(l:List Field):Bool:=l.all λf=>(P.info? f.type).isSome
def Sg (P:Program)(op:BinOp)(t:TypeId):Option kj:=
 match op with
 | .eql| .neq=>(match fZ P 40 t with
   |some d=>bH (HV d) (bH (P.eqGuardType P.depth t) none (some d)) (some d)
   |none=>none)
 |_=>none
def A3 (P:Program)(s d:TypeId):Option Ds:=
 match P.underlying s,P.underlying d with
 |some _,some (.int k)=>some (.toInt k)
 |some .string,some .string=>some .same
 |some .string,some (.slice e)=>(match P.underlying e with|some (.int .u8)=>some (.bytesOf e)|_=>none)
 |some (.slice e),some .string=>(match P.underlying e with|some (.int .u8)=>some .strOf|_=>none)
 |_,_=>none
def keyOf (P:Program)(t:TypeId):Option (TypeId×kj):=
 match P.underlying t with
 |some (.map k e)=>(match fZ P 40 k with|some d=>bH (iw 40 d) (some (e,d)) none|none=>none)
 |_=>none
def Er (P:Program)(t:TypeId):Option Od:=
 match P.underlying t with
 |some .string=>some .str
 |some (.slice _)=>some .slice
 |some (.map _ _)=>some .map
 |some (.array n _)=>some (.const n)
 |some (.pointer a)=>(match P.underlying a with|some (.array n _)=>some (.const n)|_=>none)
 |_=>none
def DH (P:Program)(u:TypeId)(size:Nat):Option Ia:=
 match P.underlying u with
 |some (.slice _)=>some .slice
 |some .string=>bH (Nat.beq size 1) (some .str) none
 |some (.int _)=>some .zeros
 |_=>none
def Fp (k:Ia)(bytes:Nat):Bool:=match k with| .zeros=>Nat.ble bytes 256|_=>true
def tk (P:Program)(b:Builtin)(ats:List TypeId)(args:List Operand):Option Cf:=
 match b,ats,args with
 | .len,t::_,[x]=>(match Er P t,fj x with|some k,some x=>some (.len k x)|_,_=>none)
 | .cap,t::_,[x]=>(match P.underlying t,fj x with|some (.slice _),some x=>some (.len .cap x)|_,_=>none)
 | .append,[t,u],[s,x]=>(match P.underlying t,fj s,fj x with
   |some (.slice e),some s,some x=>(match P.info? e with
    |some i=>(match zu i,DH P u i.size with|some z,some k=>bH (Fp k i.bytes) (some (.append e i.size i.bytes z k s x)) none|_,_=>none)
    |none=>none)
   |_,_,_=>none)
 | .copy,[t,u],[d,s]=>(match P.underlying t,P.underlying u,fj d,fj s with
   |some (.slice e),some su,some d,some s=>(match P.info? e,su with
    |some i,.slice _=>some (.copy false i.size d s)
    |some i,.string=>bH (Nat.beq i.size 1) (some (.copy true i.size d s)) none
    |_,_=>none)
   |_,_,_,_=>none)
 | .clear,[t],[x]=>(match P.underlying t,fj x with
   |some (.slice e),some x=>(match P.info? e with|some i=>(match zu i with|some z=>some (.clear z x)|none=>none)|none=>none)
   |_,_=>none)
 | .max,_,[x,y]=>(match fj x,fj y with|some x,some y=>some (.sK true x y)|_,_=>none)
 | .min,_,[x,y]=>(match fj x,fj y with|some x,some y=>some (.sK false x y)|_,_=>none)
 | .delete,t::_,[m,k]=>(match keyOf P t,fj m,fj k with|some (_,d),some m,some k=>some (.delete d m k)|_,_,_=>none)
 |_,_,_=>none
def mj (P:Program)(op:Op):Option Cf:=
 match op with
 | .move x=>(match fj x with|some x=>some (.WE x)|none=>none)
 | .assign x=>(match fj x with|some x=>some (.WE x)|none=>none)
 | .pick c a b=>(match fj c,fj a,fj b with|some c,some a,some b=>some (.pick c a b)|_,_,_=>none)
 | .alloc t=>(match P.info? t with|some i=>(match zu i with|some z=>some (.new t z)|none=>none)|none=>none)
 | .box t x=>(match fj x with|some x=>some (.box t x)|none=>none)
 | .build t parts=>(match P.underlying t,P.info? t with
   |some (.struct fs),some i=>(match zu i,tm (DW P fs) parts.toList,Wa P fs.toList with|some z,some ps,true=>some (.build z ps)|_,_,_=>none)
   |some (.array _ e),some i=>(match P.info? e with|some j=>(match zu i,tm (mS j.size) parts.toList with|some z,some ps=>some (.build z ps)|_,_=>none)|none=>none)
   |_,_=>none)
 | .buildSlice t len parts=>(match P.underlying t with
   |some (.slice e)=>(match P.info? e with
    |some i=>bH (Nat.ble (Nat.mul len i.size) 16777216) (match zu i,tm (mS i.size) parts.toList with|some z,some ps=>some (.buildSlice e len z ps)|_,_=>none) none
    |none=>none)
   |_=>none)
 | .load t x=>(match P.underlying t,P.info? t,fj x with|some u,some i,some x=>bH (iF u) (some (.An i.size x)) (some (.GF x))|_,_,_=>none)
 | .store t x y=>(match P.info? t,fj x,fj y with|some i,some x,some y=>some (.store i.size x y)|_,_,_=>none)
 | .nilCheck x=>(match fj x with|some x=>some (.nil x)|none=>none)
 | .binOp op t x y _=>(match fj x,fj y with|some x',some y'=>some (.bin op (Sg P op t) (Ma x y) x' y')|_,_=>none)
 | .unOp op _ x=>(match fj x with|some x=>some (.un op x)|none=>none)
 | .convert s d x=>(match A3 P s d,fj x with|some c,some x=>some (.conv c x)|_,_=>none)
 | .sliceToArrayPointer t x=>(match P.underlying t,fj x with|some (.array n _),some x=>some (.Jc n x)|_,_=>none)
 | .makeInterface t x=>(match P.concrete t,fj x with|true,some x=>some (.iface t x)|_,_=>none)
 | .makeFunc fn f c=>(match yE f.toList,yE c.toList with|some f,some c=>some (.func fn f c)|_,_=>none)
 | .makeMap t r=>(match P.underlying t,NY r with|some (.map _ _),some r=>some (.mkMap r)|_,_=>none)
 | .makeSlice t l c=>(match P.underlying t,fj l,fj c with
   |some (.slice e),some l,some c=>(match P.info? e with|some i=>(match zu i with|some z=>some (.mkSlice e i.bytes z l c)|none=>none)|none=>none)
   |_,_,_=>none)
 | .slice t x lo hi mx=>(match P.underlying t,fj x,NY lo,NY hi,NY mx with
   |some .string,some x,some lo,some hi,some none=>some (.nT x lo hi)
   |some (.slice e),some x,some lo,some hi,some none=>(match P.info? e with|some i=>some (.qJ i.size x lo hi)|none=>none)
   |some (.slice e),some x,some lo,some (some hi),some (some mx)=>(match P.info? e with|some i=>some (.slice3 i.size x lo hi mx)|none=>none)
   |some (.array n e),some x,some lo,some hi,some none=>(match P.info? e with|some i=>some (.nV n i.size x lo hi)|none=>none)
   |_,_,_,_,_=>none)
 | .fieldAddr t x f=>(match P.underlying t,fj x with
   |some (.struct fs),some x=>(match fs[f]? with
    |some fd=>(match P.info? fd.type with|some i=>bH (Nat.beq i.size 0) none (some (.fieldAddr fd.offset x))|none=>none)
    |none=>none)
   |_,_=>none)
 | .field t x f=>(match P.underlying t,fj x with
   |some (.struct fs),some x=>(match fs[f]? with
    |some fd=>(match P.info? fd.type,P.underlying fd.type with|some i,some u=>some (.field (iF u) fd.offset i.size x)|_,_=>none)
    |none=>none)
   |_,_=>none)
 | .indexAddr t x i=>(match P.underlying t,fj x,fj i with
   |some (.array n e),some x,some i=>(match P.info? e with|some j=>some (.vE n j.size x i)|none=>none)
   |some (.slice e),some x,some i=>(match P.info? e with|some j=>some (.AB j.size x i)|none=>none)
   |_,_,_=>none)
 | .index t x i=>(match P.underlying t,fj x,fj i with
   |some .string,some x,some i=>some (.vD x i)
   |some (.array n e),some x,some i=>(match P.info? e,P.underlying e with|some j,some u=>some (.vF n j.size (iF u) x i)|_,_=>none)
   |_,_,_=>none)
 | .lookup t x k ok=>(match keyOf P t,fj x,fj k with
   |some (e,d),some x,some k=>(match P.info? e with|some i=>(match TM i with|some z=>some (.lookup d z ok x k)|none=>none)|none=>none)
   |_,_,_=>none)
 | .mapUpdate t m k x| .insert t m k x=>(match keyOf P t,fj m,fj k,fj x with|some (_,d),some m,some k,some x=>some (.mapUpdate d m k x)|_,_,_,_=>none)
 | .mapEntry t m k=>(match keyOf P t,fj m,fj k with
   |some (e,d),some m,some k=>(match P.info? e with|some i=>(match TM i with|some z=>some (.mapEntry d z m k)|none=>none)|none=>none)
   |_,_,_=>none)
 | .entryStore _ m s x=>(match fj m,fj s,fj x with|some m,some s,some x=>some (.entryStore m s x)|_,_,_=>none)
 | .extract x i=>(match fj x with|some x=>some (.extract x i)|none=>none)
 | .call {callee:=.builtin b,args,argTypes}=>tk P b argTypes.toList args.toList
 | .call {callee:=.value (.func f),args, .. }=>(match yE args.toList with|some l=>some (.call f l)|none=>none)
 | .call {callee:=.value f,args, .. }=>(match fj f,yE args.toList with|some f,some l=>some (.Dh f l)|_,_=>none)
 |_=>none
section
variable {P:Program} {ρ:Ren} {st st':St} {w:World} {v:CV} {fr:Fr} {a:Act} {call:gq}
def wv {o:Oper}{next:Act->World->Prop}{Q:Exit->Act->World->Prop}(h:Kt P (execOp a.eval o) ρ st w v st')
 (hn:∀v' w' ρ',VR ρ' v v'->br ρ st w ρ' st' w'->next (a.put o.dst v') w'):o.wp P a w next Q:=by
 obtain⟨x,v',w',ρ',h1,h2,h3,h4⟩:=h;unfold Oper.wp;rw[h1];rcases h2 with rfl|⟨rfl,rfl⟩
 .exact hn v' w' ρ' h3 h4
 .exact hn _ w' ρ' h3 h4
def ov {t e:TypeId}{d:kj}(h:keyOf P t=some (e,d)):∃k,P.underlying t=some (.map k e)/\fZ P 40 k=some d/\iw 40 d=true:=by
 unfold keyOf at h
 split at h
 .rename_i k e' hu
  split at h
  .rename_i d' hd;rw[aP]at h
   split at h
   .rename_i hk;cases h;exact⟨k,hu,hd,hk⟩
   .cases h
  .cases h
 .cases h
def AZ {op:BinOp}{t:TypeId}{d:kj}(h:Sg P op t=some d):fZ P 40 t=some d/\(HV d=true->P.eqGuardType P.depth t=false):=by
 have key:∀{x:Option kj},(match fZ P 40 t with
  |some d=>bH (HV d) (bH (P.eqGuardType P.depth t) none (some d)) (some d)
  |none=>none)=some d->fZ P 40 t=some d/\(HV d=true->P.eqGuardType P.depth t=false):=by
  intro _ h
  split at h
  .rename_i d' hd;simp only[aP]at h
   split at h
   .split at h
    .cases h
    .rename_i hg;cases h;exact⟨hd,λ_=>by simpa using hg⟩
   .rename_i ha;cases h;exact⟨hd,λe=>absurd e ha⟩
  .cases h
 unfold Sg at h
 split at h
 .exact key (x:=none) h
 .exact key (x:=none) h
 .cases h
def Cb {s d:TypeId}{c:Ds}(h:A3 P s d=some c):HJ P c s d:=by
 unfold A3 at h
 split at h
 .rename_i u k h1 h2;cases h;exact⟨h2,u,h1⟩
 .rename_i h1 h2;cases h;exact⟨h2,h1⟩
 .rename_i e h1 h2
  split at h
  .rename_i h3;cases h;exact⟨h2,h3,h1⟩
  .cases h
 .rename_i e h1 h2
  split at h
  .rename_i h3;cases h;exact⟨e,h1,h3,h2⟩
  .cases h
 .cases h
def Ep {t:TypeId}{k:Od}(h:Er P t=some k):Lj P k t:=by
 unfold Er at h
 split at h
 .rename_i hu;cases h;exact hu
 .rename_i e hu;cases h;exact⟨e,hu⟩
 .rename_i k e hu;cases h;exact⟨k,e,hu⟩
 .rename_i n e hu;cases h;exact .inl ⟨e,hu⟩
 .rename_i a hu
  split at h
  .rename_i n e Zt;cases h;exact .inr ⟨a,e,hu,Zt⟩
  .cases h
 .cases h
def DG {u:TypeId}{size:Nat}{k:Ia}(h:DH P u size=some k):DI P k u size:=by
 unfold DH at h
 split at h
 .rename_i e hu;cases h;exact⟨e,hu⟩
 .rename_i hu;simp only[aP,aFw]at h
  split at h
  .rename_i hs;cases h;exact⟨hu,hs⟩
  .cases h
 .rename_i j hu;cases h;exact⟨j,hu⟩
 .cases h
def tM {t:TypeId}{u:TypeDesc}(hu:P.underlying t=some u):(isAgg t).run P w=.ok (iF u) w:=by
 cases u<;>simp[isAgg,aEZ hu,iF]
def ie {t:TypeId}{i:TypeInfo}(hi:P.info? t=some i):(Go.sizeOf t).run P w=.ok i.size w:=ack
def wW {b:Builtin}{ats:Array TypeId}{args:Array Operand}{op:Cf}{ty:TypeId}{cs:Array Bool}(h:tk P b ats.toList args.toList=some op)(hr:df call op fr st=.ok v st')(hw:WR ρ st w)(hf:FR ρ fr a.tmps):
 Kt P (builtin b ats ty cs (args.map a.eval)) ρ st w v st':=by
 obtain⟨ats⟩:=ats;obtain⟨args⟩:=args;rw[show Array.map a.eval ⟨args⟩=(args.map a.eval).toArray from uG];unfold tk at h
 split at h
 .rename_i t r x ht hx;cases ht;cases hx
  split at h
  .rename_i k x' hk BN;cases h;have:=Jw (P:=P) (ty:=ty) hr hw (bu BN hf) (Ep hk) (t::r).toArray uG;exact this.iu
  .cases h
 .rename_i t r x ht hx;cases ht;cases hx
  split at h
  .rename_i e x' hk BN;cases h;exact(Jy (P:=P) (ty:=ty) hr hw (bu BN hf) hk (t::r).toArray uG).iu
  .cases h
 .rename_i t u s x ht hx;cases ht;cases hx
  split at h
  .rename_i e s' x' hu vG BN
   split at h
   .rename_i i hi
    split at h
    .rename_i z k hz hk;rw[aP]at h
     split at h
     .rename_i hzf;cases h;obtain⟨z',z1,z2,z3⟩:=jV hz;have:=BM (P:=P) (t:=t) (u:=u) (ty:=ty) hr hw (bu vG hf) (bu BN hf) (DG hk) hu hi z1 rfl z2 z3 rfl (λhkz=>by subst hkz;simpa[Fp]using hzf);exact this.iu
     .cases h
    .cases h
   .cases h
  .cases h
 .rename_i t u d s ht hx;cases ht;cases hx
  split at h
  .rename_i e su d' s' hu hsu Fh vG
   split at h
   .rename_i i e2 hi;cases h;have:=yk (P:=P) (dT:=t) (sT:=u) (ty:=ty) hr hw (bu Fh hf) (bu vG hf) hu hi rfl (λe=>by cases e);exact this.iu
   .rename_i i hi;simp only[aP,aFw]at h
    split at h
    .rename_i h1;cases h;have:=yk (P:=P) (dT:=t) (sT:=u) (ty:=ty) hr hw (bu Fh hf) (bu vG hf) hu hi rfl (λ_=>h1);exact this.iu
    .cases h
   .cases h
  .cases h
 .rename_i t x ht hx;cases ht;cases hx
  split at h
  .rename_i e x' hu BN
   split at h
   .rename_i i hi
    split at h
    .rename_i z hz;cases h;obtain⟨z',z1,z2,z3⟩:=jV hz;have:=Ed (P:=P) (t:=t) (ty:=ty) hr hw (bu BN hf) hu hi z1 z3;exact this.iu
    .cases h
   .cases h
  .cases h
 .rename_i x y hx;cases hx
  split at h
  .rename_i x' y' BN hy';cases h;have:=Cy (P:=P) (mx:=true) (ats:=ats.toArray) (ty:=ty) hr hw (bu BN hf) (bu hy' hf);exact bK.iu (s:=Builtin.max_ ats.toArray ty #[a.eval x,a.eval y]) this
  .cases h
 .rename_i x y hx;cases hx
  split at h
  .rename_i x' y' BN hy';cases h;have:=Cy (P:=P) (mx:=false) (ats:=ats.toArray) (ty:=ty) hr hw (bu BN hf) (bu hy' hf);exact bK.iu (s:=Builtin.min_ ats.toArray ty #[a.eval x,a.eval y]) this
  .cases h
 .rename_i t r m k ht hx;cases ht;cases hx
  split at h
  .rename_i e d m' k' hk AK CT;cases h;obtain⟨kt,k1,k2,k3⟩:=ov hk;have:=BK (P:=P) (ty:=ty) (ats:=(t::r).toArray) uG hr hw (bu AK hf) (bu CT hf) k1 k2 qE k3;exact this.iu
  .cases h
 .cases h
end
section
variable {f:FuncId}{o:Oper}{next:Act->World->Prop}{Q:Exit->Act->World->Prop}
section
variable {P:Program} {ρ:Ren} {st st':St} {w:World} {v:CV} {fr:Fr} {a:Act} {call:gq}
def DO (args:Array Value)(h:ia P f=true):(callFunc f args).run P w=.ok (.enter f args) w:=by
 unfold ia at h
 split at h
 .rename_i fn hfn;simp only[aFl,aHA]at h;have h1:¬(fn.name== "runtime.NumGoroutine")=true:=by rw[h.1];simp
  have h2:¬fn.body.isNone=true:=by
   have:=h.2;cases hb:fn.body<;>simp_all
  simp only[callFunc,Sem.run_bind,run_program,Result.andThen_ok,hfn];rw[aET h1,aET h2]
  rfl
 .cases h
def Cr {first captured:Array Value}{x:Operand}{args:Array Operand}{ats:Array TypeId}{dst:Option Tmp}{ty:TypeId}{pos:String}{after:Array Edge}{guard:Option (Nat×Bool)}
 (hx:a.eval x=.func (.func f) first captured):
 (execOp a.eval {dst,op:=.call {callee:=.value x,args,argTypes:=ats},type:=ty,pos,after,guard}).run P w=(callFunc f (first++args.map a.eval++captured)).run P w:=by
 have e:execOp a.eval {dst,op:=.call {callee:=.value x,args,argTypes:=ats},type:=ty,pos,after,guard}=
  (do let d<-Deferred.ofValue (a.eval x) (args.map a.eval);invoke d.target d.args):=rfl
 rw[e,hx];simp only[Deferred.ofValue,Sem.run_bind,Sem.run_pure,Result.andThen_ok,invoke]
def SI {args:List CV}{args':Array Value}(hc:jm P call)(hr:call f args st=.ok v st')(hw:WR ρ st w)(ha:eK ρ args args'.toList)
 (jZ:(execOp a.eval o).run P w=(callFunc f args').run P w) (hn:∀v' w' ρ',VR ρ' v v'->br ρ st w ρ' st' w'->next (a.put o.dst v') w'):o.wp P a w next Q:=by
 rcases hc f args st v st' hr with⟨h1,h2⟩|⟨h1,h2⟩
 .unfold Oper.wp;rw[jZ,DO _ h1,Oper.upon_enter];refine(h2 ρ w args' hw ha).mono ?_;rintro e w' ⟨v',ρ',rfl,hv,hA⟩;exact hn v' w' ρ' hv hA
 .subst h1;obtain⟨v',h3,h4⟩:=h2 ρ w args' hw ha;unfold Oper.wp;rw[jZ,h3,Oper.upon_value];exact hn v' w ρ h4 (br.refl hw)
def NX {f:CV}{args:List CV}(hr:xC call f args st=.ok v st'){f':Value}(hf:VR ρ f f'){args':List Value}(ha:eK ρ args args'):
 ∃g first captured,f'=.func (.func g) first captured/\∃l,call g l st=.ok v st'/\eK ρ l (first++args'.toArray++captured).toList:=by
 unfold xC at hr
 split at hr
 .rename_i g fi ca;cases hf with
  |func _ _ _ f' c' hf hc h1 h2=>
   refine⟨g,f'.toArray,c'.toArray,rfl,_,hr,?_⟩;have:=(eK.mk (ρ:=ρ) hf h1).app (ha.app (eK.mk (ρ:=ρ) hc h2))
   simpa using this
 .cases hr
def EX (hc:jm P call){op:Cf}(h:mj P o.op=some op)(hr:df call op fr st=.ok v st')(hw:WR ρ st w)(hf:FR ρ fr a.tmps)
 (hn:∀v' w' ρ',VR ρ' v v'->br ρ st w ρ' st' w'->next (a.put o.dst v') w'):o.wp P a w next Q:=by
 obtain⟨dst,oop,ty,pos,after,guard⟩:=o;have fin:∀{s:Sem Next},s=execOp a.eval ⟨dst,oop,ty,pos,after,guard⟩->Kt P s ρ st w v st'->Oper.wp P ⟨dst,oop,ty,pos,after,guard⟩ a w next Q:=λe hd=>wv (e▸hd) hn;dsimp only at h;unfold mj at h
 split at h
 .rename_i x
  split at h
  .rename_i x' hx;cases h;cases hr;exact fin rfl ⟨.value (a.eval x),a.eval x,w,ρ,rfl,.inl rfl,bu hx hf,br.refl hw⟩
  .cases h
 .rename_i x
  split at h
  .rename_i x' hx;cases h;cases hr;exact fin rfl ⟨.value (a.eval x),a.eval x,w,ρ,rfl,.inl rfl,bu hx hf,br.refl hw⟩
  .cases h
 .split at h
  .rename_i h1 h2 h3;cases h;exact fin rfl (Gr hr hw (bu h1 hf) (bu h2 hf) (bu h3 hf))
  .cases h
 .split at h
  .rename_i i hi
   split at h
   .rename_i z hz;cases h;obtain⟨z',z1,z2,z3⟩:=jV hz;exact fin rfl (Ef hr hw hi z1 z3).iu
   .cases h
  .cases h
 .split at h
  .rename_i hx;cases h;exact fin rfl (Jz hr hw (bu hx hf)).iu
  .cases h
 .split at h
  .rename_i fs i hu hi
   split at h
   .rename_i z ps hz hp eU;cases h;obtain⟨z',z1,z2,z3⟩:=jV hz;have Xj:=nH hp hf;refine fin rfl (BL hr hw hu hi z1 z3 acW (λf hfm=>?_)).iu;have:=List.all_eq_true.1 eU f hfm;exact Option.isSome_iff_exists.1 this
   .cases h
  .rename_i n e i hu hi
   split at h
   .rename_i j hj
    split at h
    .rename_i z ps hz hp;cases h;obtain⟨z',z1,z2,z3⟩:=jV hz;have Xj:=nH hp hf;exact fin rfl (Ee hr hw hu hi z1 z3 hj acW).iu
    .cases h
   .cases h
  .cases h
 .split at h
  .rename_i e hu
   split at h
   .rename_i i hi;simp only[aP,aFs]at h
    split at h
    .rename_i hle
     split at h
     .rename_i z ps hz hp;cases h;obtain⟨z',z1,z2,z3⟩:=jV hz;have Xj:=nH hp hf;exact fin rfl (wo hr hw hu hi z1 z2 z3 acW hle).iu
     .cases h
    .cases h
   .cases h
  .cases h
 .split at h
  .rename_i u i x' hu hi hx;rw[aP]at h
   split at h
   .rename_i ha;cases h;exact fin rfl (D8 hr hw (bu hx hf) (by rw[tM hu,ha]) (ie hi)).iu
   .rename_i ha;cases h;exact fin rfl (D9 hr hw (bu hx hf) aci).iu
  .cases h
 .split at h
  .rename_i i x' y' hi hx hy;cases h;exact fin rfl (DY hr hw (bu hx hf) (bu hy hf) (ie hi)).iu
  .cases h
 .rename_i x
  split at h
  .rename_i x' hx;cases h;exact wv (Jv (o:=⟨dst,.nilCheck x,ty,pos,after,guard⟩) hr hw (bu hx hf) rfl rfl) hn
  .cases h
 .rename_i op2 t x y yt
  split at h
  .rename_i x' y' hx hy;cases h;refine fin rfl (JA (X:=x) (Y:=y) (f:=40) hr hw (bu hx hf) (bu hy hf) (λe he=>(AZ he).1) qE rfl (λe he=>(AZ he).2)).iu
  .cases h
 .split at h
  .rename_i x' hx;cases h;exact fin rfl (MR hr hw (bu hx hf)).iu
  .cases h
 .split at h
  .rename_i c x' hk hx;cases h;exact fin rfl (Gv hr hw (bu hx hf) (Cb hk)).iu
  .cases h
 .split at h
  .rename_i hu hx;cases h;exact fin rfl (Gq hr hw (bu hx hf) hu).iu
  .cases h
 .split at h
  .rename_i hk hx;cases h;exact fin rfl (Ea hr hw (bu hx hf) hk).iu
  .cases h
 .split at h
  .rename_i h1 h2;cases h;exact fin rfl (Gt hr hw (by rw[aGw];exact pA h1 hf) (by rw[aGw];exact pA h2 hf)).iu
  .cases h
 .split at h
  .rename_i hu h1;cases h;exact fin rfl (D6 hr hw (fP h1 hf) hu).iu
  .cases h
 .split at h
  .rename_i e l' c' hu h1 h2
   split at h
   .rename_i i hi
    split at h
    .rename_i z hz;cases h;obtain⟨z',z1,z2,z3⟩:=jV hz;exact fin rfl (Gs hr hw (bu h1 hf) (bu h2 hf) hu hi z1 rfl z2 z3).iu
    .cases h
   .cases h
  .cases h
 .rename_i t x lo hi mx
  split at h
  .rename_i x' la fk hu hx uR Iu Vf;cases h;have hm:=fP (ρ:=ρ) Vf hf;cases mx with
   |some m=>exact False.elim hm
   |none=>exact fin rfl (yN hr hw (bu hx hf) (fP uR hf) (fP Iu hf) hu).iu
  .rename_i e x' la fk hu hx uR Iu Vf;have hm:=fP (ρ:=ρ) Vf hf;cases mx with
   |some m=>exact False.elim hm
   |none=>
    split at h
    .rename_i i yz;cases h;exact fin rfl (Af hr hw (bu hx hf) (fP uR hf) (fP Iu hf) hu (ie yz)).iu
    .cases h
  .rename_i e x' la fk mx' hu hx uR Iu Vf;have hm:=fP (ρ:=ρ) Vf hf;have hh:=fP (ρ:=ρ) Iu hf;cases mx with
   |none=>exact False.elim hm
   |some m=>
    cases hi with
    |none=>exact False.elim hh
    |some h2=>
     split at h
     .rename_i i yz;cases h;exact fin rfl (BF hr hw (bu hx hf) (fP uR hf) hh hm hu (ie yz)).iu
     .cases h
  .rename_i n e x' la fk hu hx uR Iu Vf;have hm:=fP (ρ:=ρ) Vf hf;cases mx with
   |some m=>exact False.elim hm
   |none=>
    split at h
    .rename_i i yz;cases h;exact fin rfl (yO hr hw (bu hx hf) (fP uR hf) (fP Iu hf) hu (ie yz)).iu
    .cases h
  .cases h
 .split at h
  .rename_i fs x' hu hx
   split at h
   .rename_i fd hfd
    split at h
    .rename_i i hi;simp only[aP,aFw]at h
     split at h
     .cases h
     .rename_i hz;cases h;exact fin rfl (xB hr hw (bu hx hf) hu hfd rfl (ie hi) hz).iu
    .cases h
   .cases h
  .cases h
 .split at h
  .rename_i fs x' hu hx
   split at h
   .rename_i fd hfd
    split at h
    .rename_i i u hi hut;cases h;exact fin rfl (Ec hr hw (bu hx hf) hu hfd hi hut).iu
    .cases h
   .cases h
  .cases h
 .split at h
  .rename_i n e x' i' hu hx hi
   split at h
   .rename_i j hj;cases h;exact fin rfl (BI hr hw (bu hx hf) (bu hi hf) hu (ie hj)).iu
   .cases h
  .rename_i e x' i' hu hx hi
   split at h
   .rename_i j hj;cases h;exact fin rfl (Eb hr hw (bu hx hf) (bu hi hf) hu (ie hj)).iu
   .cases h
  .cases h
 .split at h
  .rename_i x' i' hu hx hi;cases h;exact fin rfl (BH hr hw (bu hx hf) (bu hi hf) hu).iu
  .rename_i n e x' i' hu hx hi
   split at h
   .rename_i j u hj Ot;cases h;exact fin rfl (BJ hr hw (bu hx hf) (bu hi hf) hu hj Ot).iu
   .cases h
  .cases h
 .split at h
  .rename_i e d x' k' hk hx It
   split at h
   .rename_i i hi
    split at h
    .rename_i z hz;cases h;obtain⟨kt,k1,k2,k3⟩:=ov hk;obtain⟨z',z1,z2⟩:=Cg hz;exact fin rfl (BG hr hw (bu hx hf) (bu It hf) k1 k2 qE k3 hi z1 (z2 ρ)).iu
    .cases h
   .cases h
  .cases h
 .split at h
  .rename_i e d m' k' x' hk hm It hx;cases h;obtain⟨kt,k1,k2,k3⟩:=ov hk;exact fin rfl (pX hr hw (bu hm hf) (bu It hf) (bu hx hf) k1 k2 qE k3).iu
  .cases h
 .split at h
  .rename_i e d m' k' x' hk hm It hx;cases h;obtain⟨kt,k1,k2,k3⟩:=ov hk;exact fin rfl (pX hr hw (bu hm hf) (bu It hf) (bu hx hf) k1 k2 qE k3).iu
  .cases h
 .split at h
  .rename_i e d m' k' hk hm It
   split at h
   .rename_i i hi
    split at h
    .rename_i z hz;cases h;obtain⟨kt,k1,k2,k3⟩:=ov hk;obtain⟨z',z1,z2⟩:=Cg hz;exact fin rfl (yP hr hw (bu hm hf) (bu It hf) k1 k2 qE k3 hi z1 (z2 ρ)).iu
    .cases h
   .cases h
  .cases h
 .split at h
  .rename_i m' s' x' hm hs hx;cases h;exact fin rfl (wk hr hw (bu hm hf) (bu hs hf) (bu hx hf)).iu
  .cases h
 .split at h
  .rename_i x' hx;cases h;exact fin rfl (Aj hr hw (bu hx hf)).iu
  .cases h
 .exact fin rfl (wW h hr hw hf)
 .rename_i f args ats
  split at h
  .rename_i l hl;cases h;refine SI (o:=⟨dst,.call {callee:=.value (.func f),args:=args,argTypes:=ats},ty,pos,after,guard⟩) hc hr hw (args':= #[]++args.map a.eval++ #[]) (by simpa using pA hl hf) (Cr rfl) hn
  .cases h
 .rename_i f args ats hnf
  split at h
  .rename_i f' l hf' hl;cases h;obtain⟨g,first,captured,e1,l',e2,e3⟩:=NX hr (bu hf' hf) (pA hl hf);refine SI (o:=⟨dst,.call {callee:=.value f,args:=args,argTypes:=ats},ty,pos,after,guard⟩) hc e2 hw (args':=first++args.map a.eval++captured) (by simpa using e3) (Cr e1) hn
  .cases h
 .cases h
end
end
inductive Rs where
 |norm (fr:Fr) (st:St)
 |exit (id:Nat) (fr:Fr) (st:St)
 |ret (fr:Fr) (st:St)
 |bad
def fU (ops:Array Oper)(fr:Fr)(o:Oper):Option Bool:=
 match o.guard with
 |none=>some true
 |some (g,b)=>(match (ops[g]?).bind (·.dst)with
  |none=>some false
  |some d=>(match fK fr d with
   | .bool c=>some (bH b c (Bool.not c))
   | .undef=>some false
   |_=>none))
def mE (P:Program)(call:gq)(ops:Array Oper)(o:Oper)(fr:Fr)(st:St):OR:=
 match fU ops fr o with
 |some true=>(match mj P o.op with|some op=>df call op fr st|none=>.bad)
 |some false=>.ok .undef st
 |none=>.bad
section
variable {P:Program} {ρ:Ren} {st st':St} {w:World} {v:CV} {fr:Fr} {a:Act} {call:gq}
def jk {ops:Array Oper}{o:Oper}{b:Bool}(h:fU ops fr o=some b)(hf:FR ρ fr a.tmps):Region.wanted o (yielded ops a.tmps)=b:=by
 unfold fU at h;unfold Region.wanted
 split at h
 .rename_i hg;cases h;rw[hg]
 .rename_i g want hg;rw[hg];dsimp only;unfold yielded
  split at h
  .rename_i hd;cases h;rw[hd];rfl
  .rename_i d hd;rw[hd,Option.bind_some];have hv:=hf d
   split at h
   .rename_i c hc;cases h;rw[hc]at hv;cases htd:a.tmps[d]? with
    |none=>
     have:a.tmps.getD d Go.undef=Go.undef:=by simp[htd]
     rw[this]at hv;cases hv
    |some x=>
     have:a.tmps.getD d Go.undef=x:=by simp[htd]
     rw[this]at hv;cases hv;dsimp only;cases c<;>cases want<;>rfl
   .rename_i hc;cases h;rw[hc]at hv;cases htd:a.tmps[d]? with
    |none=>rfl
    |some x=>
     have:a.tmps.getD d Go.undef=x:=by simp[htd]
     rw[this]at hv;cases hv
     rfl
   .cases h
def sr (hc:jm P call){ops:Array Oper}{o:Oper}(h:mE P call ops o fr st=.ok v st')(hw:WR ρ st w)(hf:FR ρ fr a.tmps){next:Act->World->Prop}{Q:Exit->Act->World->Prop}
 (hn:∀v' w' ρ',VR ρ' v v'->br ρ st w ρ' st' w'->next (a.put o.dst v') w'):
 if Region.wanted o (yielded ops a.tmps)then o.wp P a w next Q else next (a.put o.dst undef) w:=by
 unfold mE at h
 split at h
 .rename_i hwt;rw[aEW (jk hwt hf)]
  split at h
  .rename_i op EC;exact EX hc EC h hw hf hn
  .cases h
 .rename_i hwt;rw[aET (by rw[jk hwt hf];simp)];cases h;exact hn _ w ρ .undef (br.refl hw)
 .cases h
end
def pE (P:Program)(call:gq)(n:Nat)(ops:Array Oper)(l:List Oper)(fr:Fr)(st:St):Rs:=
 match l with
 |[]=>.norm fr st
 |o::l=>match mE P call ops o fr st with
  | .ok v st=>(match o.dst with|none=>pE P call n ops l fr st|some d=>if d<n then pE P call n ops l (fr.put d (some v)) st else .bad)
  | .bad=>.bad
structure SW (ρ:Ren)(st:St)(w:World)(n:Nat)(fr':Fr)(st':St)(a':Act)(w':World)(ρ':Ren):Prop where
 fr:FR ρ' fr' a'.tmps
 sz:n<=a'.tmps.size
 defers:a'.defers=[]
 after:br ρ st w ρ' st' w'
def qv (ρ:Ren)(st:St)(w:World)(n:Nat)(r:Rs)(e:Exit)(a':Act)(w':World):Prop:=
 match r with
 | .norm fr' st'=>e=.normal/\∃ρ',SW ρ st w n fr' st' a' w' ρ'
 | .exit id fr' st'=>e=.exit id/\∃ρ',SW ρ st w n fr' st' a' w' ρ'
 | .ret fr' st'=>e=.ret/\∃ρ',SW ρ st w n fr' st' a' w' ρ'
 | .bad=>False
def qv.step {ρ ρ1:Ren}{st gD:St}{w w1:World}{n:Nat}{r:Rs}{e:Exit}{a':Act}{w':World}(hA:br ρ st w ρ1 gD w1)(h:qv ρ1 gD w1 n r e a' w'):qv ρ st w n r e a' w':=by
 cases r<;>simp only[qv]at h⊢
 .obtain⟨h1,ρ',h2⟩:=h;exact⟨h1,ρ',h2.fr,h2.sz,h2.defers,hA.trans h2.after⟩
 .obtain⟨h1,ρ',h2⟩:=h;exact⟨h1,ρ',h2.fr,h2.sz,h2.defers,hA.trans h2.after⟩
 .obtain⟨h1,ρ',h2⟩:=h;exact⟨h1,ρ',h2.fr,h2.sz,h2.defers,hA.trans h2.after⟩
def Gc (a:Act)(d:Option Tmp)(v:Value):(a.put d v).tmps.size=a.tmps.size:=by cases d<;>simp[Act.put]
def zY (a:Act)(d:Option Tmp)(v:Value):(a.put d v).defers=a.defers:=by cases d<;>rfl
section
variable {P:Program} {call:gq} {n:Nat} {ops:Array Oper}
def Jh (fr:Fr)(st:St):pE P call n ops [] fr st=.norm fr st:=rfl
def yi (o:Oper)(l:List Oper)(fr:Fr)(st:St):pE P call n ops (o::l) fr st=
 match mE P call ops o fr st with
 | .ok v st=>(match o.dst with|none=>pE P call n ops l fr st|some d=>if d<n then pE P call n ops l (fr.put d (some v)) st else .bad)
 | .bad=>.bad:=rfl
def FR.adP {ρ:Ren}{fr:Fr}{a:Act}(h:FR ρ fr a.tmps){d:Nat}(hd:d<a.tmps.size){v:CV}{v':Value}(hv:VR ρ v v'):FR ρ (fr.put (d) (some v)) (a.put (some d) v').tmps:=h.put hd hv
def DP (hc:jm P call)(l:List Oper):∀(fr:Fr) (st:St) (ρ:Ren) (a:Act) (w:World),pE P call n ops l fr st≠ .bad->WR ρ st w->FR ρ fr a.tmps->n<=a.tmps.size->a.defers=[]->
 wpList P ops (qv ρ st w n (pE P call n ops l fr st)) l a w:=by
 induction l with
 |nil=>intro fr st ρ a w _ hw hf hn hd;rw[Jh];exact wpList_nil ⟨rfl,ρ,hf,hn,hd,br.refl hw⟩
 |cons o l ih=>
  intro fr st ρ a w hb hw hf hn hd;rw[yi]at hb⊢;cases hs:mE P call ops o fr st with
  |bad=>rw[hs]at hb;exact absurd rfl hb
  |ok v gD=>
   rw[hs]at hb;refine wpList_step λK hK=>sr hc hs hw hf λv' w' ρ' hv hA=>hK _ _ ?_;dsimp only at hb⊢
   have mono:∀{r:Rs} {l:List Oper} {a:Act} {w1:World},wpList P ops (qv ρ' gD w' n r) l a w1->wpList P ops (qv ρ st w n r) l a w1:=by
    intro r l
    induction l with
    |nil=>intro a w1 h;exact qv.step hA h
    |cons o l ih=>
     intro a w1 h;unfold wpList at h⊢
     split
     .rename_i hwt;rw[aEW hwt]at h;rcases h with h|⟨h1,a2,w2,h2⟩
      .left;unfold Oper.wp at h⊢;generalize (execOp a.eval o).run P w1=rr at h⊢;cases rr with
       |ok x w2=>
        cases x<;>simp only[Oper.upon]at h⊢<;>first
         |exact ih h
         |exact h.mono (λe w3 he=>by cases e<;>first|exact ih he|exact qv.step hA he|(obtain⟨a4,w4,h4⟩:=he;exact⟨a4,w4,qv.step hA h4⟩))
         |exact h.mono (λ_ _ he=>ih he)
       |halt x w2=>cases x<;>simp only[Oper.upon]at h⊢<;>exact qv.step hA h
      .exact .inr ⟨h1,a2,w2,qv.step hA h2⟩
     .rename_i hwt;rw[aET hwt]at h;exact ih h
   cases agr:o.dst with
   |none=>
    rw[agr]at hb;refine mono (ih fr gD ρ' (a.put none v') w' hb hA.wr (hf.mono hA.ext) hn hd)
   |some d=>
    rw[agr]at hb;dsimp only at hb⊢
    split at hb
    .rename_i TC;rw[aEW TC];exact mono (ih _ gD ρ' (a.put (some d) v') w' hb hA.wr ((hf.mono hA.ext).adP (aFg TC hn) hv) (by rw[Gc];exact hn) (by rw[zY];exact hd))
    .exact absurd rfl hb
end
section
variable {x:Code}{f:Fr->St->Rs}{L:Option (List Nat)}{t:TypeId}{p:CV}{p':Value}
abbrev yJ:=gq->Nat->Array Oper->Fr->St->Rs
def uH (r:Rs)(k:Fr->St->Rs):Rs:=match r with| .norm fr st=>k fr st| .exit id fr st=>.exit id fr st| .ret fr st=>.ret fr st| .bad=>.bad
def sP (id:Nat)(r:Rs):Rs:=match r with| .norm fr st=>.norm fr st| .exit i fr st=>bH (Nat.beq i id) (.norm fr st) (.exit i fr st)| .ret fr st=>.ret fr st| .bad=>.bad
def KY:List Nat->List CV->Fr
 |[],_=>λ_=>some .any
 |l::L,vs=>PT.put (KY L (vs.drop 1)) l (some (vs.headD .any))
def IA:Code->Nat
 | .region id _ _=>id
 | .seq x _=>IA x
 | .cond _ x _=>IA x
 | .block _ x=>IA x
 | .loop x=>IA x
 | .scope x=>IA x
 |_=>0
def xT (L:Option (List Nat))(fr:Fr):Fr:=match L with|none=>fr|some L=>KY L (L.map (fK fr))
def yn (body:Fr->St->Rs)(L:Option (List Nat)):Nat->Fr->St->Rs
 |0,_,_=>.bad
 |n+1,fr,st=>uH (body (xT L fr) st) (yn body L n)
def De (c:Operand)(x y:Fr->St->Rs)(fr:Fr)(st:St):Rs:=
 match fj c with|some c=>(match ev fr c with| .bool t=>bH t (x fr st) (y fr st)|_=>.bad)|none=>.bad
def lN (P:Program)(call:gq)(dr:yJ)(lv:Nat->Option (List Nat))(fuel n:Nat)(c:Code)(fr:Fr)(st:St):Rs:=
 match c with
 | .skip=>.norm fr st
 | .region _ ops draw=>bH draw (dr call n ops fr st) (pE P call n ops ops.toList fr st)
 | .seq x y=>uH (lN P call dr lv fuel n x fr st) (λfr st=>lN P call dr lv fuel n y (xT (lv (IA y)) fr) st)
 | .cond c x y=>De c (lN P call dr lv fuel n x) (lN P call dr lv fuel n y) fr st
 | .block id x=>sP id (lN P call dr lv fuel n x fr st)
 | .loop x=>yn (lN P call dr lv fuel n x) (lv (IA x)) fuel fr st
 | .exit id=>.exit id fr st
 | .scope x=>lN P call dr lv fuel n x fr st
 | .label _=>.norm fr st
 | .ret=>.ret fr st
 |_=>.bad
def ue (P:Program)(dr:yJ):Prop:=
 ∀(call:gq) (n:Nat),jm P call->∀(id:Nat) (ops:Array Oper) (fr:Fr) (st:St) (ρ:Ren) (a:Act) (w:World),dr call n ops fr st≠ .bad->WR ρ st w->FR ρ fr a.tmps->n<=a.tmps.size->a.defers=[]->
  (Code.region id ops true).wp P (qv ρ st w n (dr call n ops fr st)) a w
section
variable {P:Program} {call:gq} {dr:yJ} {n:Nat} {lv:Nat->Option (List Nat)} {fuel:Nat}
def Ok (P:Program)(n:Nat)(c:Code)(f:Fr->St->Rs):Prop:=
 ∀(fr:Fr) (st:St) (ρ:Ren) (a:Act) (w:World),f fr st≠ .bad->WR ρ st w->FR ρ fr a.tmps->n<=a.tmps.size->a.defers=[]->c.wp P (qv ρ st w n (f fr st)) a w
def Pn {y:Code}{g:Fr->St->Rs}(hx:Ok P n x f)(hy:Ok P n y g):Ok P n (.seq x y) (λfr st=>uH (f fr st) g):=by
 intro fr st ρ a w hb hw hf hn hd;have h1:=hx fr st ρ a w;refine wp_seq ?_;dsimp only at hb⊢;generalize f fr st=r at hb h1⊢;cases r with
 |bad=>exact absurd rfl hb
 |norm lM gD=>
  refine wp_mono (h1 uG hw hf hn hd) ?_;rintro e a1 w1 ⟨rfl,ρ1,hp⟩;exact wp_mono (hy lM gD ρ1 a1 w1 hb hp.after.wr hp.fr hp.sz hp.defers) (λe a w h=>qv.step hp.after h)
 |exit id lM gD=>
  refine wp_mono (h1 uG hw hf hn hd) ?_;rintro e a1 w1 ⟨rfl,hp⟩;exact⟨rfl,hp⟩
 |ret lM gD=>
  refine wp_mono (h1 uG hw hf hn hd) ?_;rintro e a1 w1 ⟨rfl,hp⟩;exact⟨rfl,hp⟩
def GR {id:Nat}(hx:Ok P n x f):Ok P n (.block id x) (λfr st=>sP id (f fr st)):=by
 intro fr st ρ a w hb hw hf hn hd;have h1:=hx fr st ρ a w;refine wp_block ?_;dsimp only at hb⊢;generalize f fr st=r at hb h1⊢;cases r with
 |bad=>exact absurd rfl hb
 |norm lM gD=>
  refine wp_mono (h1 uG hw hf hn hd) ?_;rintro e a1 w1 ⟨rfl,hp⟩;exact⟨rfl,hp⟩
 |exit i lM gD=>
  refine wp_mono (h1 uG hw hf hn hd) ?_;rintro e a1 w1 ⟨rfl,hp⟩;have e0:sP id (.exit i lM gD)=bH (Nat.beq i id) (.norm lM gD) (.exit i lM gD):=rfl;rw[e0];simp only[aP,aFw,Exit.inBlock]
  by_cases hi:i=id
  .simp only[aEW hi];exact⟨rfl,hp⟩
  .simp only[aET hi];exact⟨rfl,hp⟩
 |ret lM gD=>
  refine wp_mono (h1 uG hw hf hn hd) ?_;rintro e a1 w1 ⟨rfl,hp⟩;exact⟨rfl,hp⟩
def Sc (ρ:Ren)(fr:Fr)(tmps:Array Value)(h:FR ρ fr tmps):∀(L:List Nat),FR ρ (KY L (L.map (fK fr))) tmps:=by
 intro L
 induction L with
 |nil=>intro t;exact .any _
 |cons l L ih=>
  intro t;show VR ρ (fK (PT.put (KY L ((fK fr l::L.map (fK fr)).drop 1)) l (some (fK fr l))) t) _
  by_cases e:t=l
  .subst e;rw[mw];exact h t
  .rw[mK _ _ _ _ e];exact ih t
def L9 {ρ:Ren}{fr:Fr}{tmps:Array Value}(h:FR ρ fr tmps):FR ρ (xT L fr) tmps:=by
 cases L with
 |none=>exact h
 |some L=>exact Sc ρ fr tmps h L
def Eo (hx:Ok P n x f):∀(k:Nat) (fr:Fr) (st:St) (ρ:Ren) (a:Act) (w:World),yn f L k fr st≠ .bad->WR ρ st w->FR ρ fr a.tmps->n<=a.tmps.size->a.defers=[]->
 Code.rounds P x (qv ρ st w n (yn f L k fr st)) k a w:=by
 intro k
 have mono:∀{Q Q':Exit->Act->World->Prop} (h:∀e a w,Q e a w->Q' e a w) (k:Nat) (a:Act) (w:World),Code.rounds P x Q k a w->Code.rounds P x Q' k a w:=by
  intro Q Q' h k
  induction k with
  |zero=>intro a w hh;exact hh
  |succ k ih=>
   intro a w hh;rw[rounds_succ]at hh⊢;refine wp_mono hh ?_;intro e a w hq;cases e<;>first|exact ih _ _ hq|exact h _ _ _ hq
 induction k with
 |zero=>intro fr st ρ a w hb;exact absurd rfl hb
 |succ k ih=>
  intro AU st ρ a w hb hw XE hn hd;have hf:=L9 (L:=L) XE;have e:yn f L (k+1) AU st=uH (f (xT L AU) st) (yn f L k):=rfl;rw[e]at hb⊢;generalize xT L AU=fr at hf hb⊢;rw[rounds_succ];cases hr:f fr st with
  |bad=>rw[hr]at hb;exact absurd rfl hb
  |norm lM gD=>
   have h1:=hx fr st ρ a w (by rw[hr];simp) hw hf hn hd;rw[hr]at h1 hb;refine wp_mono h1 ?_;rintro e a1 w1 ⟨rfl,ρ1,hp⟩;exact mono (λe a w h=>qv.step hp.after h) k a1 w1 (ih lM gD ρ1 a1 w1 hb hp.after.wr hp.fr hp.sz hp.defers)
  |exit id lM gD=>
   have h1:=hx fr st ρ a w (by rw[hr];simp) hw hf hn hd;rw[hr]at h1;refine wp_mono h1 ?_;rintro e a1 w1 ⟨rfl,hp⟩;exact⟨rfl,hp⟩
  |ret lM gD=>
   have h1:=hx fr st ρ a w (by rw[hr];simp) hw hf hn hd;rw[hr]at h1;refine wp_mono h1 ?_;rintro e a1 w1 ⟨rfl,hp⟩;exact⟨rfl,hp⟩
def VL (hc:jm P call)(Vv:ue P dr)(c:Code):Ok P n c (lN P call dr lv fuel n c):=by
 induction c with
 |skip=>intro fr st ρ a w _ hw hf hn hd;exact wp_skip ⟨rfl,ρ,hf,hn,hd,br.refl hw⟩
 |region id ops draw=>
  intro fr st ρ a w hb hw hf hn hd;cases draw with
  |true=>exact Vv call n hc id ops fr st ρ a w hb hw hf hn hd
  |false=>exact wp_region_list (DP hc ops.toList fr st ρ a w hb hw hf hn hd)
 |seq x y hx hy=>exact Pn hx (λfr st ρ a w hb hw hf hn hd=>hy _ st ρ a w hb hw (L9 hf) hn hd)
 |cond c x y hx hy=>
  intro fr st ρ a w hb hw hf hn hd;have e:lN P call dr lv fuel n (.cond c x y) fr st=De c (lN P call dr lv fuel n x) (lN P call dr lv fuel n y) fr st:=rfl;rw[e]at hb⊢;unfold De at hb⊢;cases EM:fj c with
  |none=>rw[EM]at hb;exact absurd rfl hb
  |some c'=>
   rw[EM]at hb;have hev:=bu EM hf;dsimp only at hb⊢;generalize BN:ev fr c'=cv at hb hev⊢;cases cv with
   |bool t=>
    generalize zo:a.eval c=cv' at hev;cases hev;cases t with
    |true=>exact wp_cond_true zo (hx fr st ρ a w hb hw hf hn hd)
    |false=>exact wp_cond_false zo (hy fr st ρ a w hb hw hf hn hd)
   |_=>exact absurd rfl hb
 |block id x hx=>exact GR hx
 |loop x hx=>intro fr st ρ a w hb hw hf hn hd;exact wp_loop_rounds fuel (Eo hx fuel fr st ρ a w hb hw hf hn hd)
 |rangeFunc f ps x y hx hy=>intro fr st ρ a w hb;exact absurd rfl hb
 |exit id=>intro fr st ρ a w _ hw hf hn hd;exact wp_exit ⟨rfl,ρ,hf,hn,hd,br.refl hw⟩
 |scope x hx=>
  intro fr st ρ a w hb hw hf hn hd;refine wp_scope_straight (wp_mono (hx fr st ρ a w hb hw hf hn hd) ?_);intro e a1 w1 h;have e0:lN P call dr lv fuel n (.scope x) fr st=lN P call dr lv fuel n x fr st:=rfl;rw[e0];cases e with
  |goto l=>
   unfold qv at h
   split at h
   .exact absurd h.1 uG
   .exact absurd h.1 uG
   .exact absurd h.1 uG
   .exact h.elim
  |_=>exact h
 |label l=>intro fr st ρ a w _ hw hf hn hd;exact wp_label ⟨rfl,ρ,hf,hn,hd,br.refl hw⟩
 |goto l=>intro fr st ρ a w hb;exact absurd rfl hb
 |ret=>intro fr st ρ a w _ hw hf hn hd;exact wp_ret ⟨rfl,ρ,hf,hn,hd,br.refl hw⟩
 |refuse y=>intro fr st ρ a w hb;exact absurd rfl hb
end
def rk (args:List CV):Fr:=λt=>args[t]?
def Kg {ρ:Ren}{args:List CV}{args':Array Value}(h:eK ρ args args'.toList)(k:Nat):FR ρ (rk args) (args'++Array.replicate k undef):=by
 intro t;have hlen:args.length=args'.size:=by rw[h.len];simp
 by_cases ht:t<args.length
 .have h1:args[t]?=some args[t]:=by simp[ht]
  have h2:args'.toList[t]?=some (args'[t]' qE):=uG
  have h3:=h.at' t _ _ h1 h2
  have h4:(args'++Array.replicate k undef).getD t Go.undef=args'[t]'(by omega):=by
   simp[aHu,show t<args'.size from qE]
  have h5:fK (rk args) t=args[t]:=by show(Option.rec _ _ (args[t]?):CV)=_;rw[h1]
  rw[h4,h5];exact h3
 .have h4:(args'++Array.replicate k undef).getD t Go.undef=Go.undef:=by
   simp only[Array.getD_eq_getD_getElem?,aHu,aET (show¬t<args'.size by omega),Array.getElem?_replicate]
   split<;>rfl
  have h5:fK (rk args) t=.undef:=by show(Option.rec _ _ (args[t]?):CV)=_;rw[aFQ qE]
  rw[h4,h5];exact .undef
def Cs (P:Program)(fr:Fr)(st:St)(r:ResultVar):Option CV:=
 match r with
 | .tmp t=>some (fK fr (t))
 | .cell a t=>(match P.underlying t,P.info? t with
   |some u,some i=>(match bH (iF u) (aI i.size (fK fr (a)) st) (aC (fK fr (a)) st)with| .ok v _=>some v| .bad=>none)
   |_,_=>none)
def Jj (P:Program)(fr:Fr)(st:St)(l:List ResultVar):Option (List CV):=
 List.rec (some []) (λr _ ih=>match Cs P fr st r,ih with|some v,some l=>some (v::l)|_,_=>none) l
def BD (P:Program)(fr:Fr)(st:St)(l:List ResultVar):OR:=
 match Jj P fr st l with
 |some []=>.ok .undef st
 |some [v]=>.ok v st
 |some l=>.ok (.tuple l) st
 |none=>.bad
def ES (P:Program)(dr:yJ)(lv:Nat->Nat->Option (List Nat))(fuel:Nat)(call:gq)(f:Nat)(args:List CV)(st:St):OR:=
 bH (ia P f) (match P.funcs[f]? with
  |some fn=>(match fn.body with
   |some c=>(match lN P call dr (lv f) fuel fn.ntmps c (rk args) st with
    | .norm fr st=>BD P fr st fn.results.toList
    | .exit _ _ _=>.bad
    | .ret fr st=>BD P fr st fn.results.toList
    | .bad=>.bad)
   |none=>.bad)
  |none=>.bad) .bad
section
variable {P:Program} {call:gq} {dr:yJ} {ρ:Ren} {st st':St} {w:World} {fr:Fr} {a:Act} {v:CV}
def M8 (h:aC p st=.ok v st')(hw:WR ρ st w)(hp:VR ρ p p')(ht:(isAgg t).run P w=.ok false w):
 ∃v',(do loadVar t (<-asAddr p'):Sem Value).run P w=.ok v' w/\VR ρ v v':=by
 unfold aC at h
 split at h
 .rename_i b off
  split at h
  .rename_i s t' g hm;cases hx:s[off]? with
   |none=>rw[hx]at h;cases h
   |some x=>
    rw[hx]at h;cases h;cases hp with
    |ptr _ _ r sz hr=>
     obtain⟨c,lo,hi,e1,e2,e3,e4,e5⟩:=hw.row hm hr;obtain⟨x',g1,g2⟩:=tG e4 hx;refine⟨_,?_,g2⟩;simp[asAddr,loadVar,ht,nu P w r off c t' (lo,hi) x' e1 (vX g1),-run_load]
  .rename_i s o0 hm;cases hx:s[off]? with
   |none=>rw[hx]at h;cases h
   |some x=>
    rw[hx]at h;cases h;cases hp with
    |ptr _ _ r sz hr=>
     obtain⟨c,t',lo,hi,e1,e2,e3,e4⟩:=hw.PM hm hr;obtain⟨x',g1,g2⟩:=tG e4 hx;refine⟨_,?_,g2⟩;simp[asAddr,loadVar,ht,nu P w r off c t' (lo,hi) x' e1 (vX g1),-run_load]
  .cases h
 .cases h
def M7 {n:Nat}(h:aI n p st=.ok v st')(hw:WR ρ st w)(hp:VR ρ p p')(ht:(isAgg t).run P w=.ok true w)
 (hn:(Go.sizeOf t).run P w=.ok n w):∃v',(do loadVar t (<-asAddr p'):Sem Value).run P w=.ok v' w/\VR ρ v v':=by
 unfold aI at h
 split at h
 .rename_i b off
  split at h
  .rename_i s t' g hm;cases hx:gV s off n with
   |none=>rw[hx]at h;cases h
   |some x=>
    rw[hx]at h;cases h;cases hp with
    |ptr _ _ r sz hr=>
     obtain⟨c,lo,hi,e1,e2,e3,e4,e5⟩:=hw.row hm hr;obtain⟨g1,g2⟩:=jY hx;refine⟨.agg ((c.toList.drop off).take n).toArray,?_,(VR.E6 ?_)⟩
     .simp[asAddr,loadVar,ht,hn,eh P w r off n c t' (lo,hi) e1 qE]
     .rw[show x=(s.drop off).take n from g2]
      have e:(c.toList.drop off).take n=((c.toList.take s.length).drop off).take n:=by
       rw[aGD,aGf,aFG qE]
      rw[e];exact(e4.drop off).take n
  .rename_i s o0 hm;cases hx:gV s off n with
   |none=>rw[hx]at h;cases h
   |some x=>
    rw[hx]at h;cases h;cases hp with
    |ptr _ _ r sz hr=>
     obtain⟨c,t',lo,hi,e1,e2,e3,e4⟩:=hw.PM hm hr;obtain⟨g1,g2⟩:=jY hx;refine⟨.agg ((c.toList.drop off).take n).toArray,?_,(VR.E6 ?_)⟩
     .simp[asAddr,loadVar,ht,hn,eh P w r off n c t' (lo,hi) e1 qE]
     .rw[show x=(s.drop off).take n from g2]
      have e:(c.toList.drop off).take n=((c.toList.take s.length).drop off).take n:=by
       rw[aGD,aGf,aFG qE]
      rw[e];exact(e4.drop off).take n
  .cases h
 .cases h
def DS (a:Act)(r:ResultVar):Sem Value:=match r with| .tmp t=>pure (a.tmps.getD t undef)| .cell ad t=>do loadVar t (<-asAddr (a.tmps.getD ad undef))
def F8 {r:ResultVar}{v:CV}(h:Cs P fr st r=some v)(hw:WR ρ st w)(hf:FR ρ fr a.tmps):
 ∃v',(DS a r).run P w=.ok v' w/\VR ρ v v':=by
 unfold Cs at h
 split at h
 .rename_i t;cases h;exact⟨_,rfl,hf t⟩
 .rename_i ad t
  split at h
  .rename_i u i hu hi;have hp:=hf ad;rw[aP]at h
   by_cases ha:iF u=true
   .rw[aEW ha]at h
    split at h
    .rename_i v1 gD hh;cases h;exact M7 (t:=t) hh hw hp (by rw[tM hu,ha]) (ie hi)
    .cases h
   .rw[aET ha]at h
    split at h
    .rename_i v1 gD hh;cases h;exact M8 (t:=t) hh hw hp aci
    .cases h
  .cases h
def vm:∀{l:List ResultVar} {vs:List CV},Jj P fr st l=some vs->WR ρ st w->FR ρ fr a.tmps->∃Ci,(l.mapM (DS a)).run P w=.ok Ci w/\eK ρ vs Ci:=by
 intro l
 induction l with
 |nil=>intro vs h _ _;cases h;exact⟨[],rfl,eK.nil ρ⟩
 |cons r l ih=>
  intro vs h hw hf;have e:Jj P fr st (r::l)=(match Cs P fr st r,Jj P fr st l with|some v,some l=>some (v::l)|_,_=>none):=rfl;rw[e]at h
  split at h
  .rename_i v l1 h1 h2;cases h;obtain⟨v',g1,g2⟩:=F8 h1 hw hf;obtain⟨Ci,g3,g4⟩:=ih h2 hw hf;exact⟨v'::Ci,by simp[List.mapM_cons,g1,g3],eK.cons g2 g4⟩
  .cases h
def zW {fn:Func}(h:BD P fr st fn.results.toList=.ok v st')(hw:WR ρ st w)(hf:FR ρ fr a.tmps):st'=st/\∃v',(results fn a.tmps).run P w=.ok v' w/\VR ρ v v':=by
 unfold BD at h
 have e:∀{Ci},(fn.results.toList.mapM (DS a)).run P w=.ok Ci w->(results fn a.tmps).run P w=.ok (if h:Ci.toArray.size=1 then Ci.toArray[0]else .tuple Ci.toArray) w:=by
  intro Ci hv;have e1:results fn a.tmps=(do let vs<-fn.results.mapM (DS a);pure (if h:vs.size=1 then vs[0]else .tuple vs)):=rfl;rw[e1,Array.mapM_eq_mapM_toList];simp[hv]
 split at h
 .rename_i hl;cases h;obtain⟨Ci,g1,g2⟩:=vm hl hw hf;have:Ci=[]:=by have:=g2.len;simpa using this.symm
  subst this;exact⟨rfl,_,e g1,by simpa using VR.undef⟩
 .rename_i u hl;cases h;obtain⟨Ci,g1,g2⟩:=vm hl hw hf;obtain⟨u',t',rfl,g3,g4⟩:=g2.inv;have:t'=[]:=by have:=g4.len;simpa using this.symm
  subst this;exact⟨rfl,_,e g1,by simpa using g3⟩
 .rename_i l h0 h1 hl;cases h;obtain⟨Ci,g1,g2⟩:=vm hl hw hf;refine⟨rfl,_,e g1,?_⟩
  have hlen:Ci.toArray.size≠1:=by
   intro hh;have:=g2.len;simp only[aHh]at hh;rw[hh]at this;obtain⟨x,rfl⟩:=List.length_eq_one_iff.1 this;exact h1 x rfl
  rw[dif_neg hlen];exact VR.tuple _ _ (by exact g2.len) (by exact g2.at')
 .cases h
def wU (hc:jm P call)(Vv:ue P dr){lv:Nat->Nat->Option (List Nat)}{fuel f:Nat}{args:List CV}(h:ES P dr lv fuel call f args st=.ok v st'):ia P f=true/\E9 P f args st v st':=by
 unfold ES at h;rw[aP]at h
 split at h
 .rename_i Hl;refine⟨Hl,?_⟩
  split at h
  .rename_i fn hfn
   split at h
   .rename_i c hb;intro ρ w args' hw ha;refine calls_of_wp hfn hb ?_;have mU:=VL (n:=fn.ntmps) (lv:=lv f) (fuel:=fuel) hc Vv c (rk args) st ρ {tmps:=args'++Array.replicate (fn.ntmps-args'.size) undef,defers:=[]} w;generalize lN P call dr (lv f) fuel fn.ntmps c (rk args) st=r at h mU;have mU:=mU (by intro e;subst e;cases h) hw (Kg ha _) vR rfl;cases r with
    |norm lM gD=>
     refine wp_mono mU ?_;rintro e a1 w1 ⟨rfl,ρ1,hp⟩;obtain⟨rfl,v',g1,g2⟩:=zW h hp.after.wr hp.fr;exact⟨hp.defers,v',g1,v',ρ1,rfl,g2,hp.after⟩
    |ret lM gD=>
     refine wp_mono mU ?_;rintro e a1 w1 ⟨rfl,ρ1,hp⟩;obtain⟨rfl,v',g1,g2⟩:=zW h hp.after.wr hp.fr;exact⟨hp.defers,v',g1,v',ρ1,rfl,g2,hp.after⟩
    |exit id lM gD=>cases h
    |bad=>cases h
   .cases h
  .cases h
 .cases h
end
abbrev yI:=Nat->List CV->St->Option OR
def nN (P:Program)(I:yI):Prop:=∀f args st v st',I f args st=some (.ok v st')->rD P f args st v st'
def BC (P:Program)(dr:yJ)(lv:Nat->Nat->Option (List Nat))(I:yI):Nat->gq
 |0=>λ_ _ _=>.bad
 |n+1=>λf args st=>match I f args st with|some r=>r|none=>ES P dr lv n (BC P dr lv I n) f args st
def zT {P:Program}{dr:yJ}{lv:Nat->Nat->Option (List Nat)}{I:yI}(Vv:ue P dr)(hI:nN P I):∀fuel,jm P (BC P dr lv I fuel):=by
 intro fuel
 induction fuel with
 |zero=>intro f args st v st' h;cases h
 |succ fuel ih=>
  intro f args st v st' h;simp only[BC]at h
  split at h
  .rename_i r hr;exact hI f args st v st' (by rw[hr,h])
  .exact .inl (wU ih Vv h)
end
