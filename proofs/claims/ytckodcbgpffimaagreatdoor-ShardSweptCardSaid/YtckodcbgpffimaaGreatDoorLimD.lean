import Derived.Test.YtckodcbgpffimaaGreatDoorLimC
import Derived.Scope
import Derived.LoopN
namespace Lim
open Go
noncomputable section
set_option linter.defProp false
abbrev wF:=Nat×Nat×fy
inductive DE where
 |YI (x:fy)
 |pick (c a b:fy)
 |new (t:Nat) (z:List K)
 |box (t:Nat) (x:fy)
 |build (z:List K) (parts:List wF)
 |buildSlice (e len:Nat) (z:List K) (parts:List wF)
 |Iz (a:fy)
 |Bt (n:Nat) (a:fy)
 |store (n:Nat) (a x:fy)
 |nil (x:fy)
 |bin (op:BinOp) (d:Option lB) (CQ:Bool) (x y:fy)
 |un (op:UnOp) (x:fy)
 |conv (c:ET) (x:fy)
 |KH (n:Nat) (x:fy)
 |iface (t:Nat) (x:fy)
 |func (fn:Fn) (f c:List fy)
 |mkMap (r:Option fy)
 |mkSlice (e bytes:Nat) (z:List K) (l c:fy)
 |pW (x:fy) (lo hi:Option fy)
 |sK (size:Nat) (x:fy) (lo hi:Option fy)
 |slice3 (size:Nat) (x:fy) (lo:Option fy) (hi mx:fy)
 |pY (n size:Nat) (x:fy) (lo hi:Option fy)
 |fieldAddr (off:Nat) (x:fy)
 |field (agg:Bool) (off size:Nat) (x:fy)
 |xg (n size:Nat) (x i:fy)
 |BD (size:Nat) (x i:fy)
 |xf (x i:fy)
 |xh (n size:Nat) (agg:Bool) (x i:fy)
 |lookup (d:lB) (z:K) (ok:Bool) (x k:fy)
 |mapUpdate (d:lB) (m k x:fy)
 |mapEntry (d:lB) (z:K) (m k:fy)
 |entryStore (m s x:fy)
 |extract (x:fy) (i:Nat)
 |len (k:Qo) (x:fy)
 |append (e size bytes:Nat) (z:List K) (k:JS) (s x:fy)
 |copy (str:Bool) (size:Nat) (d s:fy)
 |clear (z:List K) (x:fy)
 |ur (mx:Bool) (x y:fy)
 |delete (d:lB) (m k:fy)
 |call (f:Nat) (args:List fy)
 |EK (f:fy) (args:List fy)
def Ob (fr:Fr)(l:δ fy):δ K:=List.rec [] (λx _ r=>ev fr x::r) l
def TT (fr:Fr)(x:υ fy):υ K:=Option.rec ν (λx=>Φ (ev fr x)) x
def P8 (fr:Fr)(l:δ wF):δ wa:=List.rec [] (λp _ r=>(p.1,p.2.1,ev fr p.2.2)::r) l
abbrev gZ:=Nat->δ K->O->OR
def zg (b:gZ)(f:K)(args:δ K)(Z:O):OR:=
 match f with| .func (.func f) first captured=>b f (first++(args++captured)) Z|_=>.bad
def dn (g:gZ)(j:DE)(fr:Fr)(Z:O):OR:=
 match j with
 | .YI x=>.ok (ev fr x) Z
 | .pick c a b=>bg (ev fr c) (ev fr a) (ev fr b) Z
 | .new t z=>cK t z Z
 | .box t x=>bF (ev fr x).isAny .bad (cK t (ev fr x).bY Z)
 | .build z parts=>aR z (P8 fr parts) Z
 | .buildSlice e len z parts=>bB e len (cr len z) (P8 fr parts) Z
 | .Iz a=>aw (ev fr a) Z
 | .Bt n a=>aF n (ev fr a) Z
 | .store n a x=>aJ n (ev fr a) (ev fr x) Z
 | .nil x=>df (ev fr x) Z
 | .bin j d CQ x y=>R j d CQ (ev fr x) (ev fr y) Z
 | .un j x=>kZ j (ev fr x) Z
 | .conv c x=>cX c (ev fr x) Z
 | .KH n x=>qL n (ev fr x) Z
 | .iface t x=>mG t (ev fr x) Z
 | .func fn f c=>oi fn (Ob fr f) (Ob fr c) Z
 | .mkMap r=>mF (TT fr r) Z
 | .mkSlice e bytes z l c=>uo e bytes z (ev fr l) (ev fr c) Z
 | .pW x lo hi=>gj (ev fr x) (TT fr lo) (TT fr hi) Z
 | .sK size x lo hi=>aQ size (ev fr x) (TT fr lo) (TT fr hi) Z
 | .slice3 size x lo hi mx=>jK size (ev fr x) (TT fr lo) (ev fr hi) (ev fr mx) Z
 | .pY n size x lo hi=>cD n size (ev fr x) (TT fr lo) (TT fr hi) Z
 | .fieldAddr off x=>aj off (ev fr x) Z
 | .field agg off size x=>zf agg off size (ev fr x) Z
 | .xg n size x i=>gE n size (ev fr x) (ev fr i) Z
 | .BD size x i=>de size (ev fr x) (ev fr i) Z
 | .xf x i=>nJ (ev fr x) (ev fr i) Z
 | .xh n size agg x i=>xZ n size agg (ev fr x) (ev fr i) Z
 | .lookup d z ok x k=>jk d z ok (ev fr x) (ev fr k) Z
 | .mapUpdate d m k x=>fe d (ev fr m) (ev fr k) (ev fr x) Z
 | .mapEntry d z m k=>gp d z (ev fr m) (ev fr k) Z
 | .entryStore m s x=>eA (ev fr m) (ev fr s) (ev fr x) Z
 | .extract x i=>az (ev fr x) i Z
 | .len k x=>aY k (ev fr x) Z
 | .append e size bytes z k s x=>bI e size bytes (ev fr s) (cZ k size z (ev fr x) Z) Z
 | .copy str size d s=>gL str size (ev fr d) (ev fr s) Z
 | .clear z x=>pZ z (ev fr x) Z
 | .ur mx x y=>Bk mx (ev fr x) (ev fr y) Z
 | .delete d m k=>qM d (ev fr m) (ev fr k) Z
 | .call f args=>g f (Ob fr args) Z
 | .EK f args=>zg g (ev fr f) (Ob fr args) Z
def iP (P:Program)(f:Nat):Bool:=match P.funcs[f]? with|some fn=> !(fn.name== "runtime.NumGoroutine")&&fn.body.isSome|none=>false
def GS (P:Program)(f:Nat)(args:δ K)(Z:O)(v:K)(Z':O):Prop:=
 ∀(ρ:Ren) (w:World) (args':Array Value),WR ρ Z w->fp ρ args args'.toList->
  Calls P f args' w λe w'=>∃v' b,e=.returned v'/\VR b v v'/\br ρ Z w b Z' w'
def amh (P:Program)(f:Nat)(args:δ K)(Z:O)(v:K)(Z':O):Prop:=
 Z'=Z/\∀(ρ:Ren) (w:World) (args':Array Value),WR ρ Z w->fp ρ args args'.toList->∃v',(callFunc f args').run P w=.ok (.value v') w/\VR ρ v v'
def vP (P:Program)(f:Nat)(args:δ K)(Z:O)(v:K)(Z':O):Prop:=(iP P f=θ/\GS P f args Z v Z')\/amh P f args Z v Z'
def ki (P:Program)(b:gZ):Prop:=∀f args Z v Z',b f args Z=.ok v Z'->vP P f args Z v Z'
def AP (i:TypeInfo):υ (δ K):=
 match i.zero with
 |some z=>bF (Nat.beq z.cells.size i.size) (sP z.cells.toList) ν
 |none=>ν
def kX {i:TypeInfo}{s:δ K}(h:AP i=Φ s):∃z,i.zero=Φ z/\z.cells.size=i.size/\∀ρ,fp ρ s z.cells.toList:=by
 unfold AP at h
 split at h
 .rename_i z b;simp only[aS,md]at h
  split at h
  .rename_i hs;exact⟨z,b,hs,λρ=>yk _ _ h ρ⟩
  .cases h
 .cases h
def Vs (i:TypeInfo):υ K:=match i.zero with|some z=>ofValue z|none=>ν
def DG {i:TypeInfo}{c:K}(h:Vs i=Φ c):∃z,i.zero=Φ z/\∀ρ,VR ρ c z:=by
 unfold Vs at h
 split at h
 .rename_i z b;exact⟨z,b,λρ=>VR.ofValue h ρ⟩
 .cases h
def Ah (l:δ Operand):υ (δ fy):=List.rec (Φ []) (λx _ r=>Option.rec ν (λr=>Option.rec ν (λc=>Φ (c::r)) (fI x)) r) l
def Qi (x:υ Operand):υ (υ fy):=match x with|none=>Φ ν|some x=>(match fI x with|some c=>Φ (Φ c)|none=>ν)
def uN (b:Nat->υ (Nat×Nat))(l:δ (Nat×Operand)):υ (δ wF):=
 List.rec (Φ []) (λp _ r=>Option.rec ν (λr=>(match b p.1,fI p.2 with|some (off,size),some c=>Φ ((off,size,c)::r)|_,_=>ν)) r) l
section
variable {P:Program} {ρ:Ren} {Z Z':O} {w:World} {v:K} {fr:Fr} {a:Act}
def qW:∀{l:δ Operand} {c:δ fy},Ah l=Φ c->FR ρ fr a.tmps->fp ρ (Ob fr c) (l.map a.eval):=by
 intro l
 induction l with
 |nil=>intro c h _;cases h;exact fp.nil ρ
 |cons x l d=>
  intro c h b;have e:Ah (x::l)=Option.rec ν (λr=>Option.rec ν (λc=>Φ (c::r)) (fI x)) (Ah l):=rfl;rw[e]at h;cases hl:Ah l with
  |none=>rw[hl]at h;cases h
  |some r=>
   rw[hl]at h;cases hx:fI x with
   |none=>rw[hx]at h;cases h
   |some c'=>
    rw[hx]at h;cases h;exact fp.cons (bu hx b) (d hl b)
def gw {x:υ Operand}{c:υ fy}(h:Qi x=Φ c)(b:FR ρ fr a.tmps):U0 ρ (TT fr c) (x.map a.eval):=by
 unfold Qi at h
 split at h
 .cases h;trivial
 .split at h
  .rename_i x c' hc;cases h;exact bu hc b
  .cases h
def pL {b:Nat->υ (Nat×Nat)}:∀{l:δ (Nat×Operand)} {c:δ wF},uN b l=Φ c->FR ρ fr a.tmps->tk ρ b (P8 fr c) (l.map λp=>(p.1,a.eval p.2)):=by
 intro l
 induction l with
 |nil=>intro c h _;cases h;exact .nil
 |cons p l f=>
  intro c h d;have e:uN b (p::l)=Option.rec ν (λr=>(match b p.1,fI p.2 with|some (off,size),some c=>Φ ((off,size,c)::r)|_,_=>ν)) (uN b l):=rfl;rw[e]at h;cases hl:uN b l with
  |none=>rw[hl]at h;cases h
  |some r=>
   rw[hl]at h;dsimp only at h
   split at h
   .rename_i off size c' h1 h2;cases h;exact .cons p.1 off size (ev fr c') _ _ _ h1 (bu h2 d) (f hl d)
   .cases h
end
def X9 (P:Program)(l:δ Field):Bool:=l.all λf=>(P.info? f.type).isSome
def TX (P:Program)(b:BinOp)(t:TypeId):υ lB:=
 match b with
 | .eql| .neq=>(match gO P 40 t with
   |some d=>bF (JN d) (bF (P.eqGuardType P.depth t) ν (Φ d)) (Φ d)
   |none=>ν)
 |_=>ν
def Ck (P:Program)(s d:TypeId):υ ET:=
 match P.underlying s,P.underlying d with
 |some _,some (.int k)=>Φ (.toInt k)
 |some .string,some .string=>Φ .same
 |some .string,some (.slice e)=>(match P.underlying e with|some (.int .u8)=>Φ (.bytesOf e)|_=>ν)
 |some (.slice e),some .string=>(match P.underlying e with|some (.int .u8)=>Φ .strOf|_=>ν)
 |_,_=>ν
def keyOf (P:Program)(t:TypeId):υ (TypeId×lB):=
 match P.underlying t with
 |some (.map k e)=>(match gO P 40 k with|some d=>bF (jl 40 d) (Φ (e,d)) ν|none=>ν)
 |_=>ν
def Gb (P:Program)(t:TypeId):υ Qo:=
 match P.underlying t with
 |some .string=>Φ .str
 |some (.slice _)=>Φ .slice
 |some (.map _ _)=>Φ .map
 |some (.array n _)=>Φ (.const n)
 |some (.pointer a)=>(match P.underlying a with|some (.array n _)=>Φ (.const n)|_=>ν)
 |_=>ν
def Fe (P:Program)(u:TypeId)(size:Nat):υ JS:=
 match P.underlying u with
 |some (.slice _)=>Φ .slice
 |some .string=>bF (Nat.beq size 1) (Φ .str) ν
 |some (.int _)=>Φ .zeros
 |_=>ν
def Hj (k:JS)(bytes:Nat):Bool:=match k with| .zeros=>Nat.ble bytes 256|_=>θ
def uK (P:Program)(b:Builtin)(ats:δ TypeId)(args:δ Operand):υ DE:=
 match b,ats,args with
 | .len,t::_,[x]=>(match Gb P t,fI x with|some k,some x=>Φ (.len k x)|_,_=>ν)
 | .cap,t::_,[x]=>(match P.underlying t,fI x with|some (.slice _),some x=>Φ (.len .cap x)|_,_=>ν)
 | .append,[t,u],[s,x]=>(match P.underlying t,fI s,fI x with
   |some (.slice e),some s,some x=>(match P.info? e with
    |some i=>(match AP i,Fe P u i.size with|some z,some k=>bF (Hj k i.bytes) (Φ (.append e i.size i.bytes z k s x)) ν|_,_=>ν)
    |none=>ν)
   |_,_,_=>ν)
 | .copy,[t,u],[d,s]=>(match P.underlying t,P.underlying u,fI d,fI s with
   |some (.slice e),some c,some d,some s=>(match P.info? e,c with
    |some i,.slice _=>Φ (.copy φ i.size d s)
    |some i,.string=>bF (Nat.beq i.size 1) (Φ (.copy θ i.size d s)) ν
    |_,_=>ν)
   |_,_,_,_=>ν)
 | .clear,[t],[x]=>(match P.underlying t,fI x with
   |some (.slice e),some x=>(match P.info? e with|some i=>(match AP i with|some z=>Φ (.clear z x)|none=>ν)|none=>ν)
   |_,_=>ν)
 | .max,_,[x,y]=>(match fI x,fI y with|some x,some y=>Φ (.ur θ x y)|_,_=>ν)
 | .min,_,[x,y]=>(match fI x,fI y with|some x,some y=>Φ (.ur φ x y)|_,_=>ν)
 | .delete,t::_,[m,k]=>(match keyOf P t,fI m,fI k with|some (_,d),some m,some k=>Φ (.delete d m k)|_,_,_=>ν)
 |_,_,_=>ν
def nE (P:Program)(g:Op):υ DE:=
 match g with
 | .move x=>(match fI x with|some x=>Φ (.YI x)|none=>ν)
 | .assign x=>(match fI x with|some x=>Φ (.YI x)|none=>ν)
 | .pick c a b=>(match fI c,fI a,fI b with|some c,some a,some b=>Φ (.pick c a b)|_,_,_=>ν)
 | .alloc t=>(match P.info? t with|some i=>(match AP i with|some z=>Φ (.new t z)|none=>ν)|none=>ν)
 | .box t x=>(match fI x with|some x=>Φ (.box t x)|none=>ν)
 | .build t parts=>(match P.underlying t,P.info? t with
   |some (.struct fs),some i=>(match AP i,uN (FE P fs) parts.toList,X9 P fs.toList with|some z,some ps,true=>Φ (.build z ps)|_,_,_=>ν)
   |some (.array _ e),some i=>(match P.info? e with|some j=>(match AP i,uN (oP j.size) parts.toList with|some z,some ps=>Φ (.build z ps)|_,_=>ν)|none=>ν)
   |_,_=>ν)
 | .buildSlice t len parts=>(match P.underlying t with
   |some (.slice e)=>(match P.info? e with
    |some i=>bF (Nat.ble (Nat.mul len i.size) 16777216) (match AP i,uN (oP i.size) parts.toList with|some z,some ps=>Φ (.buildSlice e len z ps)|_,_=>ν) ν
    |none=>ν)
   |_=>ν)
 | .load t x=>(match P.underlying t,P.info? t,fI x with|some u,some i,some x=>bF (jB u) (Φ (.Bt i.size x)) (Φ (.Iz x))|_,_,_=>ν)
 | .store t x y=>(match P.info? t,fI x,fI y with|some i,some x,some y=>Φ (.store i.size x y)|_,_,_=>ν)
 | .nilCheck x=>(match fI x with|some x=>Φ (.nil x)|none=>ν)
 | .binOp g t x y _=>(match fI x,fI y with|some x',some y'=>Φ (.bin g (TX P g t) (Om x y) x' y')|_,_=>ν)
 | .unOp g _ x=>(match fI x with|some x=>Φ (.un g x)|none=>ν)
 | .convert s d x=>(match Ck P s d,fI x with|some c,some x=>Φ (.conv c x)|_,_=>ν)
 | .sliceToArrayPointer t x=>(match P.underlying t,fI x with|some (.array n _),some x=>Φ (.KH n x)|_,_=>ν)
 | .makeInterface t x=>(match P.concrete t,fI x with|true,some x=>Φ (.iface t x)|_,_=>ν)
 | .makeFunc fn f c=>(match Ah f.toList,Ah c.toList with|some f,some c=>Φ (.func fn f c)|_,_=>ν)
 | .makeMap t r=>(match P.underlying t,Qi r with|some (.map _ _),some r=>Φ (.mkMap r)|_,_=>ν)
 | .makeSlice t l c=>(match P.underlying t,fI l,fI c with
   |some (.slice e),some l,some c=>(match P.info? e with|some i=>(match AP i with|some z=>Φ (.mkSlice e i.bytes z l c)|none=>ν)|none=>ν)
   |_,_,_=>ν)
 | .slice t x lo hi mx=>(match P.underlying t,fI x,Qi lo,Qi hi,Qi mx with
   |some .string,some x,some lo,some hi,some none=>Φ (.pW x lo hi)
   |some (.slice e),some x,some lo,some hi,some none=>(match P.info? e with|some i=>Φ (.sK i.size x lo hi)|none=>ν)
   |some (.slice e),some x,some lo,some (some hi),some (some mx)=>(match P.info? e with|some i=>Φ (.slice3 i.size x lo hi mx)|none=>ν)
   |some (.array n e),some x,some lo,some hi,some none=>(match P.info? e with|some i=>Φ (.pY n i.size x lo hi)|none=>ν)
   |_,_,_,_,_=>ν)
 | .fieldAddr t x f=>(match P.underlying t,fI x with
   |some (.struct fs),some x=>(match fs[f]? with
    |some fd=>(match P.info? fd.type with|some i=>bF (Nat.beq i.size 0) ν (Φ (.fieldAddr fd.offset x))|none=>ν)
    |none=>ν)
   |_,_=>ν)
 | .field t x f=>(match P.underlying t,fI x with
   |some (.struct fs),some x=>(match fs[f]? with
    |some fd=>(match P.info? fd.type,P.underlying fd.type with|some i,some u=>Φ (.field (jB u) fd.offset i.size x)|_,_=>ν)
    |none=>ν)
   |_,_=>ν)
 | .indexAddr t x i=>(match P.underlying t,fI x,fI i with
   |some (.array n e),some x,some i=>(match P.info? e with|some j=>Φ (.xg n j.size x i)|none=>ν)
   |some (.slice e),some x,some i=>(match P.info? e with|some j=>Φ (.BD j.size x i)|none=>ν)
   |_,_,_=>ν)
 | .index t x i=>(match P.underlying t,fI x,fI i with
   |some .string,some x,some i=>Φ (.xf x i)
   |some (.array n e),some x,some i=>(match P.info? e,P.underlying e with|some j,some u=>Φ (.xh n j.size (jB u) x i)|_,_=>ν)
   |_,_,_=>ν)
 | .lookup t x k ok=>(match keyOf P t,fI x,fI k with
   |some (e,d),some x,some k=>(match P.info? e with|some i=>(match Vs i with|some z=>Φ (.lookup d z ok x k)|none=>ν)|none=>ν)
   |_,_,_=>ν)
 | .mapUpdate t m k x| .insert t m k x=>(match keyOf P t,fI m,fI k,fI x with|some (_,d),some m,some k,some x=>Φ (.mapUpdate d m k x)|_,_,_,_=>ν)
 | .mapEntry t m k=>(match keyOf P t,fI m,fI k with
   |some (e,d),some m,some k=>(match P.info? e with|some i=>(match Vs i with|some z=>Φ (.mapEntry d z m k)|none=>ν)|none=>ν)
   |_,_,_=>ν)
 | .entryStore _ m s x=>(match fI m,fI s,fI x with|some m,some s,some x=>Φ (.entryStore m s x)|_,_,_=>ν)
 | .extract x i=>(match fI x with|some x=>Φ (.extract x i)|none=>ν)
 | .call {callee:=.builtin b,args,argTypes}=>uK P b argTypes.toList args.toList
 | .call {callee:=.value (.func f),args, .. }=>(match Ah args.toList with|some l=>Φ (.call f l)|none=>ν)
 | .call {callee:=.value f,args, .. }=>(match fI f,Ah args.toList with|some f,some l=>Φ (.EK f l)|_,_=>ν)
 |_=>ν
section
variable {P:Program} {ρ:Ren} {Z Z':O} {w:World} {v:K} {fr:Fr} {a:Act} {call:gZ}
def yf {o:Oper}{next:Act->World->Prop}{Q:Exit->Act->World->Prop}(h:MO P (execOp a.eval o) ρ Z w v Z')
 (c:∀v' w' b,VR b v v'->br ρ Z w b Z' w'->next (a.put o.dst v') w'):o.wp P a w next Q:=by
 obtain⟨x,v',w',b,g,f,e,d⟩:=h;unfold Oper.wp;rw[g];rcases f with rfl|⟨rfl,rfl⟩
 .exact c v' w' b e d
 .exact c _ w' b e d
def qk {t e:TypeId}{d:lB}(h:keyOf P t=Φ (e,d)):∃k,P.underlying t=Φ (.map k e)/\gO P 40 k=Φ d/\jl 40 d=θ:=by
 unfold keyOf at h
 split at h
 .rename_i k e' hu
  split at h
  .rename_i f c;rw[aS]at h
   split at h
   .rename_i b;cases h;exact⟨k,hu,c,b⟩
   .cases h
  .cases h
 .cases h
def Cf {c:BinOp}{t:TypeId}{d:lB}(h:TX P c t=Φ d):gO P 40 t=Φ d/\(JN d=θ->P.eqGuardType P.depth t=φ):=by
 have key:∀{x:υ lB},(match gO P 40 t with
  |some d=>bF (JN d) (bF (P.eqGuardType P.depth t) ν (Φ d)) (Φ d)
  |none=>ν)=Φ d->gO P 40 t=Φ d/\(JN d=θ->P.eqGuardType P.depth t=φ):=by
  intro _ h
  split at h
  .rename_i f b;simp only[aS]at h
   split at h
   .split at h
    .cases h
    .rename_i hg;cases h;exact⟨b,λ_=>by simpa using hg⟩
   .rename_i ha;cases h;exact⟨b,λe=>absurd e ha⟩
  .cases h
 unfold TX at h
 split at h
 .exact key (x:=ν) h
 .exact key (x:=ν) h
 .cases h
def Dw {s d:TypeId}{c:ET}(h:Ck P s d=Φ c):JB P c s d:=by
 unfold Ck at h
 split at h
 .rename_i u k h1 h2;cases h;exact⟨h2,u,h1⟩
 .rename_i h1 h2;cases h;exact⟨h2,h1⟩
 .rename_i e h1 h2
  split at h
  .rename_i b;cases h;exact⟨h2,b,h1⟩
  .cases h
 .rename_i e h1 h2
  split at h
  .rename_i b;cases h;exact⟨e,h1,b,h2⟩
  .cases h
 .cases h
def Ga {t:TypeId}{k:Qo}(h:Gb P t=Φ k):Nv P k t:=by
 unfold Gb at h
 split at h
 .rename_i hu;cases h;exact hu
 .rename_i e hu;cases h;exact⟨e,hu⟩
 .rename_i k e hu;cases h;exact⟨k,e,hu⟩
 .rename_i n e hu;cases h;exact .inl ⟨e,hu⟩
 .rename_i a hu
  split at h
  .rename_i n e b;cases h;exact .inr ⟨a,e,hu,b⟩
  .cases h
 .cases h
def Fb {u:TypeId}{size:Nat}{k:JS}(h:Fe P u size=Φ k):Ff P k u size:=by
 unfold Fe at h
 split at h
 .rename_i e hu;cases h;exact⟨e,hu⟩
 .rename_i hu;simp only[aS,md]at h
  split at h
  .rename_i hs;cases h;exact⟨hu,hs⟩
  .cases h
 .rename_i j hu;cases h;exact⟨j,hu⟩
 .cases h
def vp {t:TypeId}{u:TypeDesc}(b:P.underlying t=Φ u):(isAgg t).run P w=.ok (jB u) w:=by
 cases u<;>simp[isAgg,kn b,jB]
def iU {t:TypeId}{i:TypeInfo}(hi:P.info? t=Φ i):(Go.sizeOf t).run P w=.ok i.size w:=adO
def yH {b:Builtin}{ats:Array TypeId}{args:Array Operand}{H:DE}{ty:TypeId}{W:Array Bool}(h:uK P b ats.toList args.toList=Φ H)(j:dn call H fr Z=.ok v Z')(g:WR ρ Z w)(c:FR ρ fr a.tmps):
 MO P (builtin b ats ty W (args.map a.eval)) ρ Z w v Z':=by
 obtain⟨ats⟩:=ats;obtain⟨args⟩:=args;rw[show Array.map a.eval ⟨args⟩=(args.map a.eval).toArray from V];unfold uK at h
 split at h
 .rename_i t r x ht hx;cases ht;cases hx
  split at h
  .rename_i k x' n f;cases h;have:=Lz (P:=P) (ty:=ty) j g (bu f c) (Ga n) (t::r).toArray V;exact this.ji
  .cases h
 .rename_i t r x ht hx;cases ht;cases hx
  split at h
  .rename_i e x' n f;cases h;exact(LB (P:=P) (ty:=ty) j g (bu f c) n (t::r).toArray V).ji
  .cases h
 .rename_i t u s x ht hx;cases ht;cases hx
  split at h
  .rename_i e s' x' hu o f
   split at h
   .rename_i i hi
    split at h
    .rename_i z k D n;rw[aS]at h
     split at h
     .rename_i C;cases h;obtain⟨L,q,G,p⟩:=kX D;have:=Dd (P:=P) (t:=t) (u:=u) (ty:=ty) j g (bu o c) (bu f c) (Fb n) hu hi q rfl G p rfl (λF=>by subst F;simpa[Hj]using C);exact this.ji
     .cases h
    .cases h
   .cases h
  .cases h
 .rename_i t u d s ht hx;cases ht;cases hx
  split at h
  .rename_i e Y d' s' hu T I o
   split at h
   .rename_i i e2 hi;cases h;have:=zS (P:=P) (dT:=t) (sT:=u) (ty:=ty) j g (bu I c) (bu o c) hu hi rfl (λe=>by cases e);exact this.ji
   .rename_i i hi;simp only[aS,md]at h
    split at h
    .rename_i h1;cases h;have:=zS (P:=P) (dT:=t) (sT:=u) (ty:=ty) j g (bu I c) (bu o c) hu hi rfl (λ_=>h1);exact this.ji
    .cases h
   .cases h
  .cases h
 .rename_i t x ht hx;cases ht;cases hx
  split at h
  .rename_i e x' hu f
   split at h
   .rename_i i hi
    split at h
    .rename_i z D;cases h;obtain⟨L,q,G,p⟩:=kX D;have:=FT (P:=P) (t:=t) (ty:=ty) j g (bu f c) hu hi q p;exact this.ji
    .cases h
   .cases h
  .cases h
 .rename_i x y hx;cases hx
  split at h
  .rename_i x' y' f l;cases h;have:=DZ (P:=P) (mx:=θ) (ats:=ats.toArray) (ty:=ty) j g (bu f c) (bu l c);exact bH.ji (s:=Builtin.max_ ats.toArray ty #[a.eval x,a.eval y]) this
  .cases h
 .rename_i x y hx;cases hx
  split at h
  .rename_i x' y' f l;cases h;have:=DZ (P:=P) (mx:=φ) (ats:=ats.toArray) (ty:=ty) j g (bu f c) (bu l c);exact bH.ji (s:=Builtin.min_ ats.toArray ty #[a.eval x,a.eval y]) this
  .cases h
 .rename_i t r m k ht hx;cases ht;cases hx
  split at h
  .rename_i e d m' k' n X M;cases h;obtain⟨kt,S,Q,N⟩:=qk n;have:=Db (P:=P) (ty:=ty) (ats:=(t::r).toArray) V j g (bu X c) (bu M c) S Q J N;exact this.ji
  .cases h
 .cases h
end
section
variable {f:FuncId}{o:Oper}{next:Act->World->Prop}{Q:Exit->Act->World->Prop}
section
variable {P:Program} {ρ:Ren} {Z Z':O} {w:World} {v:K} {fr:Fr} {a:Act} {call:gZ}
def Fs (args:Array Value)(h:iP P f=true):(callFunc f args).run P w=.ok (.enter f args) w:=by
 unfold iP at h
 split at h
 .rename_i fn hfn;simp only[mZ,å]at h;have c:¬(fn.name== "runtime.NumGoroutine")=true:=by rw[h.1];simp
  have b:¬fn.body.isNone=true:=by
   have:=h.2;cases hb:fn.body<;>simp_all
  simp only[callFunc,Sem.run_bind,run_program,Result.andThen_ok,hfn];rw[B c,B b]
  rfl
 .cases h
def DT {first b:Array Value}{x:Operand}{args:Array Operand}{ats:Array TypeId}{dst:υ Tmp}{ty:TypeId}{pos:String}{after:Array Edge}{guard:υ (Nat×Bool)}
 (c:a.eval x=.func (.func f) first b):
 (execOp a.eval {dst,op:=.call {callee:=.value x,args,argTypes:=ats},type:=ty,pos,after,guard}).run P w=(callFunc f (first++args.map a.eval++b)).run P w:=by
 have e:execOp a.eval {dst,op:=.call {callee:=.value x,args,argTypes:=ats},type:=ty,pos,after,guard}=
  (do let d<-Deferred.ofValue (a.eval x) (args.map a.eval);invoke d.target d.args):=rfl
 rw[e,c];simp only[Deferred.ofValue,Ψ,Ω,Ξ,invoke]
def Uv {args:δ K}{args':Array Value}(n:ki P call)(m:call f args Z=.ok v Z')(c:WR ρ Z w)(k:fp ρ args args'.toList)
 (i:(execOp a.eval o).run P w=(callFunc f args').run P w) (j:∀v' w' b,VR b v v'->br ρ Z w b Z' w'->next (a.put o.dst v') w'):o.wp P a w next Q:=by
 rcases n f args Z v Z' m with⟨g,d⟩|⟨g,d⟩
 .unfold Oper.wp;rw[i,Fs _ g,Oper.upon_enter];refine(d ρ w args' c k).mono ?_;rintro e w' ⟨v',b,rfl,l,p⟩;exact j v' w' b l p
 .subst g;obtain⟨v',r,q⟩:=d ρ w args' c k;unfold Oper.wp;rw[i,r,Oper.upon_value];exact j v' w ρ q (br.refl c)
def Qh {f:K}{args:δ K}(c:zg call f args Z=.ok v Z'){d:Value}(e:VR ρ f d){args':δ Value}(i:fp ρ args args'):
 ∃g first b,d=.func (.func g) first b/\∃l,call g l Z=.ok v Z'/\fp ρ l (first++args'.toArray++b).toList:=by
 unfold zg at c
 split at c
 .rename_i g j k;cases e with
  |func _ _ _ d c' e hc h1 h2=>
   refine⟨g,d.toArray,c'.toArray,rfl,_,c,?_⟩;have:=(fp.mk (ρ:=ρ) e h1).app (i.app (fp.mk (ρ:=ρ) hc h2))
   simpa using this
 .cases c
def GG (hc:ki P call){op:DE}(h:nE P o.op=Φ op)(q:dn call op fr Z=.ok v Z')(p:WR ρ Z w)(k:FR ρ fr a.tmps)
 (hn:∀v' w' ab,VR ab v v'->br ρ Z w ab Z' w'->next (a.put o.dst v') w'):o.wp P a w next Q:=by
 obtain⟨M,ac,ty,I,C,r⟩:=o;have b:∀{s:Sem Next},s=execOp a.eval ⟨M,ac,ty,I,C,r⟩->MO P s ρ Z w v Z'->Oper.wp P ⟨M,ac,ty,I,C,r⟩ a w next Q:=λe hd=>yf (e▸hd) hn;dsimp only at h;unfold nE at h
 split at h
 .rename_i x
  split at h
  .rename_i x' hx;cases h;cases q;exact b rfl ⟨.value (a.eval x),a.eval x,w,ρ,rfl,.inl rfl,bu hx k,br.refl p⟩
  .cases h
 .rename_i x
  split at h
  .rename_i x' hx;cases h;cases q;exact b rfl ⟨.value (a.eval x),a.eval x,w,ρ,rfl,.inl rfl,bu hx k,br.refl p⟩
  .cases h
 .split at h
  .rename_i h1 h2 h3;cases h;exact b rfl (Io q p (bu h1 k) (bu h2 k) (bu h3 k))
  .cases h
 .split at h
  .rename_i i hi
   split at h
   .rename_i z F;cases h;obtain⟨z',G,N,S⟩:=kX F;exact b rfl (FV q p hi G S).ji
   .cases h
  .cases h
 .split at h
  .rename_i hx;cases h;exact b rfl (LC q p (bu hx k)).ji
  .cases h
 .split at h
  .rename_i fs i hu hi
   split at h
   .rename_i z ps F hp fJ;cases h;obtain⟨z',G,N,S⟩:=kX F;have Zm:=pL hp k;refine b rfl (Dc q p hu hi G S afs (λf ae=>?_)).ji;have:=ù.1 fJ f ae;exact Option.isSome_iff_exists.1 this
   .cases h
  .rename_i n e i hu hi
   split at h
   .rename_i j hj
    split at h
    .rename_i z ps F hp;cases h;obtain⟨z',G,N,S⟩:=kX F;have Zm:=pL hp k;exact b rfl (FU q p hu hi G S hj afs).ji
    .cases h
   .cases h
  .cases h
 .split at h
  .rename_i e hu
   split at h
   .rename_i i hi;simp only[aS,nR]at h
    split at h
    .rename_i hle
     split at h
     .rename_i z ps F hp;cases h;obtain⟨z',G,N,S⟩:=kX F;have Zm:=pL hp k;exact b rfl (yc q p hu hi G N S afs hle).ji
     .cases h
    .cases h
   .cases h
  .cases h
 .split at h
  .rename_i u i x' hu hi hx;rw[aS]at h
   split at h
   .rename_i ha;cases h;exact b rfl (FL q p (bu hx k) (by rw[vp hu,ha]) (iU hi)).ji
   .rename_i ha;cases h;exact b rfl (FM q p (bu hx k) adB).ji
  .cases h
 .split at h
  .rename_i i x' y' hi hx hy;cases h;exact b rfl (FI q p (bu hx k) (bu hy k) (iU hi)).ji
  .cases h
 .rename_i x
  split at h
  .rename_i x' hx;cases h;exact yf (Ly (o:=⟨M,.nilCheck x,ty,I,C,r⟩) q p (bu hx k) rfl rfl) hn
  .cases h
 .rename_i ag t x y yt
  split at h
  .rename_i x' y' hx hy;cases h;refine b rfl (LD (X:=x) (Y:=y) (f:=40) q p (bu hx k) (bu hy k) (λe he=>(Cf he).1) J rfl (λe he=>(Cf he).2)).ji
  .cases h
 .split at h
  .rename_i x' hx;cases h;exact b rfl (Pa q p (bu hx k)).ji
  .cases h
 .split at h
  .rename_i c x' L hx;cases h;exact b rfl (Is q p (bu hx k) (Dw L)).ji
  .cases h
 .split at h
  .rename_i hu hx;cases h;exact b rfl (Im q p (bu hx k) hu).ji
  .cases h
 .split at h
  .rename_i L hx;cases h;exact b rfl (FO q p (bu hx k) L).ji
  .cases h
 .split at h
  .rename_i h1 h2;cases h;exact b rfl (Ir q p (by rw[ì];exact qW h1 k) (by rw[ì];exact qW h2 k)).ji
  .cases h
 .split at h
  .rename_i hu h1;cases h;exact b rfl (FK q p (gw h1 k) hu).ji
  .cases h
 .split at h
  .rename_i e l' c' hu h1 h2
   split at h
   .rename_i i hi
    split at h
    .rename_i z F;cases h;obtain⟨z',G,N,S⟩:=kX F;exact b rfl (Ip q p (bu h1 k) (bu h2 k) hu hi G rfl N S).ji
    .cases h
   .cases h
  .cases h
 .rename_i t x lo hi mx
  split at h
  .rename_i x' mw fB hu hx Ew Kg Xn;cases h;have D:=gw (ρ:=ρ) Xn k;cases mx with
   |some m=>exact False.elim D
   |none=>exact b rfl (An q p (bu hx k) (gw Ew k) (gw Kg k) hu).ji
  .rename_i e x' mw fB hu hx Ew Kg Xn;have D:=gw (ρ:=ρ) Xn k;cases mx with
   |some m=>exact False.elim D
   |none=>
    split at h
    .rename_i i xB;cases h;exact b rfl (Bj q p (bu hx k) (gw Ew k) (gw Kg k) hu (iU xB)).ji
    .cases h
  .rename_i e x' mw fB ah hu hx Ew Kg Xn;have D:=gw (ρ:=ρ) Xn k;have hh:=gw (ρ:=ρ) Kg k;cases mx with
   |none=>exact False.elim D
   |some m=>
    cases hi with
    |none=>exact False.elim hh
    |some h2=>
     split at h
     .rename_i i xB;cases h;exact b rfl (C6 q p (bu hx k) (gw Ew k) hh D hu (iU xB)).ji
     .cases h
  .rename_i n e x' mw fB hu hx Ew Kg Xn;have D:=gw (ρ:=ρ) Xn k;cases mx with
   |some m=>exact False.elim D
   |none=>
    split at h
    .rename_i i xB;cases h;exact b rfl (Ao q p (bu hx k) (gw Ew k) (gw Kg k) hu (iU xB)).ji
    .cases h
  .cases h
 .split at h
  .rename_i fs x' hu hx
   split at h
   .rename_i fd aa
    split at h
    .rename_i i hi;simp only[aS,md]at h
     split at h
     .cases h
     .rename_i F;cases h;exact b rfl (ze q p (bu hx k) hu aa rfl (iU hi) F).ji
    .cases h
   .cases h
  .cases h
 .split at h
  .rename_i fs x' hu hx
   split at h
   .rename_i fd aa
    split at h
    .rename_i i u hi ad;cases h;exact b rfl (FQ q p (bu hx k) hu aa hi ad).ji
    .cases h
   .cases h
  .cases h
 .split at h
  .rename_i n e x' i' hu hx hi
   split at h
   .rename_i j hj;cases h;exact b rfl (C9 q p (bu hx k) (bu hi k) hu (iU hj)).ji
   .cases h
  .rename_i e x' i' hu hx hi
   split at h
   .rename_i j hj;cases h;exact b rfl (FP q p (bu hx k) (bu hi k) hu (iU hj)).ji
   .cases h
  .cases h
 .split at h
  .rename_i x' i' hu hx hi;cases h;exact b rfl (C8 q p (bu hx k) (bu hi k) hu).ji
  .rename_i n e x' i' hu hx hi
   split at h
   .rename_i j u hj Qu;cases h;exact b rfl (Da q p (bu hx k) (bu hi k) hu hj Qu).ji
   .cases h
  .cases h
 .split at h
  .rename_i e d x' k' L hx Hc
   split at h
   .rename_i i hi
    split at h
    .rename_i z F;cases h;obtain⟨kt,k1,W,T⟩:=qk L;obtain⟨z',G,N⟩:=DG F;exact b rfl (C7 q p (bu hx k) (bu Hc k) k1 W J T hi G (N ρ)).ji
    .cases h
   .cases h
  .cases h
 .split at h
  .rename_i e d m' k' x' L D Hc hx;cases h;obtain⟨kt,k1,W,T⟩:=qk L;exact b rfl (rL q p (bu D k) (bu Hc k) (bu hx k) k1 W J T).ji
  .cases h
 .split at h
  .rename_i e d m' k' x' L D Hc hx;cases h;obtain⟨kt,k1,W,T⟩:=qk L;exact b rfl (rL q p (bu D k) (bu Hc k) (bu hx k) k1 W J T).ji
  .cases h
 .split at h
  .rename_i e d m' k' L D Hc
   split at h
   .rename_i i hi
    split at h
    .rename_i z F;cases h;obtain⟨kt,k1,W,T⟩:=qk L;obtain⟨z',G,N⟩:=DG F;exact b rfl (Ap q p (bu D k) (bu Hc k) k1 W J T hi G (N ρ)).ji
    .cases h
   .cases h
  .cases h
 .split at h
  .rename_i m' s' x' D hs hx;cases h;exact b rfl (ya q p (bu D k) (bu hs k) (bu hx k)).ji
  .cases h
 .split at h
  .rename_i x' hx;cases h;exact b rfl (Bm q p (bu hx k)).ji
  .cases h
 .exact b rfl (yH h q p k)
 .rename_i f args ats
  split at h
  .rename_i l hl;cases h;refine Uv (o:=⟨M,.call {callee:=.value (.func f),args:=args,argTypes:=ats},ty,I,C,r⟩) hc q p (args':= #[]++args.map a.eval++ #[]) (by simpa using qW hl k) (DT rfl) hn
  .cases h
 .rename_i f args ats ai
  split at h
  .rename_i f' l af hl;cases h;obtain⟨g,first,H,e1,l',e2,e3⟩:=Qh q (bu af k) (qW hl k);refine Uv (o:=⟨M,.call {callee:=.value f,args:=args,argTypes:=ats},ty,I,C,r⟩) hc e2 p (args':=first++args.map a.eval++H) (by simpa using e3) (DT e1) hn
  .cases h
 .cases h
end
end
inductive Rs where
 |norm (fr:Fr) (Z:O)
 |exit (id:Nat) (fr:Fr) (Z:O)
 |ret (fr:Fr) (Z:O)
 |bad
def gD (ops:Array Oper)(fr:Fr)(o:Oper):υ Bool:=
 match o.guard with
 |none=>Φ θ
 |some (g,b)=>(match (ops[g]?).bind (·.dst)with
  |none=>Φ φ
  |some d=>(match fZ fr d with
   | .bool c=>Φ (bF b c (Bool.not c))
   | .undef=>Φ φ
   |_=>ν))
def nX (P:Program)(call:gZ)(ops:Array Oper)(o:Oper)(fr:Fr)(Z:O):OR:=
 match gD ops fr o with
 |some true=>(match nE P o.op with|some op=>dn call op fr Z|none=>.bad)
 |some false=>.ok .undef Z
 |none=>.bad
section
variable {P:Program} {ρ:Ren} {Z Z':O} {w:World} {v:K} {fr:Fr} {a:Act} {call:gZ}
def jY {ops:Array Oper}{o:Oper}{b:Bool}(h:gD ops fr o=Φ b)(j:FR ρ fr a.tmps):Region.wanted o (yielded ops a.tmps)=b:=by
 unfold gD at h;unfold Region.wanted
 split at h
 .rename_i hg;cases h;rw[hg]
 .rename_i g want hg;rw[hg];dsimp only;unfold yielded
  split at h
  .rename_i i;cases h;rw[i];rfl
  .rename_i d i;rw[i,Option.bind_some];have f:=j d
   split at h
   .rename_i c hc;cases h;rw[hc]at f;cases e:a.tmps[d]? with
    |none=>
     have:a.tmps.getD d Go.undef=Go.undef:=by simp[e]
     rw[this]at f;cases f
    |some x=>
     have:a.tmps.getD d Go.undef=x:=by simp[e]
     rw[this]at f;cases f;dsimp only;cases c<;>cases want<;>rfl
   .rename_i hc;cases h;rw[hc]at f;cases e:a.tmps[d]? with
    |none=>rfl
    |some x=>
     have:a.tmps.getD d Go.undef=x:=by simp[e]
     rw[this]at f;cases f
     rfl
   .cases h
def ub (g:ki P call){ops:Array Oper}{o:Oper}(h:nX P call ops o fr Z=.ok v Z')(e:WR ρ Z w)(d:FR ρ fr a.tmps){next:Act->World->Prop}{Q:Exit->Act->World->Prop}
 (f:∀v' w' b,VR b v v'->br ρ Z w b Z' w'->next (a.put o.dst v') w'):
 if Region.wanted o (yielded ops a.tmps)then o.wp P a w next Q else next (a.put o.dst undef) w:=by
 unfold nX at h
 split at h
 .rename_i c;rw[gq (jY c d)]
  split at h
  .rename_i op i;exact GG g i h e d f
  .cases h
 .rename_i c;rw[B (by rw[jY c d];simp)];cases h;exact f _ w ρ .undef (br.refl e)
 .cases h
end
def rf (P:Program)(call:gZ)(n:Nat)(ops:Array Oper)(l:δ Oper)(fr:Fr)(Z:O):Rs:=
 match l with
 |[]=>.norm fr Z
 |o::l=>match nX P call ops o fr Z with
  | .ok v Z=>(match o.dst with|none=>rf P call n ops l fr Z|some d=>if d<n then rf P call n ops l (fr.put d (Φ v)) Z else .bad)
  | .bad=>.bad
structure UO (ρ:Ren)(Z:O)(w:World)(n:Nat)(fr':Fr)(Z':O)(a':Act)(w':World)(ρ':Ren):Prop where
 fr:FR ρ' fr' a'.tmps
 sz:n<=a'.tmps.size
 defers:a'.defers=[]
 after:br ρ Z w ρ' Z' w'
def si (ρ:Ren)(Z:O)(w:World)(n:Nat)(r:Rs)(e:Exit)(c:Act)(w':World):Prop:=
 match r with
 | .norm fr' Z'=>e=.normal/\∃b,UO ρ Z w n fr' Z' c w' b
 | .exit id fr' Z'=>e=.exit id/\∃b,UO ρ Z w n fr' Z' c w' b
 | .ret fr' Z'=>e=.ret/\∃b,UO ρ Z w n fr' Z' c w' b
 | .bad=>False
def si.step {ρ b:Ren}{Z f:O}{w d:World}{n:Nat}{r:Rs}{e:Exit}{g:Act}{w':World}(c:br ρ Z w b f d)(h:si b f d n r e g w'):si ρ Z w n r e g w':=by
 cases r<;>simp only[si]at h⊢
 .obtain⟨h1,ρ',h2⟩:=h;exact⟨h1,ρ',h2.fr,h2.sz,h2.defers,c.trans h2.after⟩
 .obtain⟨h1,ρ',h2⟩:=h;exact⟨h1,ρ',h2.fr,h2.sz,h2.defers,c.trans h2.after⟩
 .obtain⟨h1,ρ',h2⟩:=h;exact⟨h1,ρ',h2.fr,h2.sz,h2.defers,c.trans h2.after⟩
def HX (a:Act)(d:υ Tmp)(v:Value):(a.put d v).tmps.size=a.tmps.size:=by cases d<;>simp[Act.put]
def Bd (a:Act)(d:υ Tmp)(v:Value):(a.put d v).defers=a.defers:=by cases d<;>rfl
section
variable {P:Program} {call:gZ} {n:Nat} {ops:Array Oper}
def KN (fr:Fr)(Z:O):rf P call n ops [] fr Z=.norm fr Z:=rfl
def zP (o:Oper)(l:δ Oper)(fr:Fr)(Z:O):rf P call n ops (o::l) fr Z=
 match nX P call ops o fr Z with
 | .ok v Z=>(match o.dst with|none=>rf P call n ops l fr Z|some d=>if d<n then rf P call n ops l (fr.put d (Φ v)) Z else .bad)
 | .bad=>.bad:=rfl
def FR.ahu {ρ:Ren}{fr:Fr}{a:Act}(h:FR ρ fr a.tmps){d:Nat}(c:d<a.tmps.size){v:K}{v':Value}(b:VR ρ v v'):FR ρ (fr.put (d) (Φ v)) (a.put (Φ d) v').tmps:=h.put c b
def Ft (H:ki P call)(l:δ Oper):∀(fr:Fr) (Z:O) (ρ:Ren) (a:Act) (w:World),rf P call n ops l fr Z≠ .bad->WR ρ Z w->FR ρ fr a.tmps->n<=a.tmps.size->a.defers=[]->
 wpList P ops (si ρ Z w n (rf P call n ops l fr Z)) l a w:=by
 induction l with
 |nil=>intro fr Z ρ a w _ z m k s;rw[KN];exact wpList_nil ⟨rfl,ρ,m,k,s,br.refl z⟩
 |cons o l i=>
  intro fr Z ρ a w b z m k s;rw[zP]at b⊢;cases hs:nX P call ops o fr Z with
  |bad=>rw[hs]at b;exact absurd rfl b
  |ok v iD=>
   rw[hs]at b;refine wpList_step λT I=>ub H hs z m λv' w' g G c=>I _ _ ?_;dsimp only at b⊢
   have f:∀{r:Rs} {l:δ Oper} {a:Act} {j:World},wpList P ops (si g iD w' n r) l a j->wpList P ops (si ρ Z w n r) l a j:=by
    intro r l
    induction l with
    |nil=>intro a j h;exact si.step c h
    |cons o l i=>
     intro a j h;unfold wpList at h⊢
     split
     .rename_i u;rw[gq u]at h;rcases h with h|⟨N,S,y,M⟩
      .left;unfold Oper.wp at h⊢;generalize (execOp a.eval o).run P j=F at h⊢;cases F with
       |ok x y=>
        cases x<;>simp only[Oper.upon]at h⊢<;>first
         |exact i h
         |exact h.mono (λe W p=>by cases e<;>first|exact i p|exact si.step c p|(obtain⟨Q,D,L⟩:=p;exact⟨Q,D,si.step c L⟩))
         |exact h.mono (λ_ _ p=>i p)
       |halt x y=>cases x<;>simp only[Oper.upon]at h⊢<;>exact si.step c h
      .exact .inr ⟨N,S,y,si.step c M⟩
     .rename_i u;rw[B u]at h;exact i h
   cases q:o.dst with
   |none=>
    rw[q]at b;refine f (i fr iD g (a.put ν v') w' b c.wr (m.mono c.ext) k s)
   |some d=>
    rw[q]at b;dsimp only at b⊢
    split at b
    .rename_i C;rw[gq C];exact f (i _ iD g (a.put (Φ d) v') w' b c.wr ((m.mono c.ext).ahu (ov C k) G) (by rw[HX];exact k) (by rw[Bd];exact s))
    .exact absurd rfl b
end
section
variable {x:Code}{f:Fr->O->Rs}{L:υ (δ Nat)}{t:TypeId}{p:K}{p':Value}
abbrev Ak:=gZ->Nat->Array Oper->Fr->O->Rs
def wg (r:Rs)(k:Fr->O->Rs):Rs:=match r with| .norm fr Z=>k fr Z| .exit id fr Z=>.exit id fr Z| .ret fr Z=>.ret fr Z| .bad=>.bad
def uy (id:Nat)(r:Rs):Rs:=match r with| .norm fr Z=>.norm fr Z| .exit i fr Z=>bF (Nat.beq i id) (.norm fr Z) (.exit i fr Z)| .ret fr Z=>.ret fr Z| .bad=>.bad
def Nn:δ Nat->δ K->Fr
 |[],_=>λ_=>Φ .any
 |l::L,vs=>PT.put (Nn L (vs.drop 1)) l (Φ (vs.headD .any))
def Kj:Code->Nat
 | .region id _ _=>id
 | .seq x _=>Kj x
 | .cond _ x _=>Kj x
 | .block _ x=>Kj x
 | .loop x=>Kj x
 | .scope x=>Kj x
 |_=>0
def zD (L:υ (δ Nat))(fr:Fr):Fr:=match L with|none=>fr|some L=>Nn L (L.map (fZ fr))
def zV (b:Fr->O->Rs)(L:υ (δ Nat)):Nat->Fr->O->Rs
 |0,_,_=>.bad
 |n+1,fr,Z=>wg (b (zD L fr) Z) (zV b L n)
def EH (c:Operand)(x y:Fr->O->Rs)(fr:Fr)(Z:O):Rs:=
 match fI c with|some c=>(match ev fr c with| .bool t=>bF t (x fr Z) (y fr Z)|_=>.bad)|none=>.bad
def mX (P:Program)(call:gZ)(dr:Ak)(lv:Nat->υ (δ Nat))(fuel n:Nat)(c:Code)(fr:Fr)(Z:O):Rs:=
 match c with
 | .skip=>.norm fr Z
 | .region _ ops draw=>bF draw (dr call n ops fr Z) (rf P call n ops ops.toList fr Z)
 | .seq x y=>wg (mX P call dr lv fuel n x fr Z) (λfr Z=>mX P call dr lv fuel n y (zD (lv (Kj y)) fr) Z)
 | .cond c x y=>EH c (mX P call dr lv fuel n x) (mX P call dr lv fuel n y) fr Z
 | .block id x=>uy id (mX P call dr lv fuel n x fr Z)
 | .loop x=>zV (mX P call dr lv fuel n x) (lv (Kj x)) fuel fr Z
 | .exit id=>.exit id fr Z
 | .scope x=>mX P call dr lv fuel n x fr Z
 | .label _=>.norm fr Z
 | .ret=>.ret fr Z
 |_=>.bad
def vO (P:Program)(dr:Ak):Prop:=
 ∀(call:gZ) (n:Nat),ki P call->∀(id:Nat) (ops:Array Oper) (fr:Fr) (Z:O) (ρ:Ren) (a:Act) (w:World),dr call n ops fr Z≠ .bad->WR ρ Z w->FR ρ fr a.tmps->n<=a.tmps.size->a.defers=[]->
  (Code.region id ops θ).wp P (si ρ Z w n (dr call n ops fr Z)) a w
section
variable {P:Program} {call:gZ} {dr:Ak} {n:Nat} {lv:Nat->υ (δ Nat)} {fuel:Nat}
def Ok (P:Program)(n:Nat)(c:Code)(f:Fr->O->Rs):Prop:=
 ∀(fr:Fr) (Z:O) (ρ:Ren) (a:Act) (w:World),f fr Z≠ .bad->WR ρ Z w->FR ρ fr a.tmps->n<=a.tmps.size->a.defers=[]->c.wp P (si ρ Z w n (f fr Z)) a w
def Q0 {y:Code}{g:Fr->O->Rs}(u:Ok P n x f)(s:Ok P n y g):Ok P n (.seq x y) (λfr Z=>wg (f fr Z) g):=by
 intro fr Z ρ a w c k m l o;have h1:=u fr Z ρ a w;refine wp_seq ?_;dsimp only at c⊢;generalize f fr Z=r at c h1⊢;cases r with
 |bad=>exact absurd rfl c
 |norm j iD=>
  refine wp_mono (h1 V k m l o) ?_;rintro e q i ⟨rfl,d,b⟩;exact wp_mono (s j iD d q i c b.after.wr b.fr b.sz b.defers) (λe a w h=>si.step b.after h)
 |exit id j iD=>
  refine wp_mono (h1 V k m l o) ?_;rintro e q i ⟨rfl,b⟩;exact⟨rfl,b⟩
 |ret j iD=>
  refine wp_mono (h1 V k m l o) ?_;rintro e q i ⟨rfl,b⟩;exact⟨rfl,b⟩
def IN {id:Nat}(q:Ok P n x f):Ok P n (.block id x) (λfr Z=>uy id (f fr Z)):=by
 intro fr Z ρ a w l d j g k;have h1:=q fr Z ρ a w;refine wp_block ?_;dsimp only at l⊢;generalize f fr Z=r at l h1⊢;cases r with
 |bad=>exact absurd rfl l
 |norm c iD=>
  refine wp_mono (h1 V d j g k) ?_;rintro e o m ⟨rfl,b⟩;exact⟨rfl,b⟩
 |exit i c iD=>
  refine wp_mono (h1 V d j g k) ?_;rintro e o m ⟨rfl,b⟩;have s:uy id (.exit i c iD)=bF (Nat.beq i id) (.norm c iD) (.exit i c iD):=rfl;rw[s];simp only[aS,md,Exit.inBlock]
  by_cases hi:i=id
  .simp only[gq hi];exact⟨rfl,b⟩
  .simp only[B hi];exact⟨rfl,b⟩
 |ret c iD=>
  refine wp_mono (h1 V d j g k) ?_;rintro e o m ⟨rfl,b⟩;exact⟨rfl,b⟩
def TQ (ρ:Ren)(fr:Fr)(tmps:Array Value)(h:FR ρ fr tmps):∀(L:δ Nat),FR ρ (Nn L (L.map (fZ fr))) tmps:=by
 intro L
 induction L with
 |nil=>intro t;exact .any _
 |cons l L b=>
  intro t;show VR ρ (fZ (PT.put (Nn L ((fZ fr l::L.map (fZ fr)).drop 1)) l (Φ (fZ fr l))) t) _
  by_cases e:t=l
  .subst e;rw[nO];exact h t
  .rw[oG _ _ _ _ e];exact b t
def Ol {ρ:Ren}{fr:Fr}{tmps:Array Value}(h:FR ρ fr tmps):FR ρ (zD L fr) tmps:=by
 cases L with
 |none=>exact h
 |some L=>exact TQ ρ fr tmps h L
def F9 (q:Ok P n x f):∀(k:Nat) (fr:Fr) (Z:O) (ρ:Ren) (a:Act) (w:World),zV f L k fr Z≠ .bad->WR ρ Z w->FR ρ fr a.tmps->n<=a.tmps.size->a.defers=[]->
 Code.rounds P x (si ρ Z w n (zV f L k fr Z)) k a w:=by
 intro k
 have g:∀{Q y:Exit->Act->World->Prop} (h:∀e a w,Q e a w->y e a w) (k:Nat) (a:Act) (w:World),Code.rounds P x Q k a w->Code.rounds P x y k a w:=by
  intro Q y h k
  induction k with
  |zero=>intro a w hh;exact hh
  |succ k o=>
   intro a w hh;rw[rounds_succ]at hh⊢;refine wp_mono hh ?_;intro e a w C;cases e<;>first|exact o _ _ C|exact h _ _ _ C
 induction k with
 |zero=>intro fr Z ρ a w c;exact absurd rfl c
 |succ k o=>
  intro z Z ρ a w c r D s u;have hf:=Ol (L:=L) D;have e:zV f L (k+1) z Z=wg (f (zD L z) Z) (zV f L k):=rfl;rw[e]at c⊢;generalize zD L z=fr at hf c⊢;rw[rounds_succ];cases d:f fr Z with
  |bad=>rw[d]at c;exact absurd rfl c
  |norm m iD=>
   have h1:=q fr Z ρ a w (by rw[d];simp) r hf s u;rw[d]at h1 c;refine wp_mono h1 ?_;rintro e j i ⟨rfl,l,b⟩;exact g (λe a w h=>si.step b.after h) k j i (o m iD l j i c b.after.wr b.fr b.sz b.defers)
  |exit id m iD=>
   have h1:=q fr Z ρ a w (by rw[d];simp) r hf s u;rw[d]at h1;refine wp_mono h1 ?_;rintro e j i ⟨rfl,b⟩;exact⟨rfl,b⟩
  |ret m iD=>
   have h1:=q fr Z ρ a w (by rw[d];simp) r hf s u;rw[d]at h1;refine wp_mono h1 ?_;rintro e j i ⟨rfl,b⟩;exact⟨rfl,b⟩
def XP (r:ki P call)(o:vO P dr)(c:Code):Ok P n c (mX P call dr lv fuel n c):=by
 induction c with
 |skip=>intro fr Z ρ a w _ g d i j;exact wp_skip ⟨rfl,ρ,d,i,j,br.refl g⟩
 |region id ops draw=>
  intro fr Z ρ a w b g d i j;cases draw with
  |true=>exact o call n r id ops fr Z ρ a w b g d i j
  |false=>exact wp_region_list (Ft r ops.toList fr Z ρ a w b g d i j)
 |seq x y hx m=>exact Q0 hx (λfr Z ρ a w b g d i j=>m _ Z ρ a w b g (Ol d) i j)
 |cond c x y hx m=>
  intro fr Z ρ a w b g d i j;have e:mX P call dr lv fuel n (.cond c x y) fr Z=EH c (mX P call dr lv fuel n x) (mX P call dr lv fuel n y) fr Z:=rfl;rw[e]at b⊢;unfold EH at b⊢;cases q:fI c with
  |none=>rw[q]at b;exact absurd rfl b
  |some c'=>
   rw[q]at b;have k:=bu q d;dsimp only at b⊢;generalize G:ev fr c'=C at b k⊢;cases C with
   |bool t=>
    generalize s:a.eval c=z at k;cases k;cases t with
    |true=>exact wp_cond_true s (hx fr Z ρ a w b g d i j)
    |false=>exact wp_cond_false s (m fr Z ρ a w b g d i j)
   |_=>exact absurd rfl b
 |block id x hx=>exact IN hx
 |loop x hx=>intro fr Z ρ a w b g d i j;exact wp_loop_rounds fuel (F9 hx fuel fr Z ρ a w b g d i j)
 |rangeFunc f ps x y hx m=>intro fr Z ρ a w b;exact absurd rfl b
 |exit id=>intro fr Z ρ a w _ g d i j;exact wp_exit ⟨rfl,ρ,d,i,j,br.refl g⟩
 |scope x hx=>
  intro fr Z ρ a w b g d i j;refine wp_scope_straight (wp_mono (hx fr Z ρ a w b g d i j) ?_);intro e F D h;have u:mX P call dr lv fuel n (.scope x) fr Z=mX P call dr lv fuel n x fr Z:=rfl;rw[u];cases e with
  |goto l=>
   unfold si at h
   split at h
   .exact absurd h.1 V
   .exact absurd h.1 V
   .exact absurd h.1 V
   .exact h.elim
  |_=>exact h
 |label l=>intro fr Z ρ a w _ g d i j;exact wp_label ⟨rfl,ρ,d,i,j,br.refl g⟩
 |goto l=>intro fr Z ρ a w b;exact absurd rfl b
 |ret=>intro fr Z ρ a w _ g d i j;exact wp_ret ⟨rfl,ρ,d,i,j,br.refl g⟩
 |refuse y=>intro fr Z ρ a w b;exact absurd rfl b
end
def sY (args:δ K):Fr:=λt=>args[t]?
def Mx {ρ:Ren}{args:δ K}{args':Array Value}(h:fp ρ args args'.toList)(k:Nat):FR ρ (sY args) (args'++Array.replicate k undef):=by
 intro t;have d:args.length=args'.size:=by rw[h.len];simp
 by_cases e:t<args.length
 .have h1:args[t]?=Φ args[t]:=by simp[e]
  have i:args'.toList[t]?=Φ (args'[t]' J):=V
  have g:=h.at' t _ _ h1 i
  have c:(args'++Array.replicate k undef).getD t Go.undef=args'[t]'(by omega):=by
   simp[aNX,show t<args'.size from J]
  have b:fZ (sY args) t=args[t]:=by show(Option.rec _ _ (args[t]?):K)=_;rw[h1]
  rw[c,b];exact g
 .have c:(args'++Array.replicate k undef).getD t Go.undef=Go.undef:=by
   simp only[Array.getD_eq_getD_getElem?,aNX,B (show¬t<args'.size by omega),Array.getElem?_replicate]
   split<;>rfl
  have b:fZ (sY args) t=.undef:=by show(Option.rec _ _ (args[t]?):K)=_;rw[In J]
  rw[c,b];exact .undef
def DU (P:Program)(fr:Fr)(Z:O)(r:ResultVar):υ K:=
 match r with
 | .tmp t=>Φ (fZ fr (t))
 | .cell a t=>(match P.underlying t,P.info? t with
   |some u,some i=>(match bF (jB u) (aF i.size (fZ fr (a)) Z) (aw (fZ fr (a)) Z)with| .ok v _=>Φ v| .bad=>ν)
   |_,_=>ν)
def KQ (P:Program)(fr:Fr)(Z:O)(l:δ ResultVar):υ (δ K):=
 List.rec (Φ []) (λr _ b=>match DU P fr Z r,b with|some v,some l=>Φ (v::l)|_,_=>ν) l
def C4 (P:Program)(fr:Fr)(Z:O)(l:δ ResultVar):OR:=
 match KQ P fr Z l with
 |some []=>.ok .undef Z
 |some [v]=>.ok v Z
 |some l=>.ok (.tuple l) Z
 |none=>.bad
def GC (P:Program)(dr:Ak)(lv:Nat->Nat->υ (δ Nat))(fuel:Nat)(call:gZ)(f:Nat)(args:δ K)(Z:O):OR:=
 bF (iP P f) (match P.funcs[f]? with
  |some fn=>(match fn.body with
   |some c=>(match mX P call dr (lv f) fuel fn.ntmps c (sY args) Z with
    | .norm fr Z=>C4 P fr Z fn.results.toList
    | .exit _ _ _=>.bad
    | .ret fr Z=>C4 P fr Z fn.results.toList
    | .bad=>.bad)
   |none=>.bad)
  |none=>.bad) .bad
section
variable {P:Program} {call:gZ} {dr:Ak} {ρ:Ren} {Z Z':O} {w:World} {fr:Fr} {a:Act} {v:K}
def Pt (h:aw p Z=.ok v Z')(o:WR ρ Z w)(u:VR ρ p p')(q:(isAgg t).run P w=.ok φ w):
 ∃v',(do loadVar t (<-asAddr p'):Sem Value).run P w=.ok v' w/\VR ρ v v':=by
 unfold aw at h
 split at h
 .rename_i b off
  split at h
  .rename_i s e g hm;cases hx:s[off]? with
   |none=>rw[hx]at h;cases h
   |some x=>
    rw[hx]at h;cases h;cases u with
    |ptr _ _ r sz i=>
     obtain⟨c,lo,hi,m,z,y,l,C⟩:=o.row hm i;obtain⟨d,k,j⟩:=u7 l hx;refine⟨_,?_,j⟩;simp[asAddr,loadVar,q,pz P w r off c e (lo,hi) d m (xN k),-run_load]
  .rename_i s o0 hm;cases hx:s[off]? with
   |none=>rw[hx]at h;cases h
   |some x=>
    rw[hx]at h;cases h;cases u with
    |ptr _ _ r sz i=>
     obtain⟨c,e,lo,hi,m,z,y,l⟩:=o.RD hm i;obtain⟨d,k,j⟩:=u7 l hx;refine⟨_,?_,j⟩;simp[asAddr,loadVar,q,pz P w r off c e (lo,hi) d m (xN k),-run_load]
  .cases h
 .cases h
def Ps {n:Nat}(h:aF n p Z=.ok v Z')(m:WR ρ Z w)(q:VR ρ p p')(o:(isAgg t).run P w=.ok θ w)
 (u:(Go.sizeOf t).run P w=.ok n w):∃v',(do loadVar t (<-asAddr p'):Sem Value).run P w=.ok v' w/\VR ρ v v':=by
 unfold aF at h
 split at h
 .rename_i b off
  split at h
  .rename_i s d g hm;cases hx:iv s off n with
   |none=>rw[hx]at h;cases h
   |some x=>
    rw[hx]at h;cases h;cases q with
    |ptr _ _ r sz i=>
     obtain⟨c,lo,hi,l,C,z,k,D⟩:=m.row hm i;obtain⟨y,j⟩:=ld hx;refine⟨.agg ((c.toList.drop off).take n).toArray,?_,(VR.GN ?_)⟩
     .simp[asAddr,loadVar,o,u,eE P w r off n c d (lo,hi) l J]
     .rw[show x=(s.drop off).take n from j]
      have e:(c.toList.drop off).take n=((c.toList.take s.length).drop off).take n:=by
       rw[St,AQ,us J]
      rw[e];exact(k.drop off).take n
  .rename_i s o0 hm;cases hx:iv s off n with
   |none=>rw[hx]at h;cases h
   |some x=>
    rw[hx]at h;cases h;cases q with
    |ptr _ _ r sz i=>
     obtain⟨c,d,lo,hi,l,C,z,k⟩:=m.RD hm i;obtain⟨y,j⟩:=ld hx;refine⟨.agg ((c.toList.drop off).take n).toArray,?_,(VR.GN ?_)⟩
     .simp[asAddr,loadVar,o,u,eE P w r off n c d (lo,hi) l J]
     .rw[show x=(s.drop off).take n from j]
      have e:(c.toList.drop off).take n=((c.toList.take s.length).drop off).take n:=by
       rw[St,AQ,us J]
      rw[e];exact(k.drop off).take n
  .cases h
 .cases h
def Fy (a:Act)(r:ResultVar):Sem Value:=match r with| .tmp t=>pure (a.tmps.getD t undef)| .cell b t=>do loadVar t (<-asAddr (a.tmps.getD b undef))
def HS {r:ResultVar}{v:K}(h:DU P fr Z r=Φ v)(b:WR ρ Z w)(c:FR ρ fr a.tmps):
 ∃v',(Fy a r).run P w=.ok v' w/\VR ρ v v':=by
 unfold DU at h
 split at h
 .rename_i t;cases h;exact⟨_,rfl,c t⟩
 .rename_i d t
  split at h
  .rename_i u i hu hi;have hp:=c d;rw[aS]at h
   by_cases ha:jB u=θ
   .rw[gq ha]at h
    split at h
    .rename_i v1 iD hh;cases h;exact Ps (t:=t) hh b hp (by rw[vp hu,ha]) (iU hi)
    .cases h
   .rw[B ha]at h
    split at h
    .rename_i v1 iD hh;cases h;exact Pt (t:=t) hh b hp adB
    .cases h
  .cases h
def wO:∀{l:δ ResultVar} {b:δ K},KQ P fr Z l=Φ b->WR ρ Z w->FR ρ fr a.tmps->∃c,(l.mapM (Fy a)).run P w=.ok c w/\fp ρ b c:=by
 intro l
 induction l with
 |nil=>intro b h _ _;cases h;exact⟨[],rfl,fp.nil ρ⟩
 |cons r l i=>
  intro b h d g;have e:KQ P fr Z (r::l)=(match DU P fr Z r,KQ P fr Z l with|some v,some l=>Φ (v::l)|_,_=>ν):=rfl;rw[e]at h
  split at h
  .rename_i v l1 h1 h2;cases h;obtain⟨v',o,m⟩:=HS h1 d g;obtain⟨c,k,j⟩:=i h2 d g;exact⟨v'::c,by simp[List.mapM_cons,o,k],fp.cons m j⟩
  .cases h
def Bb {d:Func}(h:C4 P fr Z d.results.toList=.ok v Z')(j:WR ρ Z w)(k:FR ρ fr a.tmps):Z'=Z/\∃v',(results d a.tmps).run P w=.ok v' w/\VR ρ v v':=by
 unfold C4 at h
 have e:∀{b},(d.results.toList.mapM (Fy a)).run P w=.ok b w->(results d a.tmps).run P w=.ok (if h:b.toArray.size=1 then b.toArray[0]else .tuple b.toArray) w:=by
  intro b o;have s:results d a.tmps=(do let vs<-d.results.mapM (Fy a);pure (if h:vs.size=1 then vs[0]else .tuple vs)):=rfl;rw[s,Array.mapM_eq_mapM_toList];simp[o]
 split at h
 .rename_i hl;cases h;obtain⟨b,i,c⟩:=wO hl j k;have:b=[]:=by have:=c.len;simpa using this.symm
  subst this;exact⟨rfl,_,e i,by simpa using VR.undef⟩
 .rename_i u hl;cases h;obtain⟨b,i,c⟩:=wO hl j k;obtain⟨y,m,rfl,r,q⟩:=c.inv;have:m=[]:=by have:=q.len;simpa using this.symm
  subst this;exact⟨rfl,_,e i,by simpa using r⟩
 .rename_i l h0 h1 hl;cases h;obtain⟨b,i,c⟩:=wO hl j k;refine⟨rfl,_,e i,?_⟩
  have g:b.toArray.size≠1:=by
   intro hh;have:=c.len;simp only[aNE]at hh;rw[hh]at this;obtain⟨x,rfl⟩:=List.length_eq_one_iff.1 this;exact h1 x rfl
  rw[dif_neg g];exact VR.tuple _ _ (by exact c.len) (by exact c.at')
 .cases h
def yD (q:ki P call)(i:vO P dr){lv:Nat->Nat->υ (δ Nat)}{fuel f:Nat}{args:δ K}(h:GC P dr lv fuel call f args Z=.ok v Z'):iP P f=θ/\GS P f args Z v Z':=by
 unfold GC at h;rw[aS]at h
 split at h
 .rename_i y;refine⟨y,?_⟩
  split at h
  .rename_i fn hfn
   split at h
   .rename_i c hb;intro ρ w args' o s;refine calls_of_wp hfn hb ?_;have g:=XP (n:=fn.ntmps) (lv:=lv f) (fuel:=fuel) q i c (sY args) Z ρ {tmps:=args'++Array.replicate (fn.ntmps-args'.size) undef,defers:=[]} w;generalize mX P call dr (lv f) fuel fn.ntmps c (sY args) Z=r at h g;have g:=g (by intro e;subst e;cases h) o (Mx s _) xI rfl;cases r with
    |norm l iD=>
     refine wp_mono g ?_;rintro e u m ⟨rfl,d,b⟩;obtain⟨rfl,v',k,j⟩:=Bb h b.after.wr b.fr;exact⟨b.defers,v',k,v',d,rfl,j,b.after⟩
    |ret l iD=>
     refine wp_mono g ?_;rintro e u m ⟨rfl,d,b⟩;obtain⟨rfl,v',k,j⟩:=Bb h b.after.wr b.fr;exact⟨b.defers,v',k,v',d,rfl,j,b.after⟩
    |exit id l iD=>cases h
    |bad=>cases h
   .cases h
  .cases h
 .cases h
end
abbrev Aj:=Nat->δ K->O->υ OR
def sn (P:Program)(I:Aj):Prop:=∀f args Z v Z',I f args Z=Φ (.ok v Z')->vP P f args Z v Z'
def C3 (P:Program)(dr:Ak)(lv:Nat->Nat->υ (δ Nat))(I:Aj):Nat->gZ
 |0=>λ_ _ _=>.bad
 |n+1=>λf args Z=>match I f args Z with|some r=>r|none=>GC P dr lv n (C3 P dr lv I n) f args Z
def KP {P:Program}{dr:Ak}{lv:Nat->Nat->υ (δ Nat)}{I:Aj}(b:vO P dr)(e:sn P I):∀fuel,ki P (C3 P dr lv I fuel):=by
 intro fuel
 induction fuel with
 |zero=>intro f args Z v Z' h;cases h
 |succ fuel c=>
  intro f args Z v Z' h;simp only[C3]at h
  split at h
  .rename_i r d;exact e f args Z v Z' (by rw[d,h])
  .exact .inl (yD c b h)
end
