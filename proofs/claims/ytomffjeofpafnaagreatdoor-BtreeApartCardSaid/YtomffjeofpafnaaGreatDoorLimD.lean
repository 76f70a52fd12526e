import Derived.Test.YtomffjeofpafnaaGreatDoorLimC
import Derived.Scope
import Derived.LoopN
namespace Lim
open Go
noncomputable section
abbrev tN:=Nat×Nat×eP
inductive AY where
 |Ud (x:eP)
 |pick (c a b:eP)
 |new (t:Nat) (z:List CV)
 |box (t:Nat) (x:eP)
 |build (z:List CV) (parts:List tN)
 |buildSlice (e len:Nat) (z:List CV) (parts:List tN)
 |EV (a:eP)
 |yV (n:Nat) (a:eP)
 |store (n:Nat) (a x:eP)
 |nil (x:eP)
 |bin (op:BinOp) (d:Option jL) (An:Bool) (x y:eP)
 |un (op:UnOp) (x:eP)
 |conv (c:Ca) (x:eP)
 |Hk (n:Nat) (x:eP)
 |iface (t:Nat) (x:eP)
 |func (fn:Fn) (f c:List eP)
 |mkMap (r:Option eP)
 |mkSlice (e bytes:Nat) (z:List CV) (l c:eP)
 |ni (x:eP) (lo hi:Option eP)
 |pR (size:Nat) (x:eP) (lo hi:Option eP)
 |slice3 (size:Nat) (x:eP) (lo:Option eP) (hi mx:eP)
 |nk (n size:Nat) (x:eP) (lo hi:Option eP)
 |fieldAddr (off:Nat) (x:eP)
 |field (agg:Bool) (off size:Nat) (x:eP)
 |uo (n size:Nat) (x i:eP)
 |zj (size:Nat) (x i:eP)
 |um (x i:eP)
 |uq (n size:Nat) (agg:Bool) (x i:eP)
 |lookup (d:jL) (z:CV) (ok:Bool) (x k:eP)
 |mapUpdate (d:jL) (m k x:eP)
 |mapEntry (d:jL) (z:CV) (m k:eP)
 |entryStore (m s x:eP)
 |extract (x:eP) (i:Nat)
 |len (k:LU) (x:eP)
 |append (e size bytes:Nat) (z:List CV) (k:Gw) (s x:eP)
 |copy (str:Bool) (size:Nat) (d s:eP)
 |clear (z:List CV) (x:eP)
 |ru (mx:Bool) (x y:eP)
 |delete (d:jL) (m k:eP)
 |call (f:Nat) (args:List eP)
 |BU (f:eP) (args:List eP)
def JN (fr:Fr)(l:List eP):List CV:=List.rec [] (fun x _ r=>ev fr x::r) l
def PH (fr:Fr)(x:Option eP):Option CV:=Option.rec none (fun x=>some (ev fr x)) x
def Lz (fr:Fr)(l:List tN):List tn:=List.rec [] (fun p _ r=>(p.1,p.2.1,ev fr p.2.2)::r) l
abbrev fT:=Nat->List CV->St->OR
def we (call:fT)(f:CV)(args:List CV)(st:St):OR:=
 match f with| .func (.func f) first captured=>call f (first++(args++captured)) st|_=> .bad
def cY (call:fT)(op:AY)(fr:Fr)(st:St):OR:=
 match op with
 | .Ud x=> .ok (ev fr x) st
 | .pick c a b=>bk (ev fr c) (ev fr a) (ev fr b) st
 | .new t z=>dD t z st
 | .box t x=>bC (ev fr x).isAny .bad (dD t (ev fr x).cK st)
 | .build z parts=>bJ z (Lz fr parts) st
 | .buildSlice e len z parts=>bT e len (cO len z) (Lz fr parts) st
 | .EV a=>aC (ev fr a) st
 | .yV n a=>aI n (ev fr a) st
 | .store n a x=>aR n (ev fr a) (ev fr x) st
 | .nil x=>dU (ev fr x) st
 | .bin op d An x y=>aj op d An (ev fr x) (ev fr y) st
 | .un op x=>mo op (ev fr x) st
 | .conv c x=>dB c (ev fr x) st
 | .Hk n x=>ow n (ev fr x) st
 | .iface t x=>uc t (ev fr x) st
 | .func fn f c=>qD fn (JN fr f) (JN fr c) st
 | .mkMap r=>jE (PH fr r) st
 | .mkSlice e bytes z l c=>pk e bytes z (ev fr l) (ev fr c) st
 | .ni x lo hi=>kD (ev fr x) (PH fr lo) (PH fr hi) st
 | .pR size x lo hi=>aN size (ev fr x) (PH fr lo) (PH fr hi) st
 | .slice3 size x lo hi mx=>iz size (ev fr x) (PH fr lo) (ev fr hi) (ev fr mx) st
 | .nk n size x lo hi=>bP n size (ev fr x) (PH fr lo) (PH fr hi) st
 | .fieldAddr off x=>an off (ev fr x) st
 | .field agg off size x=>yQ agg off size (ev fr x) st
 | .uo n size x i=>fK n size (ev fr x) (ev fr i) st
 | .zj size x i=>cU size (ev fr x) (ev fr i) st
 | .um x i=>oz (ev fr x) (ev fr i) st
 | .uq n size agg x i=>uT n size agg (ev fr x) (ev fr i) st
 | .lookup d z ok x k=>iA d z ok (ev fr x) (ev fr k) st
 | .mapUpdate d m k x=>eC d (ev fr m) (ev fr k) (ev fr x) st
 | .mapEntry d z m k=>fC d z (ev fr m) (ev fr k) st
 | .entryStore m s x=>dP (ev fr m) (ev fr s) (ev fr x) st
 | .extract x i=>aA (ev fr x) i st
 | .len k x=>bo k (ev fr x) st
 | .append e size bytes z k s x=>bQ e size bytes (ev fr s) (dg k size z (ev fr x) st) st
 | .copy str size d s=>gC str size (ev fr d) (ev fr s) st
 | .clear z x=>rm z (ev fr x) st
 | .ru mx x y=>Bm mx (ev fr x) (ev fr y) st
 | .delete d m k=>oB d (ev fr m) (ev fr k) st
 | .call f args=>call f (JN fr args) st
 | .BU f args=>we call (ev fr f) (JN fr args) st
def gN (P:Program)(f:Nat):Bool:=match P.funcs[f]? with|some fn=> !(fn.name== "runtime.NumGoroutine")&&fn.body.isSome|none=>false
def DN (P:Program)(f:Nat)(args:List CV)(st:St)(v:CV)(st':St):Prop:=
 ∀(ρ:Ren) (w:World) (args':Array Value),WR ρ st w->eu ρ args args'.toList->
  Calls P f args' w fun e w'=>∃v' ρ',e= .returned v'/\VR ρ' v v'/\bf ρ st w ρ' st' w'
def aeS (P:Program)(f:Nat)(args:List CV)(st:St)(v:CV)(st':St):Prop:=
 st'=st/\∀(ρ:Ren) (w:World) (args':Array Value),WR ρ st w->eu ρ args args'.toList->∃v',(callFunc f args').run P w= .ok (.value v') w/\VR ρ v v'
def qz (P:Program)(f:Nat)(args:List CV)(st:St)(v:CV)(st':St):Prop:=(gN P f=true/\DN P f args st v st')\/aeS P f args st v st'
def iM (P:Program)(call:fT):Prop:=∀f args st v st',call f args st= .ok v st'->qz P f args st v st'
def yg (i:TypeInfo):Option (List CV):=
 match i.zero with
 |some z=>bC (Nat.beq z.cells.size i.size) (qa z.cells.toList) none
 |none=>none
theorem jm {i:TypeInfo}{s:List CV}(h:yg i=some s):∃z,i.zero=some z/\z.cells.size=i.size/\∀ρ,eu ρ s z.cells.toList:=by
 unfold yg at h
 split at h
 ·rename_i z hz;simp only[aM,aBB]at h
  split at h
  ·rename_i hs;exact⟨z,hz,hs,fun ρ=>ve _ _ h ρ⟩
  ·cases h
 ·cases h
def Rc (i:TypeInfo):Option CV:=match i.zero with|some z=>ofValue z|none=>none
theorem AZ {i:TypeInfo}{c:CV}(h:Rc i=some c):∃z,i.zero=some z/\∀ρ,VR ρ c z:=by
 unfold Rc at h
 split at h
 ·rename_i z hz;exact⟨z,hz,fun ρ=>VR.ofValue h ρ⟩
 ·cases h
def xt (l:List Operand):Option (List eP):=List.rec (some []) (fun x _ r=>Option.rec none (fun r=>Option.rec none (fun c=>some (c::r)) (eU x)) r) l
def LK (x:Option Operand):Option (Option eP):=match x with|none=>some none|some x=>(match eU x with|some c=>some (some c)|none=>none)
def rS (place:Nat->Option (Nat×Nat))(l:List (Nat×Operand)):Option (List tN):=
 List.rec (some []) (fun p _ r=>Option.rec none (fun r=>(match place p.1,eU p.2 with|some (off,size),some c=>some ((off,size,c)::r)|_,_=>none)) r) l
section
variable {P:Program} {ρ:Ren} {st st':St} {w:World} {v:CV} {fr:Fr} {a:Act}
theorem oI:∀{l:List Operand} {c:List eP},xt l=some c->FR ρ fr a.tmps->eu ρ (JN fr c) (l.map a.eval):=by
 intro l
 induction l with
 |nil=>intro c h _;cases h;exact eu.nil ρ
 |cons x l ih=>
  intro c h hf;have e:xt (x::l)=Option.rec none (fun r=>Option.rec none (fun c=>some (c::r)) (eU x)) (xt l):=rfl;rw[e]at h;cases hl:xt l with
  |none=>rw[hl]at h;cases h
  |some r=>
   rw[hl]at h;cases hx:eU x with
   |none=>rw[hx]at h;cases h
   |some c'=>
    rw[hx]at h;cases h;exact eu.cons (bq hx hf) (ih hl hf)
theorem fE {x:Option Operand}{c:Option eP}(h:LK x=some c)(hf:FR ρ fr a.tmps):Qv ρ (PH fr c) (x.map a.eval):=by
 unfold LK at h
 split at h
 ·cases h;trivial
 ·split at h
  ·rename_i x c' hc;cases h;exact bq hc hf
  ·cases h
theorem mR {place:Nat->Option (Nat×Nat)}:∀{l:List (Nat×Operand)} {c:List tN},rS place l=some c->FR ρ fr a.tmps->qv ρ place (Lz fr c) (l.map fun p=>(p.1,a.eval p.2)):=by
 intro l
 induction l with
 |nil=>intro c h _;cases h;exact .nil
 |cons p l ih=>
  intro c h hf;have e:rS place (p::l)=Option.rec none (fun r=>(match place p.1,eU p.2 with|some (off,size),some c=>some ((off,size,c)::r)|_,_=>none)) (rS place l):=rfl;rw[e]at h;cases hl:rS place l with
  |none=>rw[hl]at h;cases h
  |some r=>
   rw[hl]at h;dsimp only at h
   split at h
   ·rename_i off size c' h1 h2;cases h;exact .cons p.1 off size (ev fr c') _ _ _ h1 (bq h2 hf) (ih hl hf)
   ·cases h
end
def Tz (P:Program)(l:List Field):Bool:=l.all fun f=>(P.info? f.type).isSome
def PL (P:Program)(op:BinOp)(t:TypeId):Option jL:=
 match op with
 | .eql| .neq=>(match fO P 40 t with
   |some d=>bC (Gs d) (bC (P.eqGuardType P.depth t) none (some d)) (some d)
   |none=>none)
 |_=>none
def zK (P:Program)(s d:TypeId):Option Ca:=
 match P.underlying s,P.underlying d with
 |some _,some (.int k)=>some (.toInt k)
 |some .string,some .string=>some .same
 |some .string,some (.slice e)=>(match P.underlying e with|some (.int .u8)=>some (.bytesOf e)|_=>none)
 |some (.slice e),some .string=>(match P.underlying e with|some (.int .u8)=>some .strOf|_=>none)
 |_,_=>none
def keyOf (P:Program)(t:TypeId):Option (TypeId×jL):=
 match P.underlying t with
 |some (.map k e)=>(match fO P 40 k with|some d=>bC (hE 40 d) (some (e,d)) none|none=>none)
 |_=>none
def CW (P:Program)(t:TypeId):Option LU:=
 match P.underlying t with
 |some .string=>some .str
 |some (.slice _)=>some .slice
 |some (.map _ _)=>some .map
 |some (.array n _)=>some (.const n)
 |some (.pointer a)=>(match P.underlying a with|some (.array n _)=>some (.const n)|_=>none)
 |_=>none
def Cn (P:Program)(u:TypeId)(size:Nat):Option Gw:=
 match P.underlying u with
 |some (.slice _)=>some .slice
 |some .string=>bC (Nat.beq size 1) (some .str) none
 |some (.int _)=>some .zeros
 |_=>none
def DT (k:Gw)(bytes:Nat):Bool:=match k with| .zeros=>Nat.ble bytes 256|_=>true
def rQ (P:Program)(b:Builtin)(ats:List TypeId)(args:List Operand):Option AY:=
 match b,ats,args with
 | .len,t::_,[x]=>(match CW P t,eU x with|some k,some x=>some (.len k x)|_,_=>none)
 | .cap,t::_,[x]=>(match P.underlying t,eU x with|some (.slice _),some x=>some (.len .cap x)|_,_=>none)
 | .append,[t,u],[s,x]=>(match P.underlying t,eU s,eU x with
   |some (.slice e),some s,some x=>(match P.info? e with
    |some i=>(match yg i,Cn P u i.size with|some z,some k=>bC (DT k i.bytes) (some (.append e i.size i.bytes z k s x)) none|_,_=>none)
    |none=>none)
   |_,_,_=>none)
 | .copy,[t,u],[d,s]=>(match P.underlying t,P.underlying u,eU d,eU s with
   |some (.slice e),some su,some d,some s=>(match P.info? e,su with
    |some i, .slice _=>some (.copy false i.size d s)
    |some i, .string=>bC (Nat.beq i.size 1) (some (.copy true i.size d s)) none
    |_,_=>none)
   |_,_,_,_=>none)
 | .clear,[t],[x]=>(match P.underlying t,eU x with
   |some (.slice e),some x=>(match P.info? e with|some i=>(match yg i with|some z=>some (.clear z x)|none=>none)|none=>none)
   |_,_=>none)
 | .max,_,[x,y]=>(match eU x,eU y with|some x,some y=>some (.ru true x y)|_,_=>none)
 | .min,_,[x,y]=>(match eU x,eU y with|some x,some y=>some (.ru false x y)|_,_=>none)
 | .delete,t::_,[m,k]=>(match keyOf P t,eU m,eU k with|some (_,d),some m,some k=>some (.delete d m k)|_,_,_=>none)
 |_,_,_=>none
def lI (P:Program)(op:Op):Option AY:=
 match op with
 | .move x=>(match eU x with|some x=>some (.Ud x)|none=>none)
 | .assign x=>(match eU x with|some x=>some (.Ud x)|none=>none)
 | .pick c a b=>(match eU c,eU a,eU b with|some c,some a,some b=>some (.pick c a b)|_,_,_=>none)
 | .alloc t=>(match P.info? t with|some i=>(match yg i with|some z=>some (.new t z)|none=>none)|none=>none)
 | .box t x=>(match eU x with|some x=>some (.box t x)|none=>none)
 | .build t parts=>(match P.underlying t,P.info? t with
   |some (.struct fs),some i=>(match yg i,rS (Cz P fs) parts.toList,Tz P fs.toList with|some z,some ps,true=>some (.build z ps)|_,_,_=>none)
   |some (.array _ e),some i=>(match P.info? e with|some j=>(match yg i,rS (mm j.size) parts.toList with|some z,some ps=>some (.build z ps)|_,_=>none)|none=>none)
   |_,_=>none)
 | .buildSlice t len parts=>(match P.underlying t with
   |some (.slice e)=>(match P.info? e with
    |some i=>bC (Nat.ble (Nat.mul len i.size) 16777216) (match yg i,rS (mm i.size) parts.toList with|some z,some ps=>some (.buildSlice e len z ps)|_,_=>none) none
    |none=>none)
   |_=>none)
 | .load t x=>(match P.underlying t,P.info? t,eU x with|some u,some i,some x=>bC (ib u) (some (.yV i.size x)) (some (.EV x))|_,_,_=>none)
 | .store t x y=>(match P.info? t,eU x,eU y with|some i,some x,some y=>some (.store i.size x y)|_,_,_=>none)
 | .nilCheck x=>(match eU x with|some x=>some (.nil x)|none=>none)
 | .binOp op t x y _=>(match eU x,eU y with|some x',some y'=>some (.bin op (PL P op t) (JT x y) x' y')|_,_=>none)
 | .unOp op _ x=>(match eU x with|some x=>some (.un op x)|none=>none)
 | .convert s d x=>(match zK P s d,eU x with|some c,some x=>some (.conv c x)|_,_=>none)
 | .sliceToArrayPointer t x=>(match P.underlying t,eU x with|some (.array n _),some x=>some (.Hk n x)|_,_=>none)
 | .makeInterface t x=>(match P.concrete t,eU x with|true,some x=>some (.iface t x)|_,_=>none)
 | .makeFunc fn f c=>(match xt f.toList,xt c.toList with|some f,some c=>some (.func fn f c)|_,_=>none)
 | .makeMap t r=>(match P.underlying t,LK r with|some (.map _ _),some r=>some (.mkMap r)|_,_=>none)
 | .makeSlice t l c=>(match P.underlying t,eU l,eU c with
   |some (.slice e),some l,some c=>(match P.info? e with|some i=>(match yg i with|some z=>some (.mkSlice e i.bytes z l c)|none=>none)|none=>none)
   |_,_,_=>none)
 | .slice t x lo hi mx=>(match P.underlying t,eU x,LK lo,LK hi,LK mx with
   |some .string,some x,some lo,some hi,some none=>some (.ni x lo hi)
   |some (.slice e),some x,some lo,some hi,some none=>(match P.info? e with|some i=>some (.pR i.size x lo hi)|none=>none)
   |some (.slice e),some x,some lo,some (some hi),some (some mx)=>(match P.info? e with|some i=>some (.slice3 i.size x lo hi mx)|none=>none)
   |some (.array n e),some x,some lo,some hi,some none=>(match P.info? e with|some i=>some (.nk n i.size x lo hi)|none=>none)
   |_,_,_,_,_=>none)
 | .fieldAddr t x f=>(match P.underlying t,eU x with
   |some (.struct fs),some x=>(match fs[f]? with
    |some fd=>(match P.info? fd.type with|some i=>bC (Nat.beq i.size 0) none (some (.fieldAddr fd.offset x))|none=>none)
    |none=>none)
   |_,_=>none)
 | .field t x f=>(match P.underlying t,eU x with
   |some (.struct fs),some x=>(match fs[f]? with
    |some fd=>(match P.info? fd.type,P.underlying fd.type with|some i,some u=>some (.field (ib u) fd.offset i.size x)|_,_=>none)
    |none=>none)
   |_,_=>none)
 | .indexAddr t x i=>(match P.underlying t,eU x,eU i with
   |some (.array n e),some x,some i=>(match P.info? e with|some j=>some (.uo n j.size x i)|none=>none)
   |some (.slice e),some x,some i=>(match P.info? e with|some j=>some (.zj j.size x i)|none=>none)
   |_,_,_=>none)
 | .index t x i=>(match P.underlying t,eU x,eU i with
   |some .string,some x,some i=>some (.um x i)
   |some (.array n e),some x,some i=>(match P.info? e,P.underlying e with|some j,some u=>some (.uq n j.size (ib u) x i)|_,_=>none)
   |_,_,_=>none)
 | .lookup t x k ok=>(match keyOf P t,eU x,eU k with
   |some (e,d),some x,some k=>(match P.info? e with|some i=>(match Rc i with|some z=>some (.lookup d z ok x k)|none=>none)|none=>none)
   |_,_,_=>none)
 | .mapUpdate t m k x| .insert t m k x=>(match keyOf P t,eU m,eU k,eU x with|some (_,d),some m,some k,some x=>some (.mapUpdate d m k x)|_,_,_,_=>none)
 | .mapEntry t m k=>(match keyOf P t,eU m,eU k with
   |some (e,d),some m,some k=>(match P.info? e with|some i=>(match Rc i with|some z=>some (.mapEntry d z m k)|none=>none)|none=>none)
   |_,_,_=>none)
 | .entryStore _ m s x=>(match eU m,eU s,eU x with|some m,some s,some x=>some (.entryStore m s x)|_,_,_=>none)
 | .extract x i=>(match eU x with|some x=>some (.extract x i)|none=>none)
 | .call {callee:= .builtin b,args,argTypes}=>rQ P b argTypes.toList args.toList
 | .call {callee:= .value (.func f),args, .. }=>(match xt args.toList with|some l=>some (.call f l)|none=>none)
 | .call {callee:= .value f,args, .. }=>(match eU f,xt args.toList with|some f,some l=>some (.BU f l)|_,_=>none)
 |_=>none
section
variable {P:Program} {ρ:Ren} {st st':St} {w:World} {v:CV} {fr:Fr} {a:Act} {call:fT}
theorem u7 {o:Oper}{next:Act->World->Prop}{Q:Exit->Act->World->Prop}(h:ID P (execOp a.eval o) ρ st w v st')
 (hn:∀v' w' ρ',VR ρ' v v'->bf ρ st w ρ' st' w'->next (a.put o.dst v') w'):o.wp P a w next Q:=by
 obtain⟨x,v',w',ρ',h1,h2,h3,h4⟩:=h;unfold Oper.wp;rw[h1];rcases h2 with rfl|⟨rfl,rfl⟩
 ·exact hn v' w' ρ' h3 h4
 ·exact hn _ w' ρ' h3 h4
theorem nE {t e:TypeId}{d:jL}(h:keyOf P t=some (e,d)):∃k,P.underlying t=some (.map k e)/\fO P 40 k=some d/\hE 40 d=true:=by
 unfold keyOf at h
 split at h
 ·rename_i k e' hu
  split at h
  ·rename_i d' hd;rw[aM]at h
   split at h
   ·rename_i hk;cases h;exact⟨k,hu,hd,hk⟩
   ·cases h
  ·cases h
 ·cases h
theorem zE {op:BinOp}{t:TypeId}{d:jL}(h:PL P op t=some d):fO P 40 t=some d/\(Gs d=true->P.eqGuardType P.depth t=false):=by
 have key:∀{x:Option jL},(match fO P 40 t with
  |some d=>bC (Gs d) (bC (P.eqGuardType P.depth t) none (some d)) (some d)
  |none=>none)=some d->fO P 40 t=some d/\(Gs d=true->P.eqGuardType P.depth t=false):=by
  intro _ h
  split at h
  ·rename_i d' hd;simp only[aM]at h
   split at h
   ·split at h
    ·cases h
    ·rename_i hg;cases h;exact⟨hd,fun _=>by simpa using hg⟩
   ·rename_i ha;cases h;exact⟨hd,fun e=>absurd e ha⟩
  ·cases h
 unfold PL at h
 split at h
 ·exact key (x:=none) h
 ·exact key (x:=none) h
 ·cases h
theorem AT {s d:TypeId}{c:Ca}(h:zK P s d=some c):Gf P c s d:=by
 unfold zK at h
 split at h
 ·rename_i u k h1 h2;cases h;exact⟨h2,u,h1⟩
 ·rename_i h1 h2;cases h;exact⟨h2,h1⟩
 ·rename_i e h1 h2
  split at h
  ·rename_i h3;cases h;exact⟨h2,h3,h1⟩
  ·cases h
 ·rename_i e h1 h2
  split at h
  ·rename_i h3;cases h;exact⟨e,h1,h3,h2⟩
  ·cases h
 ·cases h
theorem CU {t:TypeId}{k:LU}(h:CW P t=some k):Jg P k t:=by
 unfold CW at h
 split at h
 ·rename_i hu;cases h;exact hu
 ·rename_i e hu;cases h;exact⟨e,hu⟩
 ·rename_i k e hu;cases h;exact⟨k,e,hu⟩
 ·rename_i n e hu;cases h;exact .inl ⟨e,hu⟩
 ·rename_i a hu
  split at h
  ·rename_i n e Ur;cases h;exact .inr ⟨a,e,hu,Ur⟩
  ·cases h
 ·cases h
theorem Cm {u:TypeId}{size:Nat}{k:Gw}(h:Cn P u size=some k):Co P k u size:=by
 unfold Cn at h
 split at h
 ·rename_i e hu;cases h;exact⟨e,hu⟩
 ·rename_i hu;simp only[aM,aBB]at h
  split at h
  ·rename_i hs;cases h;exact⟨hu,hs⟩
  ·cases h
 ·rename_i j hu;cases h;exact⟨j,hu⟩
 ·cases h
theorem sF {t:TypeId}{u:TypeDesc}(hu:P.underlying t=some u):(isAgg t).run P w= .ok (ib u) w:=by
 cases u<;>simp[isAgg,aBd hu,ib]
theorem gR {t:TypeId}{i:TypeInfo}(hi:P.info? t=some i):(Go.sizeOf t).run P w= .ok i.size w:=by simp[Go.sizeOf,typeInfo,hi]
theorem vI {b:Builtin}{ats:Array TypeId}{args:Array Operand}{op:AY}{ty:TypeId}{cs:Array Bool}(h:rQ P b ats.toList args.toList=some op)(hr:cY call op fr st= .ok v st')(hw:WR ρ st w)(hf:FR ρ fr a.tmps):
 ID P (builtin b ats ty cs (args.map a.eval)) ρ st w v st':=by
 obtain⟨ats⟩:=ats;obtain⟨args⟩:=args;rw[show Array.map a.eval ⟨args⟩=(args.map a.eval).toArray from by simp];unfold rQ at h
 split at h
 ·rename_i t r x ht hx;cases ht;cases hx
  split at h
  ·rename_i k x' hk AJ;cases h;have:=HF (P:=P) (ty:=ty) hr hw (bq AJ hf) (CU hk) (t::r).toArray (by simp);exact this.gY
  ·cases h
 ·rename_i t r x ht hx;cases ht;cases hx
  split at h
  ·rename_i e x' hk AJ;cases h;exact(HH (P:=P) (ty:=ty) hr hw (bq AJ hf) hk (t::r).toArray (by simp)).gY
  ·cases h
 ·rename_i t u s x ht hx;cases ht;cases hx
  split at h
  ·rename_i e s' x' hu tD AJ
   split at h
   ·rename_i i hi
    split at h
    ·rename_i z k hz hk;rw[aM]at h
     split at h
     ·rename_i hzf;cases h;obtain⟨z',z1,z2,z3⟩:=jm hz;have:=AI (P:=P) (t:=t) (u:=u) (ty:=ty) hr hw (bq tD hf) (bq AJ hf) (Cm hk) hu hi z1 rfl z2 z3 rfl (fun hkz=>by subst hkz;simpa[DT]using hzf);exact this.gY
     ·cases h
    ·cases h
   ·cases h
  ·cases h
 ·rename_i t u d s ht hx;cases ht;cases hx
  split at h
  ·rename_i e su d' s' hu hsu DR tD
   split at h
   ·rename_i i e2 hi;cases h;have:=wU (P:=P) (dT:=t) (sT:=u) (ty:=ty) hr hw (bq DR hf) (bq tD hf) hu hi rfl (fun e=>by cases e);exact this.gY
   ·rename_i i hi;simp only[aM,aBB]at h
    split at h
    ·rename_i h1;cases h;have:=wU (P:=P) (dT:=t) (sT:=u) (ty:=ty) hr hw (bq DR hf) (bq tD hf) hu hi rfl (fun _=>h1);exact this.gY
    ·cases h
   ·cases h
  ·cases h
 ·rename_i t x ht hx;cases ht;cases hx
  split at h
  ·rename_i e x' hu AJ
   split at h
   ·rename_i i hi
    split at h
    ·rename_i z hz;cases h;obtain⟨z',z1,z2,z3⟩:=jm hz;have:=CJ (P:=P) (t:=t) (ty:=ty) hr hw (bq AJ hf) hu hi z1 z3;exact this.gY
    ·cases h
   ·cases h
  ·cases h
 ·rename_i x y hx;cases hx
  split at h
  ·rename_i x' y' AJ Zk;cases h;have:=Bl (P:=P) (mx:=true) (ats:=ats.toArray) (ty:=ty) hr hw (bq AJ hf) (bq Zk hf);exact bI.gY (s:=Builtin.max_ ats.toArray ty #[a.eval x,a.eval y]) this
  ·cases h
 ·rename_i x y hx;cases hx
  split at h
  ·rename_i x' y' AJ Zk;cases h;have:=Bl (P:=P) (mx:=false) (ats:=ats.toArray) (ty:=ty) hr hw (bq AJ hf) (bq Zk hf);exact bI.gY (s:=Builtin.min_ ats.toArray ty #[a.eval x,a.eval y]) this
  ·cases h
 ·rename_i t r m k ht hx;cases ht;cases hx
  split at h
  ·rename_i e d m' k' hk Dm FA;cases h;obtain⟨kt,k1,k2,k3⟩:=nE hk;have:=AG (P:=P) (ty:=ty) (ats:=(t::r).toArray) (by simp) hr hw (bq Dm hf) (bq FA hf) k1 k2 (by omega) k3;exact this.gY
  ·cases h
 ·cases h
end
section
variable {P:Program} {ρ:Ren} {st st':St} {w:World} {v:CV} {fr:Fr} {a:Act} {call:fT}
theorem Ct {f:FuncId}(args:Array Value)(h:gN P f=true):(callFunc f args).run P w= .ok (.enter f args) w:=by
 unfold gN at h
 split at h
 ·rename_i fn hfn;simp only[aBp,aDA]at h;have h1:¬(fn.name== "runtime.NumGoroutine")=true:=by rw[h.1];simp
  have h2:¬fn.body.isNone=true:=by
   have:=h.2;cases hb:fn.body<;>simp_all
  simp only[callFunc,Sem.run_bind,run_program,Result.andThen_ok,hfn];rw[aAZ h1,aAZ h2]
  rfl
 ·cases h
theorem Be {f:FuncId}{first captured:Array Value}{x:Operand}{args:Array Operand}{ats:Array TypeId}{dst:Option Tmp}{ty:TypeId}{pos:String}{after:Array Edge}{guard:Option (Nat×Bool)}
 (hx:a.eval x= .func (.func f) first captured):
 (execOp a.eval {dst,op:= .call {callee:= .value x,args,argTypes:=ats},type:=ty,pos,after,guard}).run P w=(callFunc f (first++args.map a.eval++captured)).run P w:=by
 have e:execOp a.eval {dst,op:= .call {callee:= .value x,args,argTypes:=ats},type:=ty,pos,after,guard}=
  (do let d<-Deferred.ofValue (a.eval x) (args.map a.eval);invoke d.target d.args):=rfl
 rw[e,hx];simp only[Deferred.ofValue,Sem.run_bind,Sem.run_pure,Result.andThen_ok,invoke]
theorem Qa {o:Oper}{next:Act->World->Prop}{Q:Exit->Act->World->Prop}{f:FuncId}{args:List CV}{args':Array Value}(hc:iM P call)(hr:call f args st= .ok v st')(hw:WR ρ st w)(ha:eu ρ args args'.toList)
 (jv:(execOp a.eval o).run P w=(callFunc f args').run P w) (hn:∀v' w' ρ',VR ρ' v v'->bf ρ st w ρ' st' w'->next (a.put o.dst v') w'):o.wp P a w next Q:=by
 rcases hc f args st v st' hr with⟨h1,h2⟩|⟨h1,h2⟩
 ·unfold Oper.wp;rw[jv,Ct _ h1,Oper.upon_enter];refine(h2 ρ w args' hw ha).mono ?_;rintro e w' ⟨v',ρ',rfl,hv,hA⟩;exact hn v' w' ρ' hv hA
 ·subst h1;obtain⟨v',h3,h4⟩:=h2 ρ w args' hw ha;unfold Oper.wp;rw[jv,h3,Oper.upon_value];exact hn v' w ρ h4 (bf.refl hw)
theorem LJ {f:CV}{args:List CV}(hr:we call f args st= .ok v st'){f':Value}(hf:VR ρ f f'){args':List Value}(ha:eu ρ args args'):
 ∃g first captured,f'= .func (.func g) first captured/\∃l,call g l st= .ok v st'/\eu ρ l (first++args'.toArray++captured).toList:=by
 unfold we at hr
 split at hr
 ·rename_i g fi ca;cases hf with
  |func _ _ _ f' c' hf hc h1 h2=>
   refine⟨g,f'.toArray,c'.toArray,rfl,_,hr, ?_⟩;have:=(eu.mk (ρ:=ρ) hf h1).app (ha.app (eu.mk (ρ:=ρ) hc h2))
   simpa using this
 ·cases hr
theorem DD (hc:iM P call){o:Oper}{op:AY}(h:lI P o.op=some op)(hr:cY call op fr st= .ok v st')(hw:WR ρ st w)(hf:FR ρ fr a.tmps){next:Act->World->Prop}{Q:Exit->Act->World->Prop}
 (hn:∀v' w' ρ',VR ρ' v v'->bf ρ st w ρ' st' w'->next (a.put o.dst v') w'):o.wp P a w next Q:=by
 obtain⟨dst,oop,ty,pos,after,guard⟩:=o;have fin:∀{s:Sem Next},s=execOp a.eval ⟨dst,oop,ty,pos,after,guard⟩->ID P s ρ st w v st'->Oper.wp P ⟨dst,oop,ty,pos,after,guard⟩ a w next Q:=fun e hd=>u7 (e▸hd) hn;dsimp only at h;unfold lI at h
 split at h
 ·rename_i x
  split at h
  ·rename_i x' hx;cases h;cases hr;exact fin rfl ⟨.value (a.eval x),a.eval x,w,ρ,rfl, .inl rfl,bq hx hf,bf.refl hw⟩
  ·cases h
 ·rename_i x
  split at h
  ·rename_i x' hx;cases h;cases hr;exact fin rfl ⟨.value (a.eval x),a.eval x,w,ρ,rfl, .inl rfl,bq hx hf,bf.refl hw⟩
  ·cases h
 ·split at h
  ·rename_i h1 h2 h3;cases h;exact fin rfl (EK hr hw (bq h1 hf) (bq h2 hf) (bq h3 hf))
  ·cases h
 ·split at h
  ·rename_i i hi
   split at h
   ·rename_i z hz;cases h;obtain⟨z',z1,z2,z3⟩:=jm hz;exact fin rfl (CL hr hw hi z1 z3).gY
   ·cases h
  ·cases h
 ·split at h
  ·rename_i hx;cases h;exact fin rfl (HI hr hw (bq hx hf)).gY
  ·cases h
 ·split at h
  ·rename_i fs i hu hi
   split at h
   ·rename_i z ps hz hp fP;cases h;obtain⟨z',z1,z2,z3⟩:=jm hz;have Sx:=mR hp hf;refine fin rfl (AH hr hw hu hi z1 z3 (by rw[aCz];exact Sx) (fun f hfm=> ?_)).gY;have:=List.all_eq_true.1 fP f hfm;exact Option.isSome_iff_exists.1 this
   ·cases h
  ·rename_i n e i hu hi
   split at h
   ·rename_i j hj
    split at h
    ·rename_i z ps hz hp;cases h;obtain⟨z',z1,z2,z3⟩:=jm hz;have Sx:=mR hp hf;exact fin rfl (CK hr hw hu hi z1 z3 hj (by rw[aCz];exact Sx)).gY
    ·cases h
   ·cases h
  ·cases h
 ·split at h
  ·rename_i e hu
   split at h
   ·rename_i i hi;simp only[aM,aBy]at h
    split at h
    ·rename_i hle
     split at h
     ·rename_i z ps hz hp;cases h;obtain⟨z',z1,z2,z3⟩:=jm hz;have Sx:=mR hp hf;exact fin rfl (uW hr hw hu hi z1 z2 z3 (by rw[aCz];exact Sx) hle).gY
     ·cases h
    ·cases h
   ·cases h
  ·cases h
 ·split at h
  ·rename_i u i x' hu hi hx;rw[aM]at h
   split at h
   ·rename_i ha;cases h;exact fin rfl (CE hr hw (bq hx hf) (by rw[sF hu,ha]) (gR hi)).gY
   ·rename_i ha;cases h;exact fin rfl (CF hr hw (bq hx hf) (by rw[sF hu,show ib u=false by simpa using ha])).gY
  ·cases h
 ·split at h
  ·rename_i i x' y' hi hx hy;cases h;exact fin rfl (CB hr hw (bq hx hf) (bq hy hf) (gR hi)).gY
  ·cases h
 ·rename_i x
  split at h
  ·rename_i x' hx;cases h;exact u7 (HE (o:=⟨dst, .nilCheck x,ty,pos,after,guard⟩) hr hw (bq hx hf) rfl rfl) hn
  ·cases h
 ·rename_i op2 t x y yt
  split at h
  ·rename_i x' y' hx hy;cases h;refine fin rfl (HJ (X:=x) (Y:=y) (f:=40) hr hw (bq hx hf) (bq hy hf) (fun e he=>(zE he).1) (by omega) rfl (fun e he=>(zE he).2)).gY
  ·cases h
 ·split at h
  ·rename_i x' hx;cases h;exact fin rfl (KD hr hw (bq hx hf)).gY
  ·cases h
 ·split at h
  ·rename_i c x' hk hx;cases h;exact fin rfl (EO hr hw (bq hx hf) (AT hk)).gY
  ·cases h
 ·split at h
  ·rename_i hu hx;cases h;exact fin rfl (EJ hr hw (bq hx hf) hu).gY
  ·cases h
 ·split at h
  ·rename_i hk hx;cases h;exact fin rfl (CG hr hw (bq hx hf) hk).gY
  ·cases h
 ·split at h
  ·rename_i h1 h2;cases h;exact fin rfl (EM hr hw (by rw[aCz];exact oI h1 hf) (by rw[aCz];exact oI h2 hf)).gY
  ·cases h
 ·split at h
  ·rename_i hu h1;cases h;exact fin rfl (CD hr hw (fE h1 hf) hu).gY
  ·cases h
 ·split at h
  ·rename_i e l' c' hu h1 h2
   split at h
   ·rename_i i hi
    split at h
    ·rename_i z hz;cases h;obtain⟨z',z1,z2,z3⟩:=jm hz;exact fin rfl (EL hr hw (bq h1 hf) (bq h2 hf) hu hi z1 rfl z2 z3).gY
    ·cases h
   ·cases h
  ·cases h
 ·rename_i t x lo hi mx
  split at h
  ·rename_i x' kG fw hu hx wy GO SC;cases h;have hm:=fE (ρ:=ρ) SC hf;cases mx with
   |some m=>exact False.elim hm
   |none=>exact fin rfl (xB hr hw (bq hx hf) (fE wy hf) (fE GO hf) hu).gY
  ·rename_i e x' kG fw hu hx wy GO SC;have hm:=fE (ρ:=ρ) SC hf;cases mx with
   |some m=>exact False.elim hm
   |none=>
    split at h
    ·rename_i i ur;cases h;exact fin rfl (yN hr hw (bq hx hf) (fE wy hf) (fE GO hf) hu (gR ur)).gY
    ·cases h
  ·rename_i e x' kG fw Y7 hu hx wy GO SC;have hm:=fE (ρ:=ρ) SC hf;have hh:=fE (ρ:=ρ) GO hf;cases mx with
   |none=>exact False.elim hm
   |some m=>
    cases hi with
    |none=>exact False.elim hh
    |some h2=>
     split at h
     ·rename_i i ur;cases h;exact fin rfl (AA hr hw (bq hx hf) (fE wy hf) hh hm hu (gR ur)).gY
     ·cases h
  ·rename_i n e x' kG fw hu hx wy GO SC;have hm:=fE (ρ:=ρ) SC hf;cases mx with
   |some m=>exact False.elim hm
   |none=>
    split at h
    ·rename_i i ur;cases h;exact fin rfl (xC hr hw (bq hx hf) (fE wy hf) (fE GO hf) hu (gR ur)).gY
    ·cases h
  ·cases h
 ·split at h
  ·rename_i fs x' hu hx
   split at h
   ·rename_i fd hfd
    split at h
    ·rename_i i hi;simp only[aM,aBB]at h
     split at h
     ·cases h
     ·rename_i hz;cases h;exact fin rfl (wc hr hw (bq hx hf) hu hfd rfl (gR hi) hz).gY
    ·cases h
   ·cases h
  ·cases h
 ·split at h
  ·rename_i fs x' hu hx
   split at h
   ·rename_i fd hfd
    split at h
    ·rename_i i u hi hut;cases h;exact fin rfl (CI hr hw (bq hx hf) hu hfd hi hut).gY
    ·cases h
   ·cases h
  ·cases h
 ·split at h
  ·rename_i n e x' i' hu hx hi
   split at h
   ·rename_i j hj;cases h;exact fin rfl (AE hr hw (bq hx hf) (bq hi hf) hu (gR hj)).gY
   ·cases h
  ·rename_i e x' i' hu hx hi
   split at h
   ·rename_i j hj;cases h;exact fin rfl (CH hr hw (bq hx hf) (bq hi hf) hu (gR hj)).gY
   ·cases h
  ·cases h
 ·split at h
  ·rename_i x' i' hu hx hi;cases h;exact fin rfl (AD hr hw (bq hx hf) (bq hi hf) hu).gY
  ·rename_i n e x' i' hu hx hi
   split at h
   ·rename_i j u hj L8;cases h;exact fin rfl (AF hr hw (bq hx hf) (bq hi hf) hu hj L8).gY
   ·cases h
  ·cases h
 ·split at h
  ·rename_i e d x' k' hk hx GN
   split at h
   ·rename_i i hi
    split at h
    ·rename_i z hz;cases h;obtain⟨kt,k1,k2,k3⟩:=nE hk;obtain⟨z',z1,z2⟩:=AZ hz;exact fin rfl (AB hr hw (bq hx hf) (bq GN hf) k1 k2 (by omega) k3 hi z1 (z2 ρ)).gY
    ·cases h
   ·cases h
  ·cases h
 ·split at h
  ·rename_i e d m' k' x' hk hm GN hx;cases h;obtain⟨kt,k1,k2,k3⟩:=nE hk;exact fin rfl (pj hr hw (bq hm hf) (bq GN hf) (bq hx hf) k1 k2 (by omega) k3).gY
  ·cases h
 ·split at h
  ·rename_i e d m' k' x' hk hm GN hx;cases h;obtain⟨kt,k1,k2,k3⟩:=nE hk;exact fin rfl (pj hr hw (bq hm hf) (bq GN hf) (bq hx hf) k1 k2 (by omega) k3).gY
  ·cases h
 ·split at h
  ·rename_i e d m' k' hk hm GN
   split at h
   ·rename_i i hi
    split at h
    ·rename_i z hz;cases h;obtain⟨kt,k1,k2,k3⟩:=nE hk;obtain⟨z',z1,z2⟩:=AZ hz;exact fin rfl (xD hr hw (bq hm hf) (bq GN hf) k1 k2 (by omega) k3 hi z1 (z2 ρ)).gY
    ·cases h
   ·cases h
  ·cases h
 ·split at h
  ·rename_i m' s' x' hm hs hx;cases h;exact fin rfl (uU hr hw (bq hm hf) (bq hs hf) (bq hx hf)).gY
  ·cases h
 ·split at h
  ·rename_i x' hx;cases h;exact fin rfl (yR hr hw (bq hx hf)).gY
  ·cases h
 ·exact fin rfl (vI h hr hw hf)
 ·rename_i f args ats
  split at h
  ·rename_i l hl;cases h;refine Qa (o:=⟨dst, .call {callee:= .value (.func f),args:=args,argTypes:=ats},ty,pos,after,guard⟩) hc hr hw (args':= #[]++args.map a.eval++ #[]) (by simpa using oI hl hf) (Be rfl) hn
  ·cases h
 ·rename_i f args ats hnf
  split at h
  ·rename_i f' l hf' hl;cases h;obtain⟨g,first,captured,e1,l',e2,e3⟩:=LJ hr (bq hf' hf) (oI hl hf);refine Qa (o:=⟨dst, .call {callee:= .value f,args:=args,argTypes:=ats},ty,pos,after,guard⟩) hc e2 hw (args':=first++args.map a.eval++captured) (by simpa using e3) (Be e1) hn
  ·cases h
 ·cases h
end
inductive Rs where
 |norm (fr:Fr) (st:St)
 |exit (id:Nat) (fr:Fr) (st:St)
 |ret (fr:Fr) (st:St)
 |bad
def ff (ops:Array Oper)(fr:Fr)(o:Oper):Option Bool:=
 match o.guard with
 |none=>some true
 |some (g,b)=>(match (ops[g]?).bind (·.dst)with
  |none=>some false
  |some d=>(match fB fr d with
   | .bool c=>some (bC b c (Bool.not c))
   | .undef=>some false
   |_=>none))
def lV (P:Program)(call:fT)(ops:Array Oper)(o:Oper)(fr:Fr)(st:St):OR:=
 match ff ops fr o with
 |some true=>(match lI P o.op with|some op=>cY call op fr st|none=> .bad)
 |some false=> .ok .undef st
 |none=> .bad
section
variable {P:Program} {ρ:Ren} {st st':St} {w:World} {v:CV} {fr:Fr} {a:Act} {call:fT}
theorem iJ {ops:Array Oper}{o:Oper}{b:Bool}(h:ff ops fr o=some b)(hf:FR ρ fr a.tmps):Region.wanted o (yielded ops a.tmps)=b:=by
 unfold ff at h;unfold Region.wanted
 split at h
 ·rename_i hg;cases h;rw[hg]
 ·rename_i g want hg;rw[hg];dsimp only;unfold yielded
  split at h
  ·rename_i hd;cases h;rw[hd];rfl
  ·rename_i d hd;rw[hd,Option.bind_some];have hv:=hf d
   split at h
   ·rename_i c hc;cases h;rw[hc]at hv;cases htd:a.tmps[d]? with
    |none=>
     have:a.tmps.getD d Go.undef=Go.undef:=by simp[htd]
     rw[this]at hv;cases hv
    |some x=>
     have:a.tmps.getD d Go.undef=x:=by simp[htd]
     rw[this]at hv;cases hv;dsimp only;cases c<;>cases want<;>rfl
   ·rename_i hc;cases h;rw[hc]at hv;cases htd:a.tmps[d]? with
    |none=>rfl
    |some x=>
     have:a.tmps.getD d Go.undef=x:=by simp[htd]
     rw[this]at hv;cases hv
     rfl
   ·cases h
theorem qZ (hc:iM P call){ops:Array Oper}{o:Oper}(h:lV P call ops o fr st= .ok v st')(hw:WR ρ st w)(hf:FR ρ fr a.tmps){next:Act->World->Prop}{Q:Exit->Act->World->Prop}
 (hn:∀v' w' ρ',VR ρ' v v'->bf ρ st w ρ' st' w'->next (a.put o.dst v') w'):
 if Region.wanted o (yielded ops a.tmps)then o.wp P a w next Q else next (a.put o.dst undef) w:=by
 unfold lV at h
 split at h
 ·rename_i hwt;rw[aBb (iJ hwt hf)]
  split at h
  ·rename_i op Df;exact DD hc Df h hw hf hn
  ·cases h
 ·rename_i hwt;rw[aAZ (by rw[iJ hwt hf];simp)];cases h;exact hn _ w ρ .undef (bf.refl hw)
 ·cases h
end
def oM (P:Program)(call:fT)(n:Nat)(ops:Array Oper)(l:List Oper)(fr:Fr)(st:St):Rs:=
 match l with
 |[]=> .norm fr st
 |o::l=>match lV P call ops o fr st with
  | .ok v st=>(match o.dst with|none=>oM P call n ops l fr st|some d=>if d<n then oM P call n ops l (fr.put d (some v)) st else .bad)
  | .bad=> .bad
structure Ql (ρ:Ren)(st:St)(w:World)(n:Nat)(fr':Fr)(st':St)(a':Act)(w':World)(ρ':Ren):Prop where
 fr:FR ρ' fr' a'.tmps
 sz:n<=a'.tmps.size
 defers:a'.defers=[]
 after:bf ρ st w ρ' st' w'
def pH (ρ:Ren)(st:St)(w:World)(n:Nat)(r:Rs)(e:Exit)(a':Act)(w':World):Prop:=
 match r with
 | .norm fr' st'=>e= .normal/\∃ρ',Ql ρ st w n fr' st' a' w' ρ'
 | .exit id fr' st'=>e= .exit id/\∃ρ',Ql ρ st w n fr' st' a' w' ρ'
 | .ret fr' st'=>e= .ret/\∃ρ',Ql ρ st w n fr' st' a' w' ρ'
 | .bad=>False
theorem pH.step {ρ ρ1:Ren}{st gh:St}{w w1:World}{n:Nat}{r:Rs}{e:Exit}{a':Act}{w':World}(hA:bf ρ st w ρ1 gh w1)(h:pH ρ1 gh w1 n r e a' w'):pH ρ st w n r e a' w':=by
 cases r<;>simp only[pH]at h⊢
 ·obtain⟨h1,ρ',h2⟩:=h;exact⟨h1,ρ',h2.fr,h2.sz,h2.defers,hA.trans h2.after⟩
 ·obtain⟨h1,ρ',h2⟩:=h;exact⟨h1,ρ',h2.fr,h2.sz,h2.defers,hA.trans h2.after⟩
 ·obtain⟨h1,ρ',h2⟩:=h;exact⟨h1,ρ',h2.fr,h2.sz,h2.defers,hA.trans h2.after⟩
theorem Ex (a:Act)(d:Option Tmp)(v:Value):(a.put d v).tmps.size=a.tmps.size:=by cases d<;>simp[Act.put]
theorem yH (a:Act)(d:Option Tmp)(v:Value):(a.put d v).defers=a.defers:=by cases d<;>rfl
section
variable {P:Program} {call:fT} {n:Nat} {ops:Array Oper}
theorem Hp (fr:Fr)(st:St):oM P call n ops [] fr st= .norm fr st:=rfl
theorem wS (o:Oper)(l:List Oper)(fr:Fr)(st:St):oM P call n ops (o::l) fr st=
 match lV P call ops o fr st with
 | .ok v st=>(match o.dst with|none=>oM P call n ops l fr st|some d=>if d<n then oM P call n ops l (fr.put d (some v)) st else .bad)
 | .bad=> .bad:=rfl
theorem FR.aaB {ρ:Ren}{fr:Fr}{a:Act}(h:FR ρ fr a.tmps){d:Nat}(hd:d<a.tmps.size){v:CV}{v':Value}(hv:VR ρ v v'):FR ρ (fr.put (d) (some v)) (a.put (some d) v').tmps:=h.put hd hv
theorem Cu (hc:iM P call)(l:List Oper):∀(fr:Fr) (st:St) (ρ:Ren) (a:Act) (w:World),oM P call n ops l fr st≠ .bad->WR ρ st w->FR ρ fr a.tmps->n<=a.tmps.size->a.defers=[]->
 wpList P ops (pH ρ st w n (oM P call n ops l fr st)) l a w:=by
 induction l with
 |nil=>intro fr st ρ a w _ hw hf hn hd;rw[Hp];exact wpList_nil ⟨rfl,ρ,hf,hn,hd,bf.refl hw⟩
 |cons o l ih=>
  intro fr st ρ a w hb hw hf hn hd;rw[wS]at hb⊢;cases hs:lV P call ops o fr st with
  |bad=>rw[hs]at hb;exact absurd rfl hb
  |ok v gh=>
   rw[hs]at hb;refine wpList_step fun K hK=>qZ hc hs hw hf fun v' w' ρ' hv hA=>hK _ _ ?_;dsimp only at hb⊢
   have mono:∀{r:Rs} {l:List Oper} {a:Act} {w1:World},wpList P ops (pH ρ' gh w' n r) l a w1->wpList P ops (pH ρ st w n r) l a w1:=by
    intro r l
    induction l with
    |nil=>intro a w1 h;exact pH.step hA h
    |cons o l ih=>
     intro a w1 h;unfold wpList at h⊢
     split
     ·rename_i hwt;rw[aBb hwt]at h;rcases h with h|⟨h1,a2,w2,h2⟩
      ·left;unfold Oper.wp at h⊢;generalize (execOp a.eval o).run P w1=rr at h⊢;cases rr with
       |ok x w2=>
        cases x<;>simp only[Oper.upon]at h⊢<;>first
         |exact ih h
         |exact h.mono (fun e w3 he=>by cases e<;>first|exact ih he|exact pH.step hA he|(obtain⟨a4,w4,h4⟩:=he;exact⟨a4,w4,pH.step hA h4⟩))
         |exact h.mono (fun _ _ he=>ih he)
       |halt x w2=>cases x<;>simp only[Oper.upon]at h⊢<;>exact pH.step hA h
      ·exact .inr ⟨h1,a2,w2,pH.step hA h2⟩
     ·rename_i hwt;rw[aAZ hwt]at h;exact ih h
   cases adi:o.dst with
   |none=>
    rw[adi]at hb;refine mono (ih fr gh ρ' (a.put none v') w' hb hA.wr (hf.mono hA.ext) hn hd)
   |some d=>
    rw[adi]at hb;dsimp only at hb⊢
    split at hb
    ·rename_i QR;rw[aBb QR];exact mono (ih _ gh ρ' (a.put (some d) v') w' hb hA.wr ((hf.mono hA.ext).aaB (aBs QR hn) hv) (by rw[Ex];exact hn) (by rw[yH];exact hd))
    ·exact absurd rfl hb
end
abbrev xy:=fT->Nat->Array Oper->Fr->St->Rs
def tr (r:Rs)(k:Fr->St->Rs):Rs:=match r with| .norm fr st=>k fr st| .exit id fr st=> .exit id fr st| .ret fr st=> .ret fr st| .bad=> .bad
def rB (id:Nat)(r:Rs):Rs:=match r with| .norm fr st=> .norm fr st| .exit i fr st=>bC (Nat.beq i id) (.norm fr st) (.exit i fr st)| .ret fr st=> .ret fr st| .bad=> .bad
def Ja:List Nat->List CV->Fr
 |[],_=>fun _=>some .any
 |l::L,vs=>PT.put (Ja L (vs.drop 1)) l (some (vs.headD .any))
def GV:Code->Nat
 | .region id _ _=>id
 | .seq x _=>GV x
 | .cond _ x _=>GV x
 | .block _ x=>GV x
 | .loop x=>GV x
 | .scope x=>GV x
 |_=>0
def wE (L:Option (List Nat))(fr:Fr):Fr:=match L with|none=>fr|some L=>Ja L (L.map (fB fr))
def wX (body:Fr->St->Rs)(L:Option (List Nat)):Nat->Fr->St->Rs
 |0,_,_=> .bad
 |n+1,fr,st=>tr (body (wE L fr) st) (wX body L n)
def BQ (c:Operand)(x y:Fr->St->Rs)(fr:Fr)(st:St):Rs:=
 match eU c with|some c=>(match ev fr c with| .bool t=>bC t (x fr st) (y fr st)|_=> .bad)|none=> .bad
def kZ (P:Program)(call:fT)(dr:xy)(lv:Nat->Option (List Nat))(fuel n:Nat)(c:Code)(fr:Fr)(st:St):Rs:=
 match c with
 | .skip=> .norm fr st
 | .region _ ops draw=>bC draw (dr call n ops fr st) (oM P call n ops ops.toList fr st)
 | .seq x y=>tr (kZ P call dr lv fuel n x fr st) (fun fr st=>kZ P call dr lv fuel n y (wE (lv (GV y)) fr) st)
 | .cond c x y=>BQ c (kZ P call dr lv fuel n x) (kZ P call dr lv fuel n y) fr st
 | .block id x=>rB id (kZ P call dr lv fuel n x fr st)
 | .loop x=>wX (kZ P call dr lv fuel n x) (lv (GV x)) fuel fr st
 | .exit id=> .exit id fr st
 | .scope x=>kZ P call dr lv fuel n x fr st
 | .label _=> .norm fr st
 | .ret=> .ret fr st
 |_=> .bad
def sW (P:Program)(dr:xy):Prop:=
 ∀(call:fT) (n:Nat),iM P call->∀(id:Nat) (ops:Array Oper) (fr:Fr) (st:St) (ρ:Ren) (a:Act) (w:World),dr call n ops fr st≠ .bad->WR ρ st w->FR ρ fr a.tmps->n<=a.tmps.size->a.defers=[]->
  (Code.region id ops true).wp P (pH ρ st w n (dr call n ops fr st)) a w
section
variable {P:Program} {call:fT} {dr:xy} {n:Nat} {lv:Nat->Option (List Nat)} {fuel:Nat}
def Ok (P:Program)(n:Nat)(c:Code)(f:Fr->St->Rs):Prop:=
 ∀(fr:Fr) (st:St) (ρ:Ren) (a:Act) (w:World),f fr st≠ .bad->WR ρ st w->FR ρ fr a.tmps->n<=a.tmps.size->a.defers=[]->c.wp P (pH ρ st w n (f fr st)) a w
theorem M7 {x y:Code}{f g:Fr->St->Rs}(hx:Ok P n x f)(hy:Ok P n y g):Ok P n (.seq x y) (fun fr st=>tr (f fr st) g):=by
 intro fr st ρ a w hb hw hf hn hd;have h1:=hx fr st ρ a w;refine wp_seq ?_;dsimp only at hb⊢;generalize f fr st=r at hb h1⊢;cases r with
 |bad=>exact absurd rfl hb
 |norm lE gh=>
  refine wp_mono (h1 (by simp) hw hf hn hd) ?_;rintro e a1 w1 ⟨rfl,ρ1,hp⟩;exact wp_mono (hy lE gh ρ1 a1 w1 hb hp.after.wr hp.fr hp.sz hp.defers) (fun e a w h=>pH.step hp.after h)
 |exit id lE gh=>
  refine wp_mono (h1 (by simp) hw hf hn hd) ?_;rintro e a1 w1 ⟨rfl,hp⟩;exact⟨rfl,hp⟩
 |ret lE gh=>
  refine wp_mono (h1 (by simp) hw hf hn hd) ?_;rintro e a1 w1 ⟨rfl,hp⟩;exact⟨rfl,hp⟩
theorem E8 {x:Code}{f:Fr->St->Rs}{id:Nat}(hx:Ok P n x f):Ok P n (.block id x) (fun fr st=>rB id (f fr st)):=by
 intro fr st ρ a w hb hw hf hn hd;have h1:=hx fr st ρ a w;refine wp_block ?_;dsimp only at hb⊢;generalize f fr st=r at hb h1⊢;cases r with
 |bad=>exact absurd rfl hb
 |norm lE gh=>
  refine wp_mono (h1 (by simp) hw hf hn hd) ?_;rintro e a1 w1 ⟨rfl,hp⟩;exact⟨rfl,hp⟩
 |exit i lE gh=>
  refine wp_mono (h1 (by simp) hw hf hn hd) ?_;rintro e a1 w1 ⟨rfl,hp⟩;have e0:rB id (.exit i lE gh)=bC (Nat.beq i id) (.norm lE gh) (.exit i lE gh):=rfl;rw[e0];simp only[aM,aBB,Exit.inBlock]
  by_cases hi:i=id
  ·simp only[aBb hi];exact⟨rfl,hp⟩
  ·simp only[aAZ hi];exact⟨rfl,hp⟩
 |ret lE gh=>
  refine wp_mono (h1 (by simp) hw hf hn hd) ?_;rintro e a1 w1 ⟨rfl,hp⟩;exact⟨rfl,hp⟩
theorem PG (ρ:Ren)(fr:Fr)(tmps:Array Value)(h:FR ρ fr tmps):∀(L:List Nat),FR ρ (Ja L (L.map (fB fr))) tmps:=by
 intro L
 induction L with
 |nil=>intro t;exact .any _
 |cons l L ih=>
  intro t;show VR ρ (fB (PT.put (Ja L ((fB fr l::L.map (fB fr)).drop 1)) l (some (fB fr l))) t) _
  by_cases e:t=l
  ·subst e;rw[lQ];exact h t
  ·rw[l7 _ _ _ _ e];exact ih t
theorem JS {ρ:Ren}{fr:Fr}{tmps:Array Value}{L:Option (List Nat)}(h:FR ρ fr tmps):FR ρ (wE L fr) tmps:=by
 cases L with
 |none=>exact h
 |some L=>exact PG ρ fr tmps h L
theorem CT {x:Code}{f:Fr->St->Rs}{L:Option (List Nat)}(hx:Ok P n x f):∀(k:Nat) (fr:Fr) (st:St) (ρ:Ren) (a:Act) (w:World),wX f L k fr st≠ .bad->WR ρ st w->FR ρ fr a.tmps->n<=a.tmps.size->a.defers=[]->
 Code.rounds P x (pH ρ st w n (wX f L k fr st)) k a w:=by
 intro k
 have mono:∀{Q Q':Exit->Act->World->Prop} (h:∀e a w,Q e a w->Q' e a w) (k:Nat) (a:Act) (w:World),Code.rounds P x Q k a w->Code.rounds P x Q' k a w:=by
  intro Q Q' h k
  induction k with
  |zero=>intro a w hh;exact hh
  |succ k ih=>
   intro a w hh;rw[rounds_succ]at hh⊢;refine wp_mono hh ?_;intro e a w hq;cases e<;>first|exact ih _ _ hq|exact h _ _ _ hq
 induction k with
 |zero=>intro fr st ρ a w hb;exact absurd rfl hb
 |succ k ih=>
  intro zz st ρ a w hb hw US hn hd;have hf:=JS (L:=L) US;have e:wX f L (k+1) zz st=tr (f (wE L zz) st) (wX f L k):=rfl;rw[e]at hb⊢;generalize wE L zz=fr at hf hb⊢;rw[rounds_succ];cases hr:f fr st with
  |bad=>rw[hr]at hb;exact absurd rfl hb
  |norm lE gh=>
   have h1:=hx fr st ρ a w (by rw[hr];simp) hw hf hn hd;rw[hr]at h1 hb;refine wp_mono h1 ?_;rintro e a1 w1 ⟨rfl,ρ1,hp⟩;exact mono (fun e a w h=>pH.step hp.after h) k a1 w1 (ih lE gh ρ1 a1 w1 hb hp.after.wr hp.fr hp.sz hp.defers)
  |exit id lE gh=>
   have h1:=hx fr st ρ a w (by rw[hr];simp) hw hf hn hd;rw[hr]at h1;refine wp_mono h1 ?_;rintro e a1 w1 ⟨rfl,hp⟩;exact⟨rfl,hp⟩
  |ret lE gh=>
   have h1:=hx fr st ρ a w (by rw[hr];simp) hw hf hn hd;rw[hr]at h1;refine wp_mono h1 ?_;rintro e a1 w1 ⟨rfl,hp⟩;exact⟨rfl,hp⟩
theorem Tl (hc:iM P call)(SU:sW P dr)(c:Code):Ok P n c (kZ P call dr lv fuel n c):=by
 induction c with
 |skip=>intro fr st ρ a w _ hw hf hn hd;exact wp_skip ⟨rfl,ρ,hf,hn,hd,bf.refl hw⟩
 |region id ops draw=>
  intro fr st ρ a w hb hw hf hn hd;cases draw with
  |true=>exact SU call n hc id ops fr st ρ a w hb hw hf hn hd
  |false=>exact wp_region_list (Cu hc ops.toList fr st ρ a w hb hw hf hn hd)
 |seq x y hx hy=>exact M7 hx (fun fr st ρ a w hb hw hf hn hd=>hy _ st ρ a w hb hw (JS hf) hn hd)
 |cond c x y hx hy=>
  intro fr st ρ a w hb hw hf hn hd;have e:kZ P call dr lv fuel n (.cond c x y) fr st=BQ c (kZ P call dr lv fuel n x) (kZ P call dr lv fuel n y) fr st:=rfl;rw[e]at hb⊢;unfold BQ at hb⊢;cases FE:eU c with
  |none=>rw[FE]at hb;exact absurd rfl hb
  |some c'=>
   rw[FE]at hb;have hev:=bq FE hf;dsimp only at hb⊢;generalize AJ:ev fr c'=cv at hb hev⊢;cases cv with
   |bool t=>
    generalize yc:a.eval c=cv' at hev;cases hev;cases t with
    |true=>exact wp_cond_true yc (hx fr st ρ a w hb hw hf hn hd)
    |false=>exact wp_cond_false yc (hy fr st ρ a w hb hw hf hn hd)
   |_=>exact absurd rfl hb
 |block id x hx=>exact E8 hx
 |loop x hx=>intro fr st ρ a w hb hw hf hn hd;exact wp_loop_rounds fuel (CT hx fuel fr st ρ a w hb hw hf hn hd)
 |rangeFunc f ps x y hx hy=>intro fr st ρ a w hb;exact absurd rfl hb
 |exit id=>intro fr st ρ a w _ hw hf hn hd;exact wp_exit ⟨rfl,ρ,hf,hn,hd,bf.refl hw⟩
 |scope x hx=>
  intro fr st ρ a w hb hw hf hn hd;refine wp_scope_straight (wp_mono (hx fr st ρ a w hb hw hf hn hd) ?_);intro e a1 w1 h;have e0:kZ P call dr lv fuel n (.scope x) fr st=kZ P call dr lv fuel n x fr st:=rfl;rw[e0];cases e with
  |goto l=>
   unfold pH at h
   split at h
   ·exact absurd h.1 (by simp)
   ·exact absurd h.1 (by simp)
   ·exact absurd h.1 (by simp)
   ·exact h.elim
  |_=>exact h
 |label l=>intro fr st ρ a w _ hw hf hn hd;exact wp_label ⟨rfl,ρ,hf,hn,hd,bf.refl hw⟩
 |goto l=>intro fr st ρ a w hb;exact absurd rfl hb
 |ret=>intro fr st ρ a w _ hw hf hn hd;exact wp_ret ⟨rfl,ρ,hf,hn,hd,bf.refl hw⟩
 |refuse y=>intro fr st ρ a w hb;exact absurd rfl hb
end
def ql (args:List CV):Fr:=fun t=>args[t]?
theorem It {ρ:Ren}{args:List CV}{args':Array Value}(h:eu ρ args args'.toList)(k:Nat):FR ρ (ql args) (args'++Array.replicate k undef):=by
 intro t;have hlen:args.length=args'.size:=by rw[h.len];simp
 by_cases ht:t<args.length
 ·have h1:args[t]?=some args[t]:=by simp[ht]
  have h2:args'.toList[t]?=some (args'[t]'(by omega)):=by simp
  have h3:=h.at' t _ _ h1 h2
  have h4:(args'++Array.replicate k undef).getD t Go.undef=args'[t]'(by omega):=by
   simp[aDw,show t<args'.size by omega]
  have h5:fB (ql args) t=args[t]:=by show(Option.rec _ _ (args[t]?):CV)=_;rw[h1]
  rw[h4,h5];exact h3
 ·have h4:(args'++Array.replicate k undef).getD t Go.undef=Go.undef:=by
   simp only[Array.getD_eq_getD_getElem?,aDw,aAZ (show¬t<args'.size by omega),Array.getElem?_replicate]
   split<;>rfl
  have h5:fB (ql args) t= .undef:=by show(Option.rec _ _ (args[t]?):CV)=_;rw[aBL (by omega)]
  rw[h4,h5];exact .undef
def Bf (P:Program)(fr:Fr)(st:St)(r:ResultVar):Option CV:=
 match r with
 | .tmp t=>some (fB fr (t))
 | .cell a t=>(match P.underlying t,P.info? t with
   |some u,some i=>(match bC (ib u) (aI i.size (fB fr (a)) st) (aC (fB fr (a)) st)with| .ok v _=>some v| .bad=>none)
   |_,_=>none)
def Hr (P:Program)(fr:Fr)(st:St)(l:List ResultVar):Option (List CV):=
 List.rec (some []) (fun r _ ih=>match Bf P fr st r,ih with|some v,some l=>some (v::l)|_,_=>none) l
def Ay (P:Program)(fr:Fr)(st:St)(l:List ResultVar):OR:=
 match Hr P fr st l with
 |some []=> .ok .undef st
 |some [v]=> .ok v st
 |some l=> .ok (.tuple l) st
 |none=> .bad
def DA (P:Program)(dr:xy)(lv:Nat->Nat->Option (List Nat))(fuel:Nat)(call:fT)(f:Nat)(args:List CV)(st:St):OR:=
 bC (gN P f) (match P.funcs[f]? with
  |some fn=>(match fn.body with
   |some c=>(match kZ P call dr (lv f) fuel fn.ntmps c (ql args) st with
    | .norm fr st=>Ay P fr st fn.results.toList
    | .exit _ _ _=> .bad
    | .ret fr st=>Ay P fr st fn.results.toList
    | .bad=> .bad)
   |none=> .bad)
  |none=> .bad) .bad
section
variable {P:Program} {call:fT} {dr:xy} {ρ:Ren} {st st':St} {w:World} {fr:Fr} {a:Act} {v:CV}
theorem KQ {t:TypeId}{p:CV}{p':Value}(h:aC p st= .ok v st')(hw:WR ρ st w)(hp:VR ρ p p')(ht:(isAgg t).run P w= .ok false w):
 ∃v',(do loadVar t (<-asAddr p'):Sem Value).run P w= .ok v' w/\VR ρ v v':=by
 unfold aC at h
 split at h
 ·rename_i b off
  split at h
  ·rename_i s t' g hm;cases hx:s[off]? with
   |none=>rw[hx]at h;cases h
   |some x=>
    rw[hx]at h;cases h;cases hp with
    |ptr _ _ r sz hr=>
     obtain⟨c,lo,hi,e1,e2,e3,e4,e5⟩:=hw.row hm hr;obtain⟨x',g1,g2⟩:=sr e4 hx;refine⟨_, ?_,g2⟩;simp[asAddr,loadVar,ht,mL P w r off c t' (lo,hi) x' e1 (uJ g1),-run_load]
  ·rename_i s o0 hm;cases hx:s[off]? with
   |none=>rw[hx]at h;cases h
   |some x=>
    rw[hx]at h;cases h;cases hp with
    |ptr _ _ r sz hr=>
     obtain⟨c,t',lo,hi,e1,e2,e3,e4⟩:=hw.Nt hm hr;obtain⟨x',g1,g2⟩:=sr e4 hx;refine⟨_, ?_,g2⟩;simp[asAddr,loadVar,ht,mL P w r off c t' (lo,hi) x' e1 (uJ g1),-run_load]
  ·cases h
 ·cases h
theorem KP {t:TypeId}{n:Nat}{p:CV}{p':Value}(h:aI n p st= .ok v st')(hw:WR ρ st w)(hp:VR ρ p p')(ht:(isAgg t).run P w= .ok true w)
 (hn:(Go.sizeOf t).run P w= .ok n w):∃v',(do loadVar t (<-asAddr p'):Sem Value).run P w= .ok v' w/\VR ρ v v':=by
 unfold aI at h
 split at h
 ·rename_i b off
  split at h
  ·rename_i s t' g hm;cases hx:gX s off n with
   |none=>rw[hx]at h;cases h
   |some x=>
    rw[hx]at h;cases h;cases hp with
    |ptr _ _ r sz hr=>
     obtain⟨c,lo,hi,e1,e2,e3,e4,e5⟩:=hw.row hm hr;obtain⟨g1,g2⟩:=jt hx;refine⟨.agg ((c.toList.drop off).take n).toArray, ?_,(VR.DK ?_)⟩
     ·simp[asAddr,loadVar,ht,hn,dS P w r off n c t' (lo,hi) e1 (by omega)]
     ·rw[show x=(s.drop off).take n from g2]
      have e:(c.toList.drop off).take n=((c.toList.take s.length).drop off).take n:=by
       rw[aCH,aCh,aBH (by omega)]
      rw[e];exact(e4.drop off).take n
  ·rename_i s o0 hm;cases hx:gX s off n with
   |none=>rw[hx]at h;cases h
   |some x=>
    rw[hx]at h;cases h;cases hp with
    |ptr _ _ r sz hr=>
     obtain⟨c,t',lo,hi,e1,e2,e3,e4⟩:=hw.Nt hm hr;obtain⟨g1,g2⟩:=jt hx;refine⟨.agg ((c.toList.drop off).take n).toArray, ?_,(VR.DK ?_)⟩
     ·simp[asAddr,loadVar,ht,hn,dS P w r off n c t' (lo,hi) e1 (by omega)]
     ·rw[show x=(s.drop off).take n from g2]
      have e:(c.toList.drop off).take n=((c.toList.take s.length).drop off).take n:=by
       rw[aCH,aCh,aBH (by omega)]
      rw[e];exact(e4.drop off).take n
  ·cases h
 ·cases h
def Cw (a:Act)(r:ResultVar):Sem Value:=match r with| .tmp t=>pure (a.tmps.getD t undef)| .cell ad t=>do loadVar t (<-asAddr (a.tmps.getD ad undef))
theorem Eu {r:ResultVar}{v:CV}(h:Bf P fr st r=some v)(hw:WR ρ st w)(hf:FR ρ fr a.tmps):
 ∃v',(Cw a r).run P w= .ok v' w/\VR ρ v v':=by
 unfold Bf at h
 split at h
 ·rename_i t;cases h;exact⟨_,rfl,hf t⟩
 ·rename_i ad t
  split at h
  ·rename_i u i hu hi;have hp:=hf ad;rw[aM]at h
   by_cases ha:ib u=true
   ·rw[aBb ha]at h
    split at h
    ·rename_i v1 gh hh;cases h;exact KP (t:=t) hh hw hp (by rw[sF hu,ha]) (gR hi)
    ·cases h
   ·rw[aAZ ha]at h
    split at h
    ·rename_i v1 gh hh;cases h;exact KQ (t:=t) hh hw hp (by rw[sF hu,show ib u=false by simpa using ha])
    ·cases h
  ·cases h
theorem ub:∀{l:List ResultVar} {vs:List CV},Hr P fr st l=some vs->WR ρ st w->FR ρ fr a.tmps->∃A3,(l.mapM (Cw a)).run P w= .ok A3 w/\eu ρ vs A3:=by
 intro l
 induction l with
 |nil=>intro vs h _ _;cases h;exact⟨[],rfl,eu.nil ρ⟩
 |cons r l ih=>
  intro vs h hw hf;have e:Hr P fr st (r::l)=(match Bf P fr st r,Hr P fr st l with|some v,some l=>some (v::l)|_,_=>none):=rfl;rw[e]at h
  split at h
  ·rename_i v l1 h1 h2;cases h;obtain⟨v',g1,g2⟩:=Eu h1 hw hf;obtain⟨A3,g3,g4⟩:=ih h2 hw hf;exact⟨v'::A3,by simp[List.mapM_cons,g1,g3],eu.cons g2 g4⟩
  ·cases h
theorem yF {fn:Func}(h:Ay P fr st fn.results.toList= .ok v st')(hw:WR ρ st w)(hf:FR ρ fr a.tmps):st'=st/\∃v',(results fn a.tmps).run P w= .ok v' w/\VR ρ v v':=by
 unfold Ay at h
 have e:∀{A3},(fn.results.toList.mapM (Cw a)).run P w= .ok A3 w->(results fn a.tmps).run P w= .ok (if h:A3.toArray.size=1 then A3.toArray[0]else .tuple A3.toArray) w:=by
  intro A3 hv;have e1:results fn a.tmps=(do let vs<-fn.results.mapM (Cw a);pure (if h:vs.size=1 then vs[0]else .tuple vs)):=rfl;rw[e1,Array.mapM_eq_mapM_toList];simp[hv]
 split at h
 ·rename_i hl;cases h;obtain⟨A3,g1,g2⟩:=ub hl hw hf;have:A3=[]:=by have:=g2.len;simpa using this.symm
  subst this;exact⟨rfl,_,e g1,by simpa using VR.undef⟩
 ·rename_i u hl;cases h;obtain⟨A3,g1,g2⟩:=ub hl hw hf;obtain⟨u',t',rfl,g3,g4⟩:=g2.inv;have:t'=[]:=by have:=g4.len;simpa using this.symm
  subst this;exact⟨rfl,_,e g1,by simpa using g3⟩
 ·rename_i l h0 h1 hl;cases h;obtain⟨A3,g1,g2⟩:=ub hl hw hf;refine⟨rfl,_,e g1, ?_⟩
  have hlen:A3.toArray.size≠1:=by
   intro hh;have:=g2.len;simp only[aDm]at hh;rw[hh]at this;obtain⟨x,rfl⟩:=List.length_eq_one_iff.1 this;exact h1 x rfl
  rw[dif_neg hlen];exact VR.tuple _ _ (by exact g2.len) (by exact g2.at')
 ·cases h
theorem vG (hc:iM P call)(SU:sW P dr){lv:Nat->Nat->Option (List Nat)}{fuel f:Nat}{args:List CV}(h:DA P dr lv fuel call f args st= .ok v st'):gN P f=true/\DN P f args st v st':=by
 unfold DA at h;rw[aM]at h
 split at h
 ·rename_i FG;refine⟨FG, ?_⟩
  split at h
  ·rename_i fn hfn
   split at h
   ·rename_i c hb;intro ρ w args' hw ha;refine calls_of_wp hfn hb ?_;have hok:=Tl (n:=fn.ntmps) (lv:=lv f) (fuel:=fuel) hc SU c (ql args) st ρ {tmps:=args'++Array.replicate (fn.ntmps-args'.size) undef,defers:=[]} w;generalize kZ P call dr (lv f) fuel fn.ntmps c (ql args) st=r at h hok;have hok:=hok (by intro e;subst e;cases h) hw (It ha _) (by simp;omega) rfl;cases r with
    |norm lE gh=>
     refine wp_mono hok ?_;rintro e a1 w1 ⟨rfl,ρ1,hp⟩;obtain⟨rfl,v',g1,g2⟩:=yF h hp.after.wr hp.fr;exact⟨hp.defers,v',g1,v',ρ1,rfl,g2,hp.after⟩
    |ret lE gh=>
     refine wp_mono hok ?_;rintro e a1 w1 ⟨rfl,ρ1,hp⟩;obtain⟨rfl,v',g1,g2⟩:=yF h hp.after.wr hp.fr;exact⟨hp.defers,v',g1,v',ρ1,rfl,g2,hp.after⟩
    |exit id lE gh=>cases h
    |bad=>cases h
   ·cases h
  ·cases h
 ·cases h
end
abbrev xx:=Nat->List CV->St->Option OR
def mZ (P:Program)(I:xx):Prop:=∀f args st v st',I f args st=some (.ok v st')->qz P f args st v st'
def Ax (P:Program)(dr:xy)(lv:Nat->Nat->Option (List Nat))(I:xx):Nat->fT
 |0=>fun _ _ _=> .bad
 |n+1=>fun f args st=>match I f args st with|some r=>r|none=>DA P dr lv n (Ax P dr lv I n) f args st
theorem yC {P:Program}{dr:xy}{lv:Nat->Nat->Option (List Nat)}{I:xx}(SU:sW P dr)(hI:mZ P I):∀fuel,iM P (Ax P dr lv I fuel):=by
 intro fuel
 induction fuel with
 |zero=>intro f args st v st' h;cases h
 |succ fuel ih=>
  intro f args st v st' h;simp only[Ax]at h
  split at h
  ·rename_i r hr;exact hI f args st v st' (by rw[hr,h])
  ·exact .inl (vG ih SU h)
