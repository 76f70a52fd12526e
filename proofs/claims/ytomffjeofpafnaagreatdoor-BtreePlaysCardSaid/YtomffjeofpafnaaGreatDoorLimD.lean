import Derived.Test.YtomffjeofpafnaaGreatDoorLimC
import Derived.Scope
import Derived.LoopN
namespace Lim
open Go
noncomputable section
abbrev tE:=Nat×Nat×eQ
inductive Az where
 |SX (x:eQ)
 |pick (c a b:eQ)
 |new (t:Nat) (z:List CV)
 |box (t:Nat) (x:eQ)
 |build (z:List CV) (parts:List tE)
 |buildSlice (e len:Nat) (z:List CV) (parts:List tE)
 |EB (a:eQ)
 |yB (n:Nat) (a:eQ)
 |store (n:Nat) (a x:eQ)
 |nil (x:eQ)
 |bin (op:BinOp) (d:Option jL) (zQ:Bool) (x y:eQ)
 |un (op:UnOp) (x:eQ)
 |conv (c:BC) (x:eQ)
 |GS (n:Nat) (x:eQ)
 |iface (t:Nat) (x:eQ)
 |func (fn:Fn) (f c:List eQ)
 |mkMap (r:Option eQ)
 |mkSlice (e bytes:Nat) (z:List CV) (l c:eQ)
 |nj (x:eQ) (lo hi:Option eQ)
 |pI (size:Nat) (x:eQ) (lo hi:Option eQ)
 |slice3 (size:Nat) (x:eQ) (lo:Option eQ) (hi mx:eQ)
 |nm (n size:Nat) (x:eQ) (lo hi:Option eQ)
 |fieldAddr (off:Nat) (x:eQ)
 |field (agg:Bool) (off size:Nat) (x:eQ)
 |ud (n size:Nat) (x i:eQ)
 |yM (size:Nat) (x i:eQ)
 |uc (x i:eQ)
 |ue (n size:Nat) (agg:Bool) (x i:eQ)
 |lookup (d:jL) (z:CV) (ok:Bool) (x k:eQ)
 |mapUpdate (d:jL) (m k x:eQ)
 |mapEntry (d:jL) (z:CV) (m k:eQ)
 |entryStore (m s x:eQ)
 |extract (x:eQ) (i:Nat)
 |len (k:Ln) (x:eQ)
 |append (e size bytes:Nat) (z:List CV) (k:FZ) (s x:eQ)
 |copy (str:Bool) (size:Nat) (d s:eQ)
 |clear (z:List CV) (x:eQ)
 |rh (mx:Bool) (x y:eQ)
 |delete (d:jL) (m k:eQ)
 |call (f:Nat) (args:List eQ)
 |Bv (f:eQ) (args:List eQ)
def Jq (fr:Fr)(l:List eQ):List CV:=List.rec [] (fun x _ r=>ev fr x::r) l
def OF (fr:Fr)(x:Option eQ):Option CV:=Option.rec none (fun x=>some (ev fr x)) x
def KP (fr:Fr)(l:List tE):List ta:=List.rec [] (fun p _ r=>(p.1,p.2.1,ev fr p.2.2)::r) l
abbrev fT:=Nat->List CV->St->OR
def vT (call:fT)(f:CV)(args:List CV)(st:St):OR:=
 match f with| .func (.func f) first captured=>call f (first++(args++captured)) st|_=> .bad
def cX (call:fT)(op:Az)(fr:Fr)(st:St):OR:=
 match op with
 | .SX x=> .ok (ev fr x) st
 | .pick c a b=>ba (ev fr c) (ev fr a) (ev fr b) st
 | .new t z=>dD t z st
 | .box t x=>bu (ev fr x).isAny .bad (dD t (ev fr x).cD st)
 | .build z parts=>bD z (KP fr parts) st
 | .buildSlice e len z parts=>bQ e len (cH len z) (KP fr parts) st
 | .EB a=>aC (ev fr a) st
 | .yB n a=>aI n (ev fr a) st
 | .store n a x=>aP n (ev fr a) (ev fr x) st
 | .nil x=>dH (ev fr x) st
 | .bin op d zQ x y=>aj op d zQ (ev fr x) (ev fr y) st
 | .un op x=>lj op (ev fr x) st
 | .conv c x=>dB c (ev fr x) st
 | .GS n x=>nZ n (ev fr x) st
 | .iface t x=>tT t (ev fr x) st
 | .func fn f c=>qp fn (Jq fr f) (Jq fr c) st
 | .mkMap r=>jG (OF fr r) st
 | .mkSlice e bytes z l c=>qm e bytes z (ev fr l) (ev fr c) st
 | .nj x lo hi=>ki (ev fr x) (OF fr lo) (OF fr hi) st
 | .pI size x lo hi=>aL size (ev fr x) (OF fr lo) (OF fr hi) st
 | .slice3 size x lo hi mx=>iv size (ev fr x) (OF fr lo) (ev fr hi) (ev fr mx) st
 | .nm n size x lo hi=>bR n size (ev fr x) (OF fr lo) (OF fr hi) st
 | .fieldAddr off x=>an off (ev fr x) st
 | .field agg off size x=>yu agg off size (ev fr x) st
 | .ud n size x i=>fI n size (ev fr x) (ev fr i) st
 | .yM size x i=>cQ size (ev fr x) (ev fr i) st
 | .uc x i=>oe (ev fr x) (ev fr i) st
 | .ue n size agg x i=>uQ n size agg (ev fr x) (ev fr i) st
 | .lookup d z ok x k=>iw d z ok (ev fr x) (ev fr k) st
 | .mapUpdate d m k x=>eD d (ev fr m) (ev fr k) (ev fr x) st
 | .mapEntry d z m k=>fA d z (ev fr m) (ev fr k) st
 | .entryStore m s x=>dO (ev fr m) (ev fr s) (ev fr x) st
 | .extract x i=>az (ev fr x) i st
 | .len k x=>bh k (ev fr x) st
 | .append e size bytes z k s x=>bM e size bytes (ev fr s) (cV k size z (ev fr x) st) st
 | .copy str size d s=>gj str size (ev fr d) (ev fr s) st
 | .clear z x=>qZ z (ev fr x) st
 | .rh mx x y=>AW mx (ev fr x) (ev fr y) st
 | .delete d m k=>og d (ev fr m) (ev fr k) st
 | .call f args=>call f (Jq fr args) st
 | .Bv f args=>vT call (ev fr f) (Jq fr args) st
def gM (P:Program)(f:Nat):Bool:=match P.funcs[f]? with|some fn=> !(fn.name== "runtime.NumGoroutine")&&fn.body.isSome|none=>false
def Dq (P:Program)(f:Nat)(args:List CV)(st:St)(v:CV)(st':St):Prop:=
 ∀(ρ:Ren) (w:World) (args':Array Value),WR ρ st w->eu ρ args args'.toList->
  Calls P f args' w fun e w'=>∃v' ρ',e= .returned v'/\VR ρ' v v'/\bf ρ st w ρ' st' w'
def aeh (P:Program)(f:Nat)(args:List CV)(st:St)(v:CV)(st':St):Prop:=
 st'=st/\∀(ρ:Ren) (w:World) (args':Array Value),WR ρ st w->eu ρ args args'.toList->∃v',(callFunc f args').run P w= .ok (.value v') w/\VR ρ v v'
def qi (P:Program)(f:Nat)(args:List CV)(st:St)(v:CV)(st':St):Prop:=(gM P f=true/\Dq P f args st v st')\/aeh P f args st v st'
def iJ (P:Program)(call:fT):Prop:=∀f args st v st',call f args st= .ok v st'->qi P f args st v st'
def xL (i:TypeInfo):Option (List CV):=
 match i.zero with
 |some z=>bu (Nat.beq z.cells.size i.size) (pQ z.cells.toList) none
 |none=>none
theorem jr {i:TypeInfo}{s:List CV}(h:xL i=some s):∃z,i.zero=some z/\z.cells.size=i.size/\∀ρ,eu ρ s z.cells.toList:=by
 unfold xL at h
 split at h
 ·rename_i z hz;simp only[aO,aBi]at h
  split at h
  ·rename_i hs;exact⟨z,hz,hs,fun ρ=>uY _ _ h ρ⟩
  ·cases h
 ·cases h
def PZ (i:TypeInfo):Option CV:=match i.zero with|some z=>ofValue z|none=>none
theorem AA {i:TypeInfo}{c:CV}(h:PZ i=some c):∃z,i.zero=some z/\∀ρ,VR ρ c z:=by
 unfold PZ at h
 split at h
 ·rename_i z hz;exact⟨z,hz,fun ρ=>VR.ofValue h ρ⟩
 ·cases h
def xe (l:List Operand):Option (List eQ):=List.rec (some []) (fun x _ r=>Option.rec none (fun r=>Option.rec none (fun c=>some (c::r)) (eU x)) r) l
def K1 (x:Option Operand):Option (Option eQ):=match x with|none=>some none|some x=>(match eU x with|some c=>some (some c)|none=>none)
def rG (place:Nat->Option (Nat×Nat))(l:List (Nat×Operand)):Option (List tE):=
 List.rec (some []) (fun p _ r=>Option.rec none (fun r=>(match place p.1,eU p.2 with|some (off,size),some c=>some ((off,size,c)::r)|_,_=>none)) r) l
section
variable {P:Program} {ρ:Ren} {st st':St} {w:World} {v:CV} {fr:Fr} {a:Act}
theorem oq:∀{l:List Operand} {c:List eQ},xe l=some c->FR ρ fr a.tmps->eu ρ (Jq fr c) (l.map a.eval):=by
 intro l
 induction l with
 |nil=>intro c h _;cases h;exact eu.nil ρ
 |cons x l ih=>
  intro c h hf;have e:xe (x::l)=Option.rec none (fun r=>Option.rec none (fun c=>some (c::r)) (eU x)) (xe l):=rfl;rw[e]at h;cases hl:xe l with
  |none=>rw[hl]at h;cases h
  |some r=>
   rw[hl]at h;cases hx:eU x with
   |none=>rw[hx]at h;cases h
   |some c'=>
    rw[hx]at h;cases h;exact eu.cons (bk hx hf) (ih hl hf)
theorem fC {x:Option Operand}{c:Option eQ}(h:K1 x=some c)(hf:FR ρ fr a.tmps):Pn ρ (OF fr c) (x.map a.eval):=by
 unfold K1 at h
 split at h
 ·cases h;trivial
 ·split at h
  ·rename_i x c' hc;cases h;exact bk hc hf
  ·cases h
theorem mV {place:Nat->Option (Nat×Nat)}:∀{l:List (Nat×Operand)} {c:List tE},rG place l=some c->FR ρ fr a.tmps->qf ρ place (KP fr c) (l.map fun p=>(p.1,a.eval p.2)):=by
 intro l
 induction l with
 |nil=>intro c h _;cases h;exact .nil
 |cons p l ih=>
  intro c h hf;have e:rG place (p::l)=Option.rec none (fun r=>(match place p.1,eU p.2 with|some (off,size),some c=>some ((off,size,c)::r)|_,_=>none)) (rG place l):=rfl;rw[e]at h;cases hl:rG place l with
  |none=>rw[hl]at h;cases h
  |some r=>
   rw[hl]at h;dsimp only at h
   split at h
   ·rename_i off size c' h1 h2;cases h;exact .cons p.1 off size (ev fr c') _ _ _ h1 (bk h2 hf) (ih hl hf)
   ·cases h
end
def Sv (P:Program)(l:List Field):Bool:=l.all fun f=>(P.info? f.type).isSome
def OI (P:Program)(op:BinOp)(t:TypeId):Option jL:=
 match op with
 | .eql| .neq=>(match fN P 40 t with
   |some d=>bu (FU d) (bu (P.eqGuardType P.depth t) none (some d)) (some d)
   |none=>none)
 |_=>none
def zo (P:Program)(s d:TypeId):Option BC:=
 match P.underlying s,P.underlying d with
 |some _,some (.int k)=>some (.toInt k)
 |some .string,some .string=>some .same
 |some .string,some (.slice e)=>(match P.underlying e with|some (.int .u8)=>some (.bytesOf e)|_=>none)
 |some (.slice e),some .string=>(match P.underlying e with|some (.int .u8)=>some .strOf|_=>none)
 |_,_=>none
def keyOf (P:Program)(t:TypeId):Option (TypeId×jL):=
 match P.underlying t with
 |some (.map k e)=>(match fN P 40 k with|some d=>bu (gY 40 d) (some (e,d)) none|none=>none)
 |_=>none
def CB (P:Program)(t:TypeId):Option Ln:=
 match P.underlying t with
 |some .string=>some .str
 |some (.slice _)=>some .slice
 |some (.map _ _)=>some .map
 |some (.array n _)=>some (.const n)
 |some (.pointer a)=>(match P.underlying a with|some (.array n _)=>some (.const n)|_=>none)
 |_=>none
def BN (P:Program)(u:TypeId)(size:Nat):Option FZ:=
 match P.underlying u with
 |some (.slice _)=>some .slice
 |some .string=>bu (Nat.beq size 1) (some .str) none
 |some (.int _)=>some .zeros
 |_=>none
def DB (k:FZ)(bytes:Nat):Bool:=match k with| .zeros=>Nat.ble bytes 256|_=>true
def rD (P:Program)(b:Builtin)(ats:List TypeId)(args:List Operand):Option Az:=
 match b,ats,args with
 | .len,t::_,[x]=>(match CB P t,eU x with|some k,some x=>some (.len k x)|_,_=>none)
 | .cap,t::_,[x]=>(match P.underlying t,eU x with|some (.slice _),some x=>some (.len .cap x)|_,_=>none)
 | .append,[t,u],[s,x]=>(match P.underlying t,eU s,eU x with
   |some (.slice e),some s,some x=>(match P.info? e with
    |some i=>(match xL i,BN P u i.size with|some z,some k=>bu (DB k i.bytes) (some (.append e i.size i.bytes z k s x)) none|_,_=>none)
    |none=>none)
   |_,_,_=>none)
 | .copy,[t,u],[d,s]=>(match P.underlying t,P.underlying u,eU d,eU s with
   |some (.slice e),some su,some d,some s=>(match P.info? e,su with
    |some i, .slice _=>some (.copy false i.size d s)
    |some i, .string=>bu (Nat.beq i.size 1) (some (.copy true i.size d s)) none
    |_,_=>none)
   |_,_,_,_=>none)
 | .clear,[t],[x]=>(match P.underlying t,eU x with
   |some (.slice e),some x=>(match P.info? e with|some i=>(match xL i with|some z=>some (.clear z x)|none=>none)|none=>none)
   |_,_=>none)
 | .max,_,[x,y]=>(match eU x,eU y with|some x,some y=>some (.rh true x y)|_,_=>none)
 | .min,_,[x,y]=>(match eU x,eU y with|some x,some y=>some (.rh false x y)|_,_=>none)
 | .delete,t::_,[m,k]=>(match keyOf P t,eU m,eU k with|some (_,d),some m,some k=>some (.delete d m k)|_,_,_=>none)
 |_,_,_=>none
def lN (P:Program)(op:Op):Option Az:=
 match op with
 | .move x=>(match eU x with|some x=>some (.SX x)|none=>none)
 | .assign x=>(match eU x with|some x=>some (.SX x)|none=>none)
 | .pick c a b=>(match eU c,eU a,eU b with|some c,some a,some b=>some (.pick c a b)|_,_,_=>none)
 | .alloc t=>(match P.info? t with|some i=>(match xL i with|some z=>some (.new t z)|none=>none)|none=>none)
 | .box t x=>(match eU x with|some x=>some (.box t x)|none=>none)
 | .build t parts=>(match P.underlying t,P.info? t with
   |some (.struct fs),some i=>(match xL i,rG (Cb P fs) parts.toList,Sv P fs.toList with|some z,some ps,true=>some (.build z ps)|_,_,_=>none)
   |some (.array _ e),some i=>(match P.info? e with|some j=>(match xL i,rG (mw j.size) parts.toList with|some z,some ps=>some (.build z ps)|_,_=>none)|none=>none)
   |_,_=>none)
 | .buildSlice t len parts=>(match P.underlying t with
   |some (.slice e)=>(match P.info? e with
    |some i=>bu (Nat.ble (Nat.mul len i.size) 16777216) (match xL i,rG (mw i.size) parts.toList with|some z,some ps=>some (.buildSlice e len z ps)|_,_=>none) none
    |none=>none)
   |_=>none)
 | .load t x=>(match P.underlying t,P.info? t,eU x with|some u,some i,some x=>bu (ib u) (some (.yB i.size x)) (some (.EB x))|_,_,_=>none)
 | .store t x y=>(match P.info? t,eU x,eU y with|some i,some x,some y=>some (.store i.size x y)|_,_,_=>none)
 | .nilCheck x=>(match eU x with|some x=>some (.nil x)|none=>none)
 | .binOp op t x y _=>(match eU x,eU y with|some x',some y'=>some (.bin op (OI P op t) (Jx x y) x' y')|_,_=>none)
 | .unOp op _ x=>(match eU x with|some x=>some (.un op x)|none=>none)
 | .convert s d x=>(match zo P s d,eU x with|some c,some x=>some (.conv c x)|_,_=>none)
 | .sliceToArrayPointer t x=>(match P.underlying t,eU x with|some (.array n _),some x=>some (.GS n x)|_,_=>none)
 | .makeInterface t x=>(match P.concrete t,eU x with|true,some x=>some (.iface t x)|_,_=>none)
 | .makeFunc fn f c=>(match xe f.toList,xe c.toList with|some f,some c=>some (.func fn f c)|_,_=>none)
 | .makeMap t r=>(match P.underlying t,K1 r with|some (.map _ _),some r=>some (.mkMap r)|_,_=>none)
 | .makeSlice t l c=>(match P.underlying t,eU l,eU c with
   |some (.slice e),some l,some c=>(match P.info? e with|some i=>(match xL i with|some z=>some (.mkSlice e i.bytes z l c)|none=>none)|none=>none)
   |_,_,_=>none)
 | .slice t x lo hi mx=>(match P.underlying t,eU x,K1 lo,K1 hi,K1 mx with
   |some .string,some x,some lo,some hi,some none=>some (.nj x lo hi)
   |some (.slice e),some x,some lo,some hi,some none=>(match P.info? e with|some i=>some (.pI i.size x lo hi)|none=>none)
   |some (.slice e),some x,some lo,some (some hi),some (some mx)=>(match P.info? e with|some i=>some (.slice3 i.size x lo hi mx)|none=>none)
   |some (.array n e),some x,some lo,some hi,some none=>(match P.info? e with|some i=>some (.nm n i.size x lo hi)|none=>none)
   |_,_,_,_,_=>none)
 | .fieldAddr t x f=>(match P.underlying t,eU x with
   |some (.struct fs),some x=>(match fs[f]? with
    |some fd=>(match P.info? fd.type with|some i=>bu (Nat.beq i.size 0) none (some (.fieldAddr fd.offset x))|none=>none)
    |none=>none)
   |_,_=>none)
 | .field t x f=>(match P.underlying t,eU x with
   |some (.struct fs),some x=>(match fs[f]? with
    |some fd=>(match P.info? fd.type,P.underlying fd.type with|some i,some u=>some (.field (ib u) fd.offset i.size x)|_,_=>none)
    |none=>none)
   |_,_=>none)
 | .indexAddr t x i=>(match P.underlying t,eU x,eU i with
   |some (.array n e),some x,some i=>(match P.info? e with|some j=>some (.ud n j.size x i)|none=>none)
   |some (.slice e),some x,some i=>(match P.info? e with|some j=>some (.yM j.size x i)|none=>none)
   |_,_,_=>none)
 | .index t x i=>(match P.underlying t,eU x,eU i with
   |some .string,some x,some i=>some (.uc x i)
   |some (.array n e),some x,some i=>(match P.info? e,P.underlying e with|some j,some u=>some (.ue n j.size (ib u) x i)|_,_=>none)
   |_,_,_=>none)
 | .lookup t x k ok=>(match keyOf P t,eU x,eU k with
   |some (e,d),some x,some k=>(match P.info? e with|some i=>(match PZ i with|some z=>some (.lookup d z ok x k)|none=>none)|none=>none)
   |_,_,_=>none)
 | .mapUpdate t m k x| .insert t m k x=>(match keyOf P t,eU m,eU k,eU x with|some (_,d),some m,some k,some x=>some (.mapUpdate d m k x)|_,_,_,_=>none)
 | .mapEntry t m k=>(match keyOf P t,eU m,eU k with
   |some (e,d),some m,some k=>(match P.info? e with|some i=>(match PZ i with|some z=>some (.mapEntry d z m k)|none=>none)|none=>none)
   |_,_,_=>none)
 | .entryStore _ m s x=>(match eU m,eU s,eU x with|some m,some s,some x=>some (.entryStore m s x)|_,_,_=>none)
 | .extract x i=>(match eU x with|some x=>some (.extract x i)|none=>none)
 | .call {callee:= .builtin b,args,argTypes}=>rD P b argTypes.toList args.toList
 | .call {callee:= .value (.func f),args, .. }=>(match xe args.toList with|some l=>some (.call f l)|none=>none)
 | .call {callee:= .value f,args, .. }=>(match eU f,xe args.toList with|some f,some l=>some (.Bv f l)|_,_=>none)
 |_=>none
section
variable {P:Program} {ρ:Ren} {st st':St} {w:World} {v:CV} {fr:Fr} {a:Act} {call:fT}
theorem uW {o:Oper}{next:Act->World->Prop}{Q:Exit->Act->World->Prop}(h:Ik P (execOp a.eval o) ρ st w v st')
 (hn:∀v' w' ρ',VR ρ' v v'->bf ρ st w ρ' st' w'->next (a.put o.dst v') w'):o.wp P a w next Q:=by
 obtain⟨x,v',w',ρ',h1,h2,h3,h4⟩:=h;unfold Oper.wp;rw[h1];rcases h2 with rfl|⟨rfl,rfl⟩
 ·exact hn v' w' ρ' h3 h4
 ·exact hn _ w' ρ' h3 h4
theorem nD {t e:TypeId}{d:jL}(h:keyOf P t=some (e,d)):∃k,P.underlying t=some (.map k e)/\fN P 40 k=some d/\gY 40 d=true:=by
 unfold keyOf at h
 split at h
 ·rename_i k e' hu
  split at h
  ·rename_i d' hd;rw[aO]at h
   split at h
   ·rename_i hk;cases h;exact⟨k,hu,hd,hk⟩
   ·cases h
  ·cases h
 ·cases h
theorem zl {op:BinOp}{t:TypeId}{d:jL}(h:OI P op t=some d):fN P 40 t=some d/\(FU d=true->P.eqGuardType P.depth t=false):=by
 have key:∀{x:Option jL},(match fN P 40 t with
  |some d=>bu (FU d) (bu (P.eqGuardType P.depth t) none (some d)) (some d)
  |none=>none)=some d->fN P 40 t=some d/\(FU d=true->P.eqGuardType P.depth t=false):=by
  intro _ h
  split at h
  ·rename_i d' hd;simp only[aO]at h
   split at h
   ·split at h
    ·cases h
    ·rename_i hg;cases h;exact⟨hd,fun _=>by simpa using hg⟩
   ·rename_i ha;cases h;exact⟨hd,fun e=>absurd e ha⟩
  ·cases h
 unfold OI at h
 split at h
 ·exact key (x:=none) h
 ·exact key (x:=none) h
 ·cases h
theorem Au {s d:TypeId}{c:BC}(h:zo P s d=some c):FI P c s d:=by
 unfold zo at h
 split at h
 ·rename_i u k h1 h2;cases h;exact⟨h2,u,h1⟩
 ·rename_i h1 h2;cases h;exact⟨h2,h1⟩
 ·rename_i e h1 h2
  split at h
  ·rename_i h3;cases h;exact⟨h2,h3,h1⟩
  ·cases h
 ·rename_i e h1 h2
  split at h
  ·rename_i h3;cases h;exact⟨e,h1,h3,h2⟩
  ·cases h
 ·cases h
theorem CA {t:TypeId}{k:Ln}(h:CB P t=some k):IU P k t:=by
 unfold CB at h
 split at h
 ·rename_i hu;cases h;exact hu
 ·rename_i e hu;cases h;exact⟨e,hu⟩
 ·rename_i k e hu;cases h;exact⟨k,e,hu⟩
 ·rename_i n e hu;cases h;exact .inl ⟨e,hu⟩
 ·rename_i a hu
  split at h
  ·rename_i n e V5;cases h;exact .inr ⟨a,e,hu,V5⟩
  ·cases h
 ·cases h
theorem BM {u:TypeId}{size:Nat}{k:FZ}(h:BN P u size=some k):BO P k u size:=by
 unfold BN at h
 split at h
 ·rename_i e hu;cases h;exact⟨e,hu⟩
 ·rename_i hu;simp only[aO,aBi]at h
  split at h
  ·rename_i hs;cases h;exact⟨hu,hs⟩
  ·cases h
 ·rename_i j hu;cases h;exact⟨j,hu⟩
 ·cases h
theorem sq {t:TypeId}{u:TypeDesc}(hu:P.underlying t=some u):(isAgg t).run P w= .ok (ib u) w:=by
 cases u<;>simp[isAgg,aAL hu,ib]
theorem gR {t:TypeId}{i:TypeInfo}(hi:P.info? t=some i):(Go.sizeOf t).run P w= .ok i.size w:=by simp[Go.sizeOf,typeInfo,hi]
theorem vq {b:Builtin}{ats:Array TypeId}{args:Array Operand}{op:Az}{ty:TypeId}{cs:Array Bool}(h:rD P b ats.toList args.toList=some op)(hr:cX call op fr st= .ok v st')(hw:WR ρ st w)(hf:FR ρ fr a.tmps):
 Ik P (builtin b ats ty cs (args.map a.eval)) ρ st w v st':=by
 obtain⟨ats⟩:=ats;obtain⟨args⟩:=args;rw[show Array.map a.eval ⟨args⟩=(args.map a.eval).toArray from by simp];unfold rD at h
 split at h
 ·rename_i t r x ht hx;cases ht;cases hx
  split at h
  ·rename_i k x' hk Ak;cases h;have:=Hn (P:=P) (ty:=ty) hr hw (bk Ak hf) (CA hk) (t::r).toArray (by simp);exact this.gW
  ·cases h
 ·rename_i t r x ht hx;cases ht;cases hx
  split at h
  ·rename_i e x' hk Ak;cases h;exact(Hp (P:=P) (ty:=ty) hr hw (bk Ak hf) hk (t::r).toArray (by simp)).gW
  ·cases h
 ·rename_i t u s x ht hx;cases ht;cases hx
  split at h
  ·rename_i e s' x' hu tr Ak
   split at h
   ·rename_i i hi
    split at h
    ·rename_i z k hz hk;rw[aO]at h
     split at h
     ·rename_i hzf;cases h;obtain⟨z',z1,z2,z3⟩:=jr hz;have:=Ai (P:=P) (t:=t) (u:=u) (ty:=ty) hr hw (bk tr hf) (bk Ak hf) (BM hk) hu hi z1 rfl z2 z3 rfl (fun hkz=>by subst hkz;simpa[DB]using hzf);exact this.gW
     ·cases h
    ·cases h
   ·cases h
  ·cases h
 ·rename_i t u d s ht hx;cases ht;cases hx
  split at h
  ·rename_i e su d' s' hu hsu Dx tr
   split at h
   ·rename_i i e2 hi;cases h;have:=wM (P:=P) (dT:=t) (sT:=u) (ty:=ty) hr hw (bk Dx hf) (bk tr hf) hu hi rfl (fun e=>by cases e);exact this.gW
   ·rename_i i hi;simp only[aO,aBi]at h
    split at h
    ·rename_i h1;cases h;have:=wM (P:=P) (dT:=t) (sT:=u) (ty:=ty) hr hw (bk Dx hf) (bk tr hf) hu hi rfl (fun _=>h1);exact this.gW
    ·cases h
   ·cases h
  ·cases h
 ·rename_i t x ht hx;cases ht;cases hx
  split at h
  ·rename_i e x' hu Ak
   split at h
   ·rename_i i hi
    split at h
    ·rename_i z hz;cases h;obtain⟨z',z1,z2,z3⟩:=jr hz;have:=Cn (P:=P) (t:=t) (ty:=ty) hr hw (bk Ak hf) hu hi z1 z3;exact this.gW
    ·cases h
   ·cases h
  ·cases h
 ·rename_i x y hx;cases hx
  split at h
  ·rename_i x' y' Ak YM;cases h;have:=AV (P:=P) (mx:=true) (ats:=ats.toArray) (ty:=ty) hr hw (bk Ak hf) (bk YM hf);exact bF.gW (s:=Builtin.max_ ats.toArray ty #[a.eval x,a.eval y]) this
  ·cases h
 ·rename_i x y hx;cases hx
  split at h
  ·rename_i x' y' Ak YM;cases h;have:=AV (P:=P) (mx:=false) (ats:=ats.toArray) (ty:=ty) hr hw (bk Ak hf) (bk YM hf);exact bF.gW (s:=Builtin.min_ ats.toArray ty #[a.eval x,a.eval y]) this
  ·cases h
 ·rename_i t r m k ht hx;cases ht;cases hx
  split at h
  ·rename_i e d m' k' hk zO Bi;cases h;obtain⟨kt,k1,k2,k3⟩:=nD hk;have:=Ag (P:=P) (ty:=ty) (ats:=(t::r).toArray) (by simp) hr hw (bk zO hf) (bk Bi hf) k1 k2 (by omega) k3;exact this.gW
  ·cases h
 ·cases h
end
section
variable {P:Program} {ρ:Ren} {st st':St} {w:World} {v:CV} {fr:Fr} {a:Act} {call:fT}
theorem BV {f:FuncId}(args:Array Value)(h:gM P f=true):(callFunc f args).run P w= .ok (.enter f args) w:=by
 unfold gM at h
 split at h
 ·rename_i fn hfn;simp only[aAV,aDm]at h;have h1:¬(fn.name== "runtime.NumGoroutine")=true:=by rw[h.1];simp
  have h2:¬fn.body.isNone=true:=by
   have:=h.2;cases hb:fn.body<;>simp_all
  simp only[callFunc,Sem.run_bind,run_program,Result.andThen_ok,hfn];rw[aAH h1,aAH h2]
  rfl
 ·cases h
theorem AO {f:FuncId}{first captured:Array Value}{x:Operand}{args:Array Operand}{ats:Array TypeId}{dst:Option Tmp}{ty:TypeId}{pos:String}{after:Array Edge}{guard:Option (Nat×Bool)}
 (hx:a.eval x= .func (.func f) first captured):
 (execOp a.eval {dst,op:= .call {callee:= .value x,args,argTypes:=ats},type:=ty,pos,after,guard}).run P w=(callFunc f (first++args.map a.eval++captured)).run P w:=by
 have e:execOp a.eval {dst,op:= .call {callee:= .value x,args,argTypes:=ats},type:=ty,pos,after,guard}=
  (do let d<-Deferred.ofValue (a.eval x) (args.map a.eval);invoke d.target d.args):=rfl
 rw[e,hx];simp only[Deferred.ofValue,Sem.run_bind,Sem.run_pure,Result.andThen_ok,invoke]
theorem O1 {o:Oper}{next:Act->World->Prop}{Q:Exit->Act->World->Prop}{f:FuncId}{args:List CV}{args':Array Value}(hc:iJ P call)(hr:call f args st= .ok v st')(hw:WR ρ st w)(ha:eu ρ args args'.toList)
 (jx:(execOp a.eval o).run P w=(callFunc f args').run P w) (hn:∀v' w' ρ',VR ρ' v v'->bf ρ st w ρ' st' w'->next (a.put o.dst v') w'):o.wp P a w next Q:=by
 rcases hc f args st v st' hr with⟨h1,h2⟩|⟨h1,h2⟩
 ·unfold Oper.wp;rw[jx,BV _ h1,Oper.upon_enter];refine(h2 ρ w args' hw ha).mono ?_;rintro e w' ⟨v',ρ',rfl,hv,hA⟩;exact hn v' w' ρ' hv hA
 ·subst h1;obtain⟨v',h3,h4⟩:=h2 ρ w args' hw ha;unfold Oper.wp;rw[jx,h3,Oper.upon_value];exact hn v' w ρ h4 (bf.refl hw)
theorem K0 {f:CV}{args:List CV}(hr:vT call f args st= .ok v st'){f':Value}(hf:VR ρ f f'){args':List Value}(ha:eu ρ args args'):
 ∃g first captured,f'= .func (.func g) first captured/\∃l,call g l st= .ok v st'/\eu ρ l (first++args'.toArray++captured).toList:=by
 unfold vT at hr
 split at hr
 ·rename_i g fi ca;cases hf with
  |func _ _ _ f' c' hf hc h1 h2=>
   refine⟨g,f'.toArray,c'.toArray,rfl,_,hr, ?_⟩;have:=(eu.mk (ρ:=ρ) hf h1).app (ha.app (eu.mk (ρ:=ρ) hc h2))
   simpa using this
 ·cases hr
theorem Dd (hc:iJ P call){o:Oper}{op:Az}(h:lN P o.op=some op)(hr:cX call op fr st= .ok v st')(hw:WR ρ st w)(hf:FR ρ fr a.tmps){next:Act->World->Prop}{Q:Exit->Act->World->Prop}
 (hn:∀v' w' ρ',VR ρ' v v'->bf ρ st w ρ' st' w'->next (a.put o.dst v') w'):o.wp P a w next Q:=by
 obtain⟨dst,oop,ty,pos,after,guard⟩:=o;have fin:∀{s:Sem Next},s=execOp a.eval ⟨dst,oop,ty,pos,after,guard⟩->Ik P s ρ st w v st'->Oper.wp P ⟨dst,oop,ty,pos,after,guard⟩ a w next Q:=fun e hd=>uW (e▸hd) hn;dsimp only at h;unfold lN at h
 split at h
 ·rename_i x
  split at h
  ·rename_i x' hx;cases h;cases hr;exact fin rfl ⟨.value (a.eval x),a.eval x,w,ρ,rfl, .inl rfl,bk hx hf,bf.refl hw⟩
  ·cases h
 ·rename_i x
  split at h
  ·rename_i x' hx;cases h;cases hr;exact fin rfl ⟨.value (a.eval x),a.eval x,w,ρ,rfl, .inl rfl,bk hx hf,bf.refl hw⟩
  ·cases h
 ·split at h
  ·rename_i h1 h2 h3;cases h;exact fin rfl (Eo hr hw (bk h1 hf) (bk h2 hf) (bk h3 hf))
  ·cases h
 ·split at h
  ·rename_i i hi
   split at h
   ·rename_i z hz;cases h;obtain⟨z',z1,z2,z3⟩:=jr hz;exact fin rfl (Cq hr hw hi z1 z3).gW
   ·cases h
  ·cases h
 ·split at h
  ·rename_i hx;cases h;exact fin rfl (Hq hr hw (bk hx hf)).gW
  ·cases h
 ·split at h
  ·rename_i fs i hu hi
   split at h
   ·rename_i z ps hz hp fP;cases h;obtain⟨z',z1,z2,z3⟩:=jr hz;have Tu:=mV hp hf;refine fin rfl (Ah hr hw hu hi z1 z3 (by rw[aCj];exact Tu) (fun f hfm=> ?_)).gW;have:=aCO.1 fP f hfm;exact Option.isSome_iff_exists.1 this
   ·cases h
  ·rename_i n e i hu hi
   split at h
   ·rename_i j hj
    split at h
    ·rename_i z ps hz hp;cases h;obtain⟨z',z1,z2,z3⟩:=jr hz;have Tu:=mV hp hf;exact fin rfl (Co hr hw hu hi z1 z3 hj (by rw[aCj];exact Tu)).gW
    ·cases h
   ·cases h
  ·cases h
 ·split at h
  ·rename_i e hu
   split at h
   ·rename_i i hi;simp only[aO,aBe]at h
    split at h
    ·rename_i hle
     split at h
     ·rename_i z ps hz hp;cases h;obtain⟨z',z1,z2,z3⟩:=jr hz;have Tu:=mV hp hf;exact fin rfl (uT hr hw hu hi z1 z2 z3 (by rw[aCj];exact Tu) hle).gW
     ·cases h
    ·cases h
   ·cases h
  ·cases h
 ·split at h
  ·rename_i u i x' hu hi hx;rw[aO]at h
   split at h
   ·rename_i ha;cases h;exact fin rfl (Ci hr hw (bk hx hf) (by rw[sq hu,ha]) (gR hi)).gW
   ·rename_i ha;cases h;exact fin rfl (Cj hr hw (bk hx hf) (by rw[sq hu,show ib u=false by simpa using ha])).gW
  ·cases h
 ·split at h
  ·rename_i i x' y' hi hx hy;cases h;exact fin rfl (Cf hr hw (bk hx hf) (bk hy hf) (gR hi)).gW
  ·cases h
 ·rename_i x
  split at h
  ·rename_i x' hx;cases h;exact uW (Hm (o:=⟨dst, .nilCheck x,ty,pos,after,guard⟩) hr hw (bk hx hf) rfl rfl) hn
  ·cases h
 ·rename_i op2 t x y yt
  split at h
  ·rename_i x' y' hx hy;cases h;refine fin rfl (Hr (X:=x) (Y:=y) (f:=40) hr hw (bk hx hf) (bk hy hf) (fun e he=>(zl he).1) (by omega) rfl (fun e he=>(zl he).2)).gW
  ·cases h
 ·split at h
  ·rename_i x' hx;cases h;exact fin rfl (J9 hr hw (bk hx hf)).gW
  ·cases h
 ·split at h
  ·rename_i c x' hk hx;cases h;exact fin rfl (Eu hr hw (bk hx hf) (Au hk)).gW
  ·cases h
 ·split at h
  ·rename_i hu hx;cases h;exact fin rfl (En hr hw (bk hx hf) hu).gW
  ·cases h
 ·split at h
  ·rename_i hk hx;cases h;exact fin rfl (Ck hr hw (bk hx hf) hk).gW
  ·cases h
 ·split at h
  ·rename_i h1 h2;cases h;exact fin rfl (Es hr hw (by rw[aCj];exact oq h1 hf) (by rw[aCj];exact oq h2 hf)).gW
  ·cases h
 ·split at h
  ·rename_i hu h1;cases h;exact fin rfl (Ch hr hw (fC h1 hf) hu).gW
  ·cases h
 ·split at h
  ·rename_i e l' c' hu h1 h2
   split at h
   ·rename_i i hi
    split at h
    ·rename_i z hz;cases h;obtain⟨z',z1,z2,z3⟩:=jr hz;exact fin rfl (Ep hr hw (bk h1 hf) (bk h2 hf) hu hi z1 rfl z2 z3).gW
    ·cases h
   ·cases h
  ·cases h
 ·rename_i t x lo hi mx
  split at h
  ·rename_i x' kF fv hu hx Du Gr Rz;cases h;have hm:=fC (ρ:=ρ) Rz hf;cases mx with
   |some m=>exact False.elim hm
   |none=>exact fin rfl (xj hr hw (bk hx hf) (fC Du hf) (fC Gr hf) hu).gW
  ·rename_i e x' kF fv hu hx Du Gr Rz;have hm:=fC (ρ:=ρ) Rz hf;cases mx with
   |some m=>exact False.elim hm
   |none=>
    split at h
    ·rename_i i wY;cases h;exact fin rfl (yp hr hw (bk hx hf) (fC Du hf) (fC Gr hf) hu (gR wY)).gW
    ·cases h
  ·rename_i e x' kF fv YA hu hx Du Gr Rz;have hm:=fC (ρ:=ρ) Rz hf;have hh:=fC (ρ:=ρ) Gr hf;cases mx with
   |none=>exact False.elim hm
   |some m=>
    cases hi with
    |none=>exact False.elim hh
    |some h2=>
     split at h
     ·rename_i i wY;cases h;exact fin rfl (Ab hr hw (bk hx hf) (fC Du hf) hh hm hu (gR wY)).gW
     ·cases h
  ·rename_i n e x' kF fv hu hx Du Gr Rz;have hm:=fC (ρ:=ρ) Rz hf;cases mx with
   |some m=>exact False.elim hm
   |none=>
    split at h
    ·rename_i i wY;cases h;exact fin rfl (xl hr hw (bk hx hf) (fC Du hf) (fC Gr hf) hu (gR wY)).gW
    ·cases h
  ·cases h
 ·split at h
  ·rename_i fs x' hu hx
   split at h
   ·rename_i fd hfd
    split at h
    ·rename_i i hi;simp only[aO,aBi]at h
     split at h
     ·cases h
     ·rename_i hz;cases h;exact fin rfl (vS hr hw (bk hx hf) hu hfd rfl (gR hi) hz).gW
    ·cases h
   ·cases h
  ·cases h
 ·split at h
  ·rename_i fs x' hu hx
   split at h
   ·rename_i fd hfd
    split at h
    ·rename_i i u hi hut;cases h;exact fin rfl (Cm hr hw (bk hx hf) hu hfd hi hut).gW
    ·cases h
   ·cases h
  ·cases h
 ·split at h
  ·rename_i n e x' i' hu hx hi
   split at h
   ·rename_i j hj;cases h;exact fin rfl (Ae hr hw (bk hx hf) (bk hi hf) hu (gR hj)).gW
   ·cases h
  ·rename_i e x' i' hu hx hi
   split at h
   ·rename_i j hj;cases h;exact fin rfl (Cl hr hw (bk hx hf) (bk hi hf) hu (gR hj)).gW
   ·cases h
  ·cases h
 ·split at h
  ·rename_i x' i' hu hx hi;cases h;exact fin rfl (Ad hr hw (bk hx hf) (bk hi hf) hu).gW
  ·rename_i n e x' i' hu hx hi
   split at h
   ·rename_i j u hj LB;cases h;exact fin rfl (Af hr hw (bk hx hf) (bk hi hf) hu hj LB).gW
   ·cases h
  ·cases h
 ·split at h
  ·rename_i e d x' k' hk hx Gq
   split at h
   ·rename_i i hi
    split at h
    ·rename_i z hz;cases h;obtain⟨kt,k1,k2,k3⟩:=nD hk;obtain⟨z',z1,z2⟩:=AA hz;exact fin rfl (Ac hr hw (bk hx hf) (bk Gq hf) k1 k2 (by omega) k3 hi z1 (z2 ρ)).gW
    ·cases h
   ·cases h
  ·cases h
 ·split at h
  ·rename_i e d m' k' x' hk hm Gq hx;cases h;obtain⟨kt,k1,k2,k3⟩:=nD hk;exact fin rfl (oS hr hw (bk hm hf) (bk Gq hf) (bk hx hf) k1 k2 (by omega) k3).gW
  ·cases h
 ·split at h
  ·rename_i e d m' k' x' hk hm Gq hx;cases h;obtain⟨kt,k1,k2,k3⟩:=nD hk;exact fin rfl (oS hr hw (bk hm hf) (bk Gq hf) (bk hx hf) k1 k2 (by omega) k3).gW
  ·cases h
 ·split at h
  ·rename_i e d m' k' hk hm Gq
   split at h
   ·rename_i i hi
    split at h
    ·rename_i z hz;cases h;obtain⟨kt,k1,k2,k3⟩:=nD hk;obtain⟨z',z1,z2⟩:=AA hz;exact fin rfl (xm hr hw (bk hm hf) (bk Gq hf) k1 k2 (by omega) k3 hi z1 (z2 ρ)).gW
    ·cases h
   ·cases h
  ·cases h
 ·split at h
  ·rename_i m' s' x' hm hs hx;cases h;exact fin rfl (uR hr hw (bk hm hf) (bk hs hf) (bk hx hf)).gW
  ·cases h
 ·split at h
  ·rename_i x' hx;cases h;exact fin rfl (yv hr hw (bk hx hf)).gW
  ·cases h
 ·exact fin rfl (vq h hr hw hf)
 ·rename_i f args ats
  split at h
  ·rename_i l hl;cases h;refine O1 (o:=⟨dst, .call {callee:= .value (.func f),args:=args,argTypes:=ats},ty,pos,after,guard⟩) hc hr hw (args':= #[]++args.map a.eval++ #[]) (by simpa using oq hl hf) (AO rfl) hn
  ·cases h
 ·rename_i f args ats hnf
  split at h
  ·rename_i f' l hf' hl;cases h;obtain⟨g,first,captured,e1,l',e2,e3⟩:=K0 hr (bk hf' hf) (oq hl hf);refine O1 (o:=⟨dst, .call {callee:= .value f,args:=args,argTypes:=ats},ty,pos,after,guard⟩) hc e2 hw (args':=first++args.map a.eval++captured) (by simpa using e3) (AO e1) hn
  ·cases h
 ·cases h
end
inductive Rs where
 |norm (fr:Fr) (st:St)
 |exit (id:Nat) (fr:Fr) (st:St)
 |ret (fr:Fr) (st:St)
 |bad
def eZ (ops:Array Oper)(fr:Fr)(o:Oper):Option Bool:=
 match o.guard with
 |none=>some true
 |some (g,b)=>(match (ops[g]?).bind (·.dst)with
  |none=>some false
  |some d=>(match fx fr d with
   | .bool c=>some (bu b c (Bool.not c))
   | .undef=>some false
   |_=>none))
def l4 (P:Program)(call:fT)(ops:Array Oper)(o:Oper)(fr:Fr)(st:St):OR:=
 match eZ ops fr o with
 |some true=>(match lN P o.op with|some op=>cX call op fr st|none=> .bad)
 |some false=> .ok .undef st
 |none=> .bad
section
variable {P:Program} {ρ:Ren} {st st':St} {w:World} {v:CV} {fr:Fr} {a:Act} {call:fT}
theorem iG {ops:Array Oper}{o:Oper}{b:Bool}(h:eZ ops fr o=some b)(hf:FR ρ fr a.tmps):Region.wanted o (yielded ops a.tmps)=b:=by
 unfold eZ at h;unfold Region.wanted
 split at h
 ·rename_i hg;cases h;rw[hg]
 ·rename_i g want hg;rw[hg];dsimp only;unfold yielded
  split at h
  ·rename_i hd;cases h;rw[hd];rfl
  ·rename_i d hd;rw[hd,Option.bind_some];have hv:=hf d
   split at h
   ·rename_i c hc;cases h;rw[hc]at hv;cases htd:a.tmps[d]? with
    |none=>
     have:a.tmps.getD d Go.undef=Go.undef:=by simp[htd]
     rw[this]at hv;cases hv
    |some x=>
     have:a.tmps.getD d Go.undef=x:=by simp[htd]
     rw[this]at hv;cases hv;dsimp only;cases c<;>cases want<;>rfl
   ·rename_i hc;cases h;rw[hc]at hv;cases htd:a.tmps[d]? with
    |none=>rfl
    |some x=>
     have:a.tmps.getD d Go.undef=x:=by simp[htd]
     rw[this]at hv;cases hv
     rfl
   ·cases h
theorem qQ (hc:iJ P call){ops:Array Oper}{o:Oper}(h:l4 P call ops o fr st= .ok v st')(hw:WR ρ st w)(hf:FR ρ fr a.tmps){next:Act->World->Prop}{Q:Exit->Act->World->Prop}
 (hn:∀v' w' ρ',VR ρ' v v'->bf ρ st w ρ' st' w'->next (a.put o.dst v') w'):
 if Region.wanted o (yielded ops a.tmps)then o.wp P a w next Q else next (a.put o.dst undef) w:=by
 unfold l4 at h
 split at h
 ·rename_i hwt;rw[aAI (iG hwt hf)]
  split at h
  ·rename_i op CL;exact Dd hc CL h hw hf hn
  ·cases h
 ·rename_i hwt;rw[aAH (by rw[iG hwt hf];simp)];cases h;exact hn _ w ρ .undef (bf.refl hw)
 ·cases h
end
def oB (P:Program)(call:fT)(n:Nat)(ops:Array Oper)(l:List Oper)(fr:Fr)(st:St):Rs:=
 match l with
 |[]=> .norm fr st
 |o::l=>match l4 P call ops o fr st with
  | .ok v st=>(match o.dst with|none=>oB P call n ops l fr st|some d=>if d<n then oB P call n ops l (fr.put d (some v)) st else .bad)
  | .bad=> .bad
structure Pc (ρ:Ren)(st:St)(w:World)(n:Nat)(fr':Fr)(st':St)(a':Act)(w':World)(ρ':Ren):Prop where
 fr:FR ρ' fr' a'.tmps
 sz:n<=a'.tmps.size
 defers:a'.defers=[]
 after:bf ρ st w ρ' st' w'
def pv (ρ:Ren)(st:St)(w:World)(n:Nat)(r:Rs)(e:Exit)(a':Act)(w':World):Prop:=
 match r with
 | .norm fr' st'=>e= .normal/\∃ρ',Pc ρ st w n fr' st' a' w' ρ'
 | .exit id fr' st'=>e= .exit id/\∃ρ',Pc ρ st w n fr' st' a' w' ρ'
 | .ret fr' st'=>e= .ret/\∃ρ',Pc ρ st w n fr' st' a' w' ρ'
 | .bad=>False
theorem pv.step {ρ ρ1:Ren}{st gw:St}{w w1:World}{n:Nat}{r:Rs}{e:Exit}{a':Act}{w':World}(hA:bf ρ st w ρ1 gw w1)(h:pv ρ1 gw w1 n r e a' w'):pv ρ st w n r e a' w':=by
 cases r<;>simp only[pv]at h⊢
 ·obtain⟨h1,ρ',h2⟩:=h;exact⟨h1,ρ',h2.fr,h2.sz,h2.defers,hA.trans h2.after⟩
 ·obtain⟨h1,ρ',h2⟩:=h;exact⟨h1,ρ',h2.fr,h2.sz,h2.defers,hA.trans h2.after⟩
 ·obtain⟨h1,ρ',h2⟩:=h;exact⟨h1,ρ',h2.fr,h2.sz,h2.defers,hA.trans h2.after⟩
theorem Ec (a:Act)(d:Option Tmp)(v:Value):(a.put d v).tmps.size=a.tmps.size:=by cases d<;>simp[Act.put]
theorem yi (a:Act)(d:Option Tmp)(v:Value):(a.put d v).defers=a.defers:=by cases d<;>rfl
section
variable {P:Program} {call:fT} {n:Nat} {ops:Array Oper}
theorem GY (fr:Fr)(st:St):oB P call n ops [] fr st= .norm fr st:=rfl
theorem wK (o:Oper)(l:List Oper)(fr:Fr)(st:St):oB P call n ops (o::l) fr st=
 match l4 P call ops o fr st with
 | .ok v st=>(match o.dst with|none=>oB P call n ops l fr st|some d=>if d<n then oB P call n ops l (fr.put d (some v)) st else .bad)
 | .bad=> .bad:=rfl
theorem FR.Z8 {ρ:Ren}{fr:Fr}{a:Act}(h:FR ρ fr a.tmps){d:Nat}(hd:d<a.tmps.size){v:CV}{v':Value}(hv:VR ρ v v'):FR ρ (fr.put (d) (some v)) (a.put (some d) v').tmps:=h.put hd hv
theorem BW (hc:iJ P call)(l:List Oper):∀(fr:Fr) (st:St) (ρ:Ren) (a:Act) (w:World),oB P call n ops l fr st≠ .bad->WR ρ st w->FR ρ fr a.tmps->n<=a.tmps.size->a.defers=[]->
 wpList P ops (pv ρ st w n (oB P call n ops l fr st)) l a w:=by
 induction l with
 |nil=>intro fr st ρ a w _ hw hf hn hd;rw[GY];exact wpList_nil ⟨rfl,ρ,hf,hn,hd,bf.refl hw⟩
 |cons o l ih=>
  intro fr st ρ a w hb hw hf hn hd;rw[wK]at hb⊢;cases hs:l4 P call ops o fr st with
  |bad=>rw[hs]at hb;exact absurd rfl hb
  |ok v gw=>
   rw[hs]at hb;refine wpList_step fun K hK=>qQ hc hs hw hf fun v' w' ρ' hv hA=>hK _ _ ?_;dsimp only at hb⊢
   have mono:∀{r:Rs} {l:List Oper} {a:Act} {w1:World},wpList P ops (pv ρ' gw w' n r) l a w1->wpList P ops (pv ρ st w n r) l a w1:=by
    intro r l
    induction l with
    |nil=>intro a w1 h;exact pv.step hA h
    |cons o l ih=>
     intro a w1 h;unfold wpList at h⊢
     split
     ·rename_i hwt;rw[aAI hwt]at h;rcases h with h|⟨h1,a2,w2,h2⟩
      ·left;unfold Oper.wp at h⊢;generalize (execOp a.eval o).run P w1=rr at h⊢;cases rr with
       |ok x w2=>
        cases x<;>simp only[Oper.upon]at h⊢<;>first
         |exact ih h
         |exact h.mono (fun e w3 he=>by cases e<;>first|exact ih he|exact pv.step hA he|(obtain⟨a4,w4,h4⟩:=he;exact⟨a4,w4,pv.step hA h4⟩))
         |exact h.mono (fun _ _ he=>ih he)
       |halt x w2=>cases x<;>simp only[Oper.upon]at h⊢<;>exact pv.step hA h
      ·exact .inr ⟨h1,a2,w2,pv.step hA h2⟩
     ·rename_i hwt;rw[aAH hwt]at h;exact ih h
   cases acC:o.dst with
   |none=>
    rw[acC]at hb;refine mono (ih fr gw ρ' (a.put none v') w' hb hA.wr (hf.mono hA.ext) hn hd)
   |some d=>
    rw[acC]at hb;dsimp only at hb⊢
    split at hb
    ·rename_i PJ;rw[aAI PJ];exact mono (ih _ gw ρ' (a.put (some d) v') w' hb hA.wr ((hf.mono hA.ext).Z8 (aAZ PJ hn) hv) (by rw[Ec];exact hn) (by rw[yi];exact hd))
    ·exact absurd rfl hb
end
abbrev xh:=fT->Nat->Array Oper->Fr->St->Rs
def tf (r:Rs)(k:Fr->St->Rs):Rs:=match r with| .norm fr st=>k fr st| .exit id fr st=> .exit id fr st| .ret fr st=> .ret fr st| .bad=> .bad
def rm (id:Nat)(r:Rs):Rs:=match r with| .norm fr st=> .norm fr st| .exit i fr st=>bu (Nat.beq i id) (.norm fr st) (.exit i fr st)| .ret fr st=> .ret fr st| .bad=> .bad
def IM:List Nat->List CV->Fr
 |[],_=>fun _=>some .any
 |l::L,vs=>PT.put (IM L (vs.drop 1)) l (some (vs.headD .any))
def Gy:Code->Nat
 | .region id _ _=>id
 | .seq x _=>Gy x
 | .cond _ x _=>Gy x
 | .block _ x=>Gy x
 | .loop x=>Gy x
 | .scope x=>Gy x
 |_=>0
def wq (L:Option (List Nat))(fr:Fr):Fr:=match L with|none=>fr|some L=>IM L (L.map (fx fr))
def wP (body:Fr->St->Rs)(L:Option (List Nat)):Nat->Fr->St->Rs
 |0,_,_=> .bad
 |n+1,fr,st=>tf (body (wq L fr) st) (wP body L n)
def Bs (c:Operand)(x y:Fr->St->Rs)(fr:Fr)(st:St):Rs:=
 match eU c with|some c=>(match ev fr c with| .bool t=>bu t (x fr st) (y fr st)|_=> .bad)|none=> .bad
def ld (P:Program)(call:fT)(dr:xh)(lv:Nat->Option (List Nat))(fuel n:Nat)(c:Code)(fr:Fr)(st:St):Rs:=
 match c with
 | .skip=> .norm fr st
 | .region _ ops draw=>bu draw (dr call n ops fr st) (oB P call n ops ops.toList fr st)
 | .seq x y=>tf (ld P call dr lv fuel n x fr st) (fun fr st=>ld P call dr lv fuel n y (wq (lv (Gy y)) fr) st)
 | .cond c x y=>Bs c (ld P call dr lv fuel n x) (ld P call dr lv fuel n y) fr st
 | .block id x=>rm id (ld P call dr lv fuel n x fr st)
 | .loop x=>wP (ld P call dr lv fuel n x) (lv (Gy x)) fuel fr st
 | .exit id=> .exit id fr st
 | .scope x=>ld P call dr lv fuel n x fr st
 | .label _=> .norm fr st
 | .ret=> .ret fr st
 |_=> .bad
def sP (P:Program)(dr:xh):Prop:=
 ∀(call:fT) (n:Nat),iJ P call->∀(id:Nat) (ops:Array Oper) (fr:Fr) (st:St) (ρ:Ren) (a:Act) (w:World),dr call n ops fr st≠ .bad->WR ρ st w->FR ρ fr a.tmps->n<=a.tmps.size->a.defers=[]->
  (Code.region id ops true).wp P (pv ρ st w n (dr call n ops fr st)) a w
section
variable {P:Program} {call:fT} {dr:xh} {n:Nat} {lv:Nat->Option (List Nat)} {fuel:Nat}
def Ok (P:Program)(n:Nat)(c:Code)(f:Fr->St->Rs):Prop:=
 ∀(fr:Fr) (st:St) (ρ:Ren) (a:Act) (w:World),f fr st≠ .bad->WR ρ st w->FR ρ fr a.tmps->n<=a.tmps.size->a.defers=[]->c.wp P (pv ρ st w n (f fr st)) a w
theorem Mb {x y:Code}{f g:Fr->St->Rs}(hx:Ok P n x f)(hy:Ok P n y g):Ok P n (.seq x y) (fun fr st=>tf (f fr st) g):=by
 intro fr st ρ a w hb hw hf hn hd;have h1:=hx fr st ρ a w;refine wp_seq ?_;dsimp only at hb⊢;generalize f fr st=r at hb h1⊢;cases r with
 |bad=>exact absurd rfl hb
 |norm lJ gw=>
  refine wp_mono (h1 (by simp) hw hf hn hd) ?_;rintro e a1 w1 ⟨rfl,ρ1,hp⟩;exact wp_mono (hy lJ gw ρ1 a1 w1 hb hp.after.wr hp.fr hp.sz hp.defers) (fun e a w h=>pv.step hp.after h)
 |exit id lJ gw=>
  refine wp_mono (h1 (by simp) hw hf hn hd) ?_;rintro e a1 w1 ⟨rfl,hp⟩;exact⟨rfl,hp⟩
 |ret lJ gw=>
  refine wp_mono (h1 (by simp) hw hf hn hd) ?_;rintro e a1 w1 ⟨rfl,hp⟩;exact⟨rfl,hp⟩
theorem EM {x:Code}{f:Fr->St->Rs}{id:Nat}(hx:Ok P n x f):Ok P n (.block id x) (fun fr st=>rm id (f fr st)):=by
 intro fr st ρ a w hb hw hf hn hd;have h1:=hx fr st ρ a w;refine wp_block ?_;dsimp only at hb⊢;generalize f fr st=r at hb h1⊢;cases r with
 |bad=>exact absurd rfl hb
 |norm lJ gw=>
  refine wp_mono (h1 (by simp) hw hf hn hd) ?_;rintro e a1 w1 ⟨rfl,hp⟩;exact⟨rfl,hp⟩
 |exit i lJ gw=>
  refine wp_mono (h1 (by simp) hw hf hn hd) ?_;rintro e a1 w1 ⟨rfl,hp⟩;have e0:rm id (.exit i lJ gw)=bu (Nat.beq i id) (.norm lJ gw) (.exit i lJ gw):=rfl;rw[e0];simp only[aO,aBi,Exit.inBlock]
  by_cases hi:i=id
  ·simp only[aAI hi];exact⟨rfl,hp⟩
  ·simp only[aAH hi];exact⟨rfl,hp⟩
 |ret lJ gw=>
  refine wp_mono (h1 (by simp) hw hf hn hd) ?_;rintro e a1 w1 ⟨rfl,hp⟩;exact⟨rfl,hp⟩
theorem OE (ρ:Ren)(fr:Fr)(tmps:Array Value)(h:FR ρ fr tmps):∀(L:List Nat),FR ρ (IM L (L.map (fx fr))) tmps:=by
 intro L
 induction L with
 |nil=>intro t;exact .any _
 |cons l L ih=>
  intro t;show VR ρ (fx (PT.put (IM L ((fx fr l::L.map (fx fr)).drop 1)) l (some (fx fr l))) t) _
  by_cases e:t=l
  ·subst e;rw[lT];exact h t
  ·rw[mh _ _ _ _ e];exact ih t
theorem Jw {ρ:Ren}{fr:Fr}{tmps:Array Value}{L:Option (List Nat)}(h:FR ρ fr tmps):FR ρ (wq L fr) tmps:=by
 cases L with
 |none=>exact h
 |some L=>exact OE ρ fr tmps h L
theorem Cz {x:Code}{f:Fr->St->Rs}{L:Option (List Nat)}(hx:Ok P n x f):∀(k:Nat) (fr:Fr) (st:St) (ρ:Ren) (a:Act) (w:World),wP f L k fr st≠ .bad->WR ρ st w->FR ρ fr a.tmps->n<=a.tmps.size->a.defers=[]->
 Code.rounds P x (pv ρ st w n (wP f L k fr st)) k a w:=by
 intro k
 have mono:∀{Q Q':Exit->Act->World->Prop} (h:∀e a w,Q e a w->Q' e a w) (k:Nat) (a:Act) (w:World),Code.rounds P x Q k a w->Code.rounds P x Q' k a w:=by
  intro Q Q' h k
  induction k with
  |zero=>intro a w hh;exact hh
  |succ k ih=>
   intro a w hh;rw[rounds_succ]at hh⊢;refine wp_mono hh ?_;intro e a w hq;cases e<;>first|exact ih _ _ hq|exact h _ _ _ hq
 induction k with
 |zero=>intro fr st ρ a w hb;exact absurd rfl hb
 |succ k ih=>
  intro zi st ρ a w hb hw TL hn hd;have hf:=Jw (L:=L) TL;have e:wP f L (k+1) zi st=tf (f (wq L zi) st) (wP f L k):=rfl;rw[e]at hb⊢;generalize wq L zi=fr at hf hb⊢;rw[rounds_succ];cases hr:f fr st with
  |bad=>rw[hr]at hb;exact absurd rfl hb
  |norm lJ gw=>
   have h1:=hx fr st ρ a w (by rw[hr];simp) hw hf hn hd;rw[hr]at h1 hb;refine wp_mono h1 ?_;rintro e a1 w1 ⟨rfl,ρ1,hp⟩;exact mono (fun e a w h=>pv.step hp.after h) k a1 w1 (ih lJ gw ρ1 a1 w1 hb hp.after.wr hp.fr hp.sz hp.defers)
  |exit id lJ gw=>
   have h1:=hx fr st ρ a w (by rw[hr];simp) hw hf hn hd;rw[hr]at h1;refine wp_mono h1 ?_;rintro e a1 w1 ⟨rfl,hp⟩;exact⟨rfl,hp⟩
  |ret lJ gw=>
   have h1:=hx fr st ρ a w (by rw[hr];simp) hw hf hn hd;rw[hr]at h1;refine wp_mono h1 ?_;rintro e a1 w1 ⟨rfl,hp⟩;exact⟨rfl,hp⟩
theorem Sf (hc:iJ P call)(NS:sP P dr)(c:Code):Ok P n c (ld P call dr lv fuel n c):=by
 induction c with
 |skip=>intro fr st ρ a w _ hw hf hn hd;exact wp_skip ⟨rfl,ρ,hf,hn,hd,bf.refl hw⟩
 |region id ops draw=>
  intro fr st ρ a w hb hw hf hn hd;cases draw with
  |true=>exact NS call n hc id ops fr st ρ a w hb hw hf hn hd
  |false=>exact wp_region_list (BW hc ops.toList fr st ρ a w hb hw hf hn hd)
 |seq x y hx hy=>exact Mb hx (fun fr st ρ a w hb hw hf hn hd=>hy _ st ρ a w hb hw (Jw hf) hn hd)
 |cond c x y hx hy=>
  intro fr st ρ a w hb hw hf hn hd;have e:ld P call dr lv fuel n (.cond c x y) fr st=Bs c (ld P call dr lv fuel n x) (ld P call dr lv fuel n y) fr st:=rfl;rw[e]at hb⊢;unfold Bs at hb⊢;cases Fe:eU c with
  |none=>rw[Fe]at hb;exact absurd rfl hb
  |some c'=>
   rw[Fe]at hb;have hev:=bk Fe hf;dsimp only at hb⊢;generalize Ak:ev fr c'=cv at hb hev⊢;cases cv with
   |bool t=>
    generalize Ds:a.eval c=cv' at hev;cases hev;cases t with
    |true=>exact wp_cond_true Ds (hx fr st ρ a w hb hw hf hn hd)
    |false=>exact wp_cond_false Ds (hy fr st ρ a w hb hw hf hn hd)
   |_=>exact absurd rfl hb
 |block id x hx=>exact EM hx
 |loop x hx=>intro fr st ρ a w hb hw hf hn hd;exact wp_loop_rounds fuel (Cz hx fuel fr st ρ a w hb hw hf hn hd)
 |rangeFunc f ps x y hx hy=>intro fr st ρ a w hb;exact absurd rfl hb
 |exit id=>intro fr st ρ a w _ hw hf hn hd;exact wp_exit ⟨rfl,ρ,hf,hn,hd,bf.refl hw⟩
 |scope x hx=>
  intro fr st ρ a w hb hw hf hn hd;refine wp_scope_straight (wp_mono (hx fr st ρ a w hb hw hf hn hd) ?_);intro e a1 w1 h;have e0:ld P call dr lv fuel n (.scope x) fr st=ld P call dr lv fuel n x fr st:=rfl;rw[e0];cases e with
  |goto l=>
   unfold pv at h
   split at h
   ·exact absurd h.1 (by simp)
   ·exact absurd h.1 (by simp)
   ·exact absurd h.1 (by simp)
   ·exact h.elim
  |_=>exact h
 |label l=>intro fr st ρ a w _ hw hf hn hd;exact wp_label ⟨rfl,ρ,hf,hn,hd,bf.refl hw⟩
 |goto l=>intro fr st ρ a w hb;exact absurd rfl hb
 |ret=>intro fr st ρ a w _ hw hf hn hd;exact wp_ret ⟨rfl,ρ,hf,hn,hd,bf.refl hw⟩
 |refuse y=>intro fr st ρ a w hb;exact absurd rfl hb
end
def qb (args:List CV):Fr:=fun t=>args[t]?
theorem HX {ρ:Ren}{args:List CV}{args':Array Value}(h:eu ρ args args'.toList)(k:Nat):FR ρ (qb args) (args'++Array.replicate k undef):=by
 intro t;have hlen:args.length=args'.size:=by rw[h.len];simp
 by_cases ht:t<args.length
 ·have h1:args[t]?=some args[t]:=by simp[ht]
  have h2:args'.toList[t]?=some (args'[t]'(by omega)):=by simp
  have h3:=h.at' t _ _ h1 h2
  have h4:(args'++Array.replicate k undef).getD t Go.undef=args'[t]'(by omega):=by
   simp[aDh,show t<args'.size by omega]
  have h5:fx (qb args) t=args[t]:=by show(Option.rec _ _ (args[t]?):CV)=_;rw[h1]
  rw[h4,h5];exact h3
 ·have h4:(args'++Array.replicate k undef).getD t Go.undef=Go.undef:=by
   simp only[Array.getD_eq_getD_getElem?,aDh,aAH (show¬t<args'.size by omega),Array.getElem?_replicate]
   split<;>rfl
  have h5:fx (qb args) t= .undef:=by show(Option.rec _ _ (args[t]?):CV)=_;rw[aBs (by omega)]
  rw[h4,h5];exact .undef
def AP (P:Program)(fr:Fr)(st:St)(r:ResultVar):Option CV:=
 match r with
 | .tmp t=>some (fx fr (t))
 | .cell a t=>(match P.underlying t,P.info? t with
   |some u,some i=>(match bu (ib u) (aI i.size (fx fr (a)) st) (aC (fx fr (a)) st)with| .ok v _=>some v| .bad=>none)
   |_,_=>none)
def G0 (P:Program)(fr:Fr)(st:St)(l:List ResultVar):Option (List CV):=
 List.rec (some []) (fun r _ ih=>match AP P fr st r,ih with|some v,some l=>some (v::l)|_,_=>none) l
def Aa (P:Program)(fr:Fr)(st:St)(l:List ResultVar):OR:=
 match G0 P fr st l with
 |some []=> .ok .undef st
 |some [v]=> .ok v st
 |some l=> .ok (.tuple l) st
 |none=> .bad
def Da (P:Program)(dr:xh)(lv:Nat->Nat->Option (List Nat))(fuel:Nat)(call:fT)(f:Nat)(args:List CV)(st:St):OR:=
 bu (gM P f) (match P.funcs[f]? with
  |some fn=>(match fn.body with
   |some c=>(match ld P call dr (lv f) fuel fn.ntmps c (qb args) st with
    | .norm fr st=>Aa P fr st fn.results.toList
    | .exit _ _ _=> .bad
    | .ret fr st=>Aa P fr st fn.results.toList
    | .bad=> .bad)
   |none=> .bad)
  |none=> .bad) .bad
section
variable {P:Program} {call:fT} {dr:xh} {ρ:Ren} {st st':St} {w:World} {fr:Fr} {a:Act} {v:CV}
theorem Km {t:TypeId}{p:CV}{p':Value}(h:aC p st= .ok v st')(hw:WR ρ st w)(hp:VR ρ p p')(ht:(isAgg t).run P w= .ok false w):
 ∃v',(do loadVar t (<-asAddr p'):Sem Value).run P w= .ok v' w/\VR ρ v v':=by
 unfold aC at h
 split at h
 ·rename_i b off
  split at h
  ·rename_i s t' g hm;cases hx:s[off]? with
   |none=>rw[hx]at h;cases h
   |some x=>
    rw[hx]at h;cases h;cases hp with
    |ptr _ _ r sz hr=>
     obtain⟨c,lo,hi,e1,e2,e3,e4,e5⟩:=hw.row hm hr;obtain⟨x',g1,g2⟩:=rV e4 hx;refine⟨_, ?_,g2⟩;simp[asAddr,loadVar,ht,mQ P w r off c t' (lo,hi) x' e1 (uF g1),-run_load]
  ·rename_i s o0 hm;cases hx:s[off]? with
   |none=>rw[hx]at h;cases h
   |some x=>
    rw[hx]at h;cases h;cases hp with
    |ptr _ _ r sz hr=>
     obtain⟨c,t',lo,hi,e1,e2,e3,e4⟩:=hw.Mv hm hr;obtain⟨x',g1,g2⟩:=rV e4 hx;refine⟨_, ?_,g2⟩;simp[asAddr,loadVar,ht,mQ P w r off c t' (lo,hi) x' e1 (uF g1),-run_load]
  ·cases h
 ·cases h
theorem Kl {t:TypeId}{n:Nat}{p:CV}{p':Value}(h:aI n p st= .ok v st')(hw:WR ρ st w)(hp:VR ρ p p')(ht:(isAgg t).run P w= .ok true w)
 (hn:(Go.sizeOf t).run P w= .ok n w):∃v',(do loadVar t (<-asAddr p'):Sem Value).run P w= .ok v' w/\VR ρ v v':=by
 unfold aI at h
 split at h
 ·rename_i b off
  split at h
  ·rename_i s t' g hm;cases hx:ig s off n with
   |none=>rw[hx]at h;cases h
   |some x=>
    rw[hx]at h;cases h;cases hp with
    |ptr _ _ r sz hr=>
     obtain⟨c,lo,hi,e1,e2,e3,e4,e5⟩:=hw.row hm hr;obtain⟨g1,g2⟩:=jw hx;refine⟨.agg ((c.toList.drop off).take n).toArray, ?_,(VR.Dm ?_)⟩
     ·simp[asAddr,loadVar,ht,hn,dU P w r off n c t' (lo,hi) e1 (by omega)]
     ·rw[show x=(s.drop off).take n from g2]
      have e:(c.toList.drop off).take n=((c.toList.take s.length).drop off).take n:=by
       rw[aCq,aBN,aBq (by omega)]
      rw[e];exact(e4.drop off).take n
  ·rename_i s o0 hm;cases hx:ig s off n with
   |none=>rw[hx]at h;cases h
   |some x=>
    rw[hx]at h;cases h;cases hp with
    |ptr _ _ r sz hr=>
     obtain⟨c,t',lo,hi,e1,e2,e3,e4⟩:=hw.Mv hm hr;obtain⟨g1,g2⟩:=jw hx;refine⟨.agg ((c.toList.drop off).take n).toArray, ?_,(VR.Dm ?_)⟩
     ·simp[asAddr,loadVar,ht,hn,dU P w r off n c t' (lo,hi) e1 (by omega)]
     ·rw[show x=(s.drop off).take n from g2]
      have e:(c.toList.drop off).take n=((c.toList.take s.length).drop off).take n:=by
       rw[aCq,aBN,aBq (by omega)]
      rw[e];exact(e4.drop off).take n
  ·cases h
 ·cases h
def BY (a:Act)(r:ResultVar):Sem Value:=match r with| .tmp t=>pure (a.tmps.getD t undef)| .cell ad t=>do loadVar t (<-asAddr (a.tmps.getD ad undef))
theorem D8 {r:ResultVar}{v:CV}(h:AP P fr st r=some v)(hw:WR ρ st w)(hf:FR ρ fr a.tmps):
 ∃v',(BY a r).run P w= .ok v' w/\VR ρ v v':=by
 unfold AP at h
 split at h
 ·rename_i t;cases h;exact⟨_,rfl,hf t⟩
 ·rename_i ad t
  split at h
  ·rename_i u i hu hi;have hp:=hf ad;rw[aO]at h
   by_cases ha:ib u=true
   ·rw[aAI ha]at h
    split at h
    ·rename_i v1 gw hh;cases h;exact Kl (t:=t) hh hw hp (by rw[sq hu,ha]) (gR hi)
    ·cases h
   ·rw[aAH ha]at h
    split at h
    ·rename_i v1 gw hh;cases h;exact Km (t:=t) hh hw hp (by rw[sq hu,show ib u=false by simpa using ha])
    ·cases h
  ·cases h
theorem tQ:∀{l:List ResultVar} {vs:List CV},G0 P fr st l=some vs->WR ρ st w->FR ρ fr a.tmps->∃AD,(l.mapM (BY a)).run P w= .ok AD w/\eu ρ vs AD:=by
 intro l
 induction l with
 |nil=>intro vs h _ _;cases h;exact⟨[],rfl,eu.nil ρ⟩
 |cons r l ih=>
  intro vs h hw hf;have e:G0 P fr st (r::l)=(match AP P fr st r,G0 P fr st l with|some v,some l=>some (v::l)|_,_=>none):=rfl;rw[e]at h
  split at h
  ·rename_i v l1 h1 h2;cases h;obtain⟨v',g1,g2⟩:=D8 h1 hw hf;obtain⟨AD,g3,g4⟩:=ih h2 hw hf;exact⟨v'::AD,by simp[List.mapM_cons,g1,g3],eu.cons g2 g4⟩
  ·cases h
theorem yg {fn:Func}(h:Aa P fr st fn.results.toList= .ok v st')(hw:WR ρ st w)(hf:FR ρ fr a.tmps):st'=st/\∃v',(results fn a.tmps).run P w= .ok v' w/\VR ρ v v':=by
 unfold Aa at h
 have e:∀{AD},(fn.results.toList.mapM (BY a)).run P w= .ok AD w->(results fn a.tmps).run P w= .ok (if h:AD.toArray.size=1 then AD.toArray[0]else .tuple AD.toArray) w:=by
  intro AD hv;have e1:results fn a.tmps=(do let vs<-fn.results.mapM (BY a);pure (if h:vs.size=1 then vs[0]else .tuple vs)):=rfl;rw[e1,Array.mapM_eq_mapM_toList];simp[hv]
 split at h
 ·rename_i hl;cases h;obtain⟨AD,g1,g2⟩:=tQ hl hw hf;have:AD=[]:=by have:=g2.len;simpa using this.symm
  subst this;exact⟨rfl,_,e g1,by simpa using VR.undef⟩
 ·rename_i u hl;cases h;obtain⟨AD,g1,g2⟩:=tQ hl hw hf;obtain⟨u',t',rfl,g3,g4⟩:=g2.inv;have:t'=[]:=by have:=g4.len;simpa using this.symm
  subst this;exact⟨rfl,_,e g1,by simpa using g3⟩
 ·rename_i l h0 h1 hl;cases h;obtain⟨AD,g1,g2⟩:=tQ hl hw hf;refine⟨rfl,_,e g1, ?_⟩
  have hlen:AD.toArray.size≠1:=by
   intro hh;have:=g2.len;simp only[aCV]at hh;rw[hh]at this;obtain⟨x,rfl⟩:=List.length_eq_one_iff.1 this;exact h1 x rfl
  rw[dif_neg hlen];exact VR.tuple _ _ (by exact g2.len) (by exact g2.at')
 ·cases h
theorem vo (hc:iJ P call)(NS:sP P dr){lv:Nat->Nat->Option (List Nat)}{fuel f:Nat}{args:List CV}(h:Da P dr lv fuel call f args st= .ok v st'):gM P f=true/\Dq P f args st v st':=by
 unfold Da at h;rw[aO]at h
 split at h
 ·rename_i Fg;refine⟨Fg, ?_⟩
  split at h
  ·rename_i fn hfn
   split at h
   ·rename_i c hb;intro ρ w args' hw ha;refine calls_of_wp hfn hb ?_;have hok:=Sf (n:=fn.ntmps) (lv:=lv f) (fuel:=fuel) hc NS c (qb args) st ρ {tmps:=args'++Array.replicate (fn.ntmps-args'.size) undef,defers:=[]} w;generalize ld P call dr (lv f) fuel fn.ntmps c (qb args) st=r at h hok;have hok:=hok (by intro e;subst e;cases h) hw (HX ha _) (by simp;omega) rfl;cases r with
    |norm lJ gw=>
     refine wp_mono hok ?_;rintro e a1 w1 ⟨rfl,ρ1,hp⟩;obtain⟨rfl,v',g1,g2⟩:=yg h hp.after.wr hp.fr;exact⟨hp.defers,v',g1,v',ρ1,rfl,g2,hp.after⟩
    |ret lJ gw=>
     refine wp_mono hok ?_;rintro e a1 w1 ⟨rfl,ρ1,hp⟩;obtain⟨rfl,v',g1,g2⟩:=yg h hp.after.wr hp.fr;exact⟨hp.defers,v',g1,v',ρ1,rfl,g2,hp.after⟩
    |exit id lJ gw=>cases h
    |bad=>cases h
   ·cases h
  ·cases h
 ·cases h
end
abbrev xg:=Nat->List CV->St->Option OR
def nf (P:Program)(I:xg):Prop:=∀f args st v st',I f args st=some (.ok v st')->qi P f args st v st'
def zZ (P:Program)(dr:xh)(lv:Nat->Nat->Option (List Nat))(I:xg):Nat->fT
 |0=>fun _ _ _=> .bad
 |n+1=>fun f args st=>match I f args st with|some r=>r|none=>Da P dr lv n (zZ P dr lv I n) f args st
theorem yd {P:Program}{dr:xh}{lv:Nat->Nat->Option (List Nat)}{I:xg}(NS:sP P dr)(hI:nf P I):∀fuel,iJ P (zZ P dr lv I fuel):=by
 intro fuel
 induction fuel with
 |zero=>intro f args st v st' h;cases h
 |succ fuel ih=>
  intro f args st v st' h;simp only[zZ]at h
  split at h
  ·rename_i r hr;exact hI f args st v st' (by rw[hr,h])
  ·exact .inl (vo ih NS h)
