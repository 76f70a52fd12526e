import Derived.Test.YtomffjeofpafnaaGreatDoorLimC
import Derived.Scope
import Derived.LoopN
namespace Lim
open Go
noncomputable section
set_option linter.defProp false
abbrev uq:=Nat×Nat×eP
inductive Bq where
 |UW (x:eP)
 |pick (c a b:eP)
 |new (t:Nat) (z:List CV)
 |box (t:Nat) (x:eP)
 |build (z:List CV) (parts:List uq)
 |buildSlice (e len:Nat) (z:List CV) (parts:List uq)
 |FM (a:eP)
 |zF (n:Nat) (a:eP)
 |store (n:Nat) (a x:eP)
 |nil (x:eP)
 |bin (op:BinOp) (d:Option jX) (AP:Bool) (x y:eP)
 |un (op:UnOp) (x:eP)
 |conv (c:CC) (x:eP)
 |Ic (n:Nat) (x:eP)
 |iface (t:Nat) (x:eP)
 |func (fn:Fn) (f c:List eP)
 |mkMap (r:Option eP)
 |mkSlice (e bytes:Nat) (z:List CV) (l c:eP)
 |nM (x:eP) (lo hi:Option eP)
 |qc (size:Nat) (x:eP) (lo hi:Option eP)
 |slice3 (size:Nat) (x:eP) (lo:Option eP) (hi mx:eP)
 |nO (n size:Nat) (x:eP) (lo hi:Option eP)
 |fieldAddr (off:Nat) (x:eP)
 |field (agg:Bool) (off size:Nat) (x:eP)
 |uN (n size:Nat) (x i:eP)
 |zO (size:Nat) (x i:eP)
 |uM (x i:eP)
 |uO (n size:Nat) (agg:Bool) (x i:eP)
 |lookup (d:jX) (z:CV) (ok:Bool) (x k:eP)
 |mapUpdate (d:jX) (m k x:eP)
 |mapEntry (d:jX) (z:CV) (m k:eP)
 |entryStore (m s x:eP)
 |extract (x:eP) (i:Nat)
 |len (k:MQ) (x:eP)
 |append (e size bytes:Nat) (z:List CV) (k:Ho) (s x:eP)
 |copy (str:Bool) (size:Nat) (d s:eP)
 |clear (z:List CV) (x:eP)
 |rT (mx:Bool) (x y:eP)
 |delete (d:jX) (m k:eP)
 |call (f:Nat) (args:List eP)
 |Cu (f:eP) (args:List eP)
def KF (fr:Fr)(l:List eP):List CV:=List.rec [] (λx _ r=>ev fr x::r) l
def Qt (fr:Fr)(x:Option eP):Option CV:=Option.rec none (λx=>some (ev fr x)) x
def Mw (fr:Fr)(l:List uq):List tU:=List.rec [] (λp _ r=>(p.1,p.2.1,ev fr p.2.2)::r) l
abbrev fW:=Nat->List CV->St->OR
def wS (call:fW)(f:CV)(args:List CV)(st:St):OR:=
 match f with| .func (.func f) first captured=>call f (first++(args++captured)) st|_=>.bad
def de (call:fW)(op:Bq)(fr:Fr)(st:St):OR:=
 match op with
 | .UW x=>.ok (ev fr x) st
 | .pick c a b=>bf (ev fr c) (ev fr a) (ev fr b) st
 | .new t z=>dG t z st
 | .box t x=>bz (ev fr x).isAny .bad (dG t (ev fr x).cA st)
 | .build z parts=>bu z (Mw fr parts) st
 | .buildSlice e len z parts=>bO e len (cJ len z) (Mw fr parts) st
 | .FM a=>aB (ev fr a) st
 | .zF n a=>aK n (ev fr a) st
 | .store n a x=>aQ n (ev fr a) (ev fr x) st
 | .nil x=>dC (ev fr x) st
 | .bin op d AP x y=>ai op d AP (ev fr x) (ev fr y) st
 | .un op x=>kF op (ev fr x) st
 | .conv c x=>dy c (ev fr x) st
 | .Ic n x=>oJ n (ev fr x) st
 | .iface t x=>uB t (ev fr x) st
 | .func fn f c=>qU fn (KF fr f) (KF fr c) st
 | .mkMap r=>jv (Qt fr r) st
 | .mkSlice e bytes z l c=>qT e bytes z (ev fr l) (ev fr c) st
 | .nM x lo hi=>kR (ev fr x) (Qt fr lo) (Qt fr hi) st
 | .qc size x lo hi=>aN size (ev fr x) (Qt fr lo) (Qt fr hi) st
 | .slice3 size x lo hi mx=>iD size (ev fr x) (Qt fr lo) (ev fr hi) (ev fr mx) st
 | .nO n size x lo hi=>bR n size (ev fr x) (Qt fr lo) (Qt fr hi) st
 | .fieldAddr off x=>an off (ev fr x) st
 | .field agg off size x=>zz agg off size (ev fr x) st
 | .uN n size x i=>fL n size (ev fr x) (ev fr i) st
 | .zO size x i=>cQ size (ev fr x) (ev fr i) st
 | .uM x i=>oK (ev fr x) (ev fr i) st
 | .uO n size agg x i=>vG n size agg (ev fr x) (ev fr i) st
 | .lookup d z ok x k=>iE d z ok (ev fr x) (ev fr k) st
 | .mapUpdate d m k x=>eC d (ev fr m) (ev fr k) (ev fr x) st
 | .mapEntry d z m k=>fE d z (ev fr m) (ev fr k) st
 | .entryStore m s x=>dS (ev fr m) (ev fr s) (ev fr x) st
 | .extract x i=>av (ev fr x) i st
 | .len k x=>bj k (ev fr x) st
 | .append e size bytes z k s x=>bI e size bytes (ev fr s) (cW k size z (ev fr x) st) st
 | .copy str size d s=>gw str size (ev fr d) (ev fr s) st
 | .clear z x=>rL z (ev fr x) st
 | .rT mx x y=>BJ mx (ev fr x) (ev fr y) st
 | .delete d m k=>oL d (ev fr m) (ev fr k) st
 | .call f args=>call f (KF fr args) st
 | .Cu f args=>wS call (ev fr f) (KF fr args) st
def gR (P:Program)(f:Nat):Bool:=match P.funcs[f]? with|some fn=> !(fn.name== "runtime.NumGoroutine")&&fn.body.isSome|none=>false
def En (P:Program)(f:Nat)(args:List CV)(st:St)(v:CV)(st':St):Prop:=
 ∀(ρ:Ren) (w:World) (args':Array Value),WR ρ st w->eF ρ args args'.toList->
  Calls P f args' w λe w'=>∃v' ρ',e=.returned v'/\VR ρ' v v'/\bh ρ st w ρ' st' w'
def agI (P:Program)(f:Nat)(args:List CV)(st:St)(v:CV)(st':St):Prop:=
 st'=st/\∀(ρ:Ren) (w:World) (args':Array Value),WR ρ st w->eF ρ args args'.toList->∃v',(callFunc f args').run P w=.ok (.value v') w/\VR ρ v v'
def qM (P:Program)(f:Nat)(args:List CV)(st:St)(v:CV)(st':St):Prop:=(gR P f=true/\En P f args st v st')\/agI P f args st v st'
def iV (P:Program)(call:fW):Prop:=∀f args st v st',call f args st=.ok v st'->qM P f args st v st'
def yL (i:TypeInfo):Option (List CV):=
 match i.zero with
 |some z=>bz (Nat.beq z.cells.size i.size) (qk z.cells.toList) none
 |none=>none
def jF {i:TypeInfo}{s:List CV}(h:yL i=some s):∃z,i.zero=some z/\z.cells.size=i.size/\∀ρ,eF ρ s z.cells.toList:=by
 unfold yL at h
 split at h
 .rename_i z hz;simp only[aO,aDZ]at h
  split at h
  .rename_i hs;exact⟨z,hz,hs,λρ=>vO _ _ h ρ⟩
  .cases h
 .cases h
def RW (i:TypeInfo):Option CV:=match i.zero with|some z=>ofValue z|none=>none
def Br {i:TypeInfo}{c:CV}(h:RW i=some c):∃z,i.zero=some z/\∀ρ,VR ρ c z:=by
 unfold RW at h
 split at h
 .rename_i z hz;exact⟨z,hz,λρ=>VR.ofValue h ρ⟩
 .cases h
def xZ (l:List Operand):Option (List eP):=List.rec (some []) (λx _ r=>Option.rec none (λr=>Option.rec none (λc=>some (c::r)) (eX x)) r) l
def MI (x:Option Operand):Option (Option eP):=match x with|none=>some none|some x=>(match eX x with|some c=>some (some c)|none=>none)
def sD (place:Nat->Option (Nat×Nat))(l:List (Nat×Operand)):Option (List uq):=
 List.rec (some []) (λp _ r=>Option.rec none (λr=>(match place p.1,eX p.2 with|some (off,size),some c=>some ((off,size,c)::r)|_,_=>none)) r) l
section
variable {P:Program} {ρ:Ren} {st st':St} {w:World} {v:CV} {fr:Fr} {a:Act}
def oT:∀{l:List Operand} {c:List eP},xZ l=some c->FR ρ fr a.tmps->eF ρ (KF fr c) (l.map a.eval):=by
 intro l
 induction l with
 |nil=>intro c h _;cases h;exact eF.nil ρ
 |cons x l ih=>
  intro c h hf;have e:xZ (x::l)=Option.rec none (λr=>Option.rec none (λc=>some (c::r)) (eX x)) (xZ l):=rfl;rw[e]at h;cases hl:xZ l with
  |none=>rw[hl]at h;cases h
  |some r=>
   rw[hl]at h;cases hx:eX x with
   |none=>rw[hx]at h;cases h
   |some c'=>
    rw[hx]at h;cases h;exact eF.cons (bq hx hf) (ih hl hf)
def fH {x:Option Operand}{c:Option eP}(h:MI x=some c)(hf:FR ρ fr a.tmps):Rp ρ (Qt fr c) (x.map a.eval):=by
 unfold MI at h
 split at h
 .cases h;trivial
 .split at h
  .rename_i x c' hc;cases h;exact bq hc hf
  .cases h
def nv {place:Nat->Option (Nat×Nat)}:∀{l:List (Nat×Operand)} {c:List uq},sD place l=some c->FR ρ fr a.tmps->qI ρ place (Mw fr c) (l.map λp=>(p.1,a.eval p.2)):=by
 intro l
 induction l with
 |nil=>intro c h _;cases h;exact .nil
 |cons p l ih=>
  intro c h hf;have e:sD place (p::l)=Option.rec none (λr=>(match place p.1,eX p.2 with|some (off,size),some c=>some ((off,size,c)::r)|_,_=>none)) (sD place l):=rfl;rw[e]at h;cases hl:sD place l with
  |none=>rw[hl]at h;cases h
  |some r=>
   rw[hl]at h;dsimp only at h
   split at h
   .rename_i off size c' h1 h2;cases h;exact .cons p.1 off size (ev fr c') _ _ _ h1 (bq h2 hf) (ih hl hf)
   .cases h
end
def Uv (P:Program)(l:List Field):Bool:=l.all λf=>(P.info? f.type).isSome
def Qw (P:Program)(op:BinOp)(t:TypeId):Option jX:=
 match op with
 | .eql| .neq=>(match fQ P 40 t with
   |some d=>bz (Hi d) (bz (P.eqGuardType P.depth t) none (some d)) (some d)
   |none=>none)
 |_=>none
def Am (P:Program)(s d:TypeId):Option CC:=
 match P.underlying s,P.underlying d with
 |some _,some (.int k)=>some (.toInt k)
 |some .string,some .string=>some .same
 |some .string,some (.slice e)=>(match P.underlying e with|some (.int .u8)=>some (.bytesOf e)|_=>none)
 |some (.slice e),some .string=>(match P.underlying e with|some (.int .u8)=>some .strOf|_=>none)
 |_,_=>none
def keyOf (P:Program)(t:TypeId):Option (TypeId×jX):=
 match P.underlying t with
 |some (.map k e)=>(match fQ P 40 k with|some d=>bz (ic 40 d) (some (e,d)) none|none=>none)
 |_=>none
def DG (P:Program)(t:TypeId):Option MQ:=
 match P.underlying t with
 |some .string=>some .str
 |some (.slice _)=>some .slice
 |some (.map _ _)=>some .map
 |some (.array n _)=>some (.const n)
 |some (.pointer a)=>(match P.underlying a with|some (.array n _)=>some (.const n)|_=>none)
 |_=>none
def CQ (P:Program)(u:TypeId)(size:Nat):Option Ho:=
 match P.underlying u with
 |some (.slice _)=>some .slice
 |some .string=>bz (Nat.beq size 1) (some .str) none
 |some (.int _)=>some .zeros
 |_=>none
def EA (k:Ho)(bytes:Nat):Bool:=match k with| .zeros=>Nat.ble bytes 256|_=>true
def sy (P:Program)(b:Builtin)(ats:List TypeId)(args:List Operand):Option Bq:=
 match b,ats,args with
 | .len,t::_,[x]=>(match DG P t,eX x with|some k,some x=>some (.len k x)|_,_=>none)
 | .cap,t::_,[x]=>(match P.underlying t,eX x with|some (.slice _),some x=>some (.len .cap x)|_,_=>none)
 | .append,[t,u],[s,x]=>(match P.underlying t,eX s,eX x with
   |some (.slice e),some s,some x=>(match P.info? e with
    |some i=>(match yL i,CQ P u i.size with|some z,some k=>bz (EA k i.bytes) (some (.append e i.size i.bytes z k s x)) none|_,_=>none)
    |none=>none)
   |_,_,_=>none)
 | .copy,[t,u],[d,s]=>(match P.underlying t,P.underlying u,eX d,eX s with
   |some (.slice e),some su,some d,some s=>(match P.info? e,su with
    |some i,.slice _=>some (.copy false i.size d s)
    |some i,.string=>bz (Nat.beq i.size 1) (some (.copy true i.size d s)) none
    |_,_=>none)
   |_,_,_,_=>none)
 | .clear,[t],[x]=>(match P.underlying t,eX x with
   |some (.slice e),some x=>(match P.info? e with|some i=>(match yL i with|some z=>some (.clear z x)|none=>none)|none=>none)
   |_,_=>none)
 | .max,_,[x,y]=>(match eX x,eX y with|some x,some y=>some (.rT true x y)|_,_=>none)
 | .min,_,[x,y]=>(match eX x,eX y with|some x,some y=>some (.rT false x y)|_,_=>none)
 | .delete,t::_,[m,k]=>(match keyOf P t,eX m,eX k with|some (_,d),some m,some k=>some (.delete d m k)|_,_,_=>none)
 |_,_,_=>none
def mj (P:Program)(op:Op):Option Bq:=
 match op with
 | .move x=>(match eX x with|some x=>some (.UW x)|none=>none)
 | .assign x=>(match eX x with|some x=>some (.UW x)|none=>none)
 | .pick c a b=>(match eX c,eX a,eX b with|some c,some a,some b=>some (.pick c a b)|_,_,_=>none)
 | .alloc t=>(match P.info? t with|some i=>(match yL i with|some z=>some (.new t z)|none=>none)|none=>none)
 | .box t x=>(match eX x with|some x=>some (.box t x)|none=>none)
 | .build t parts=>(match P.underlying t,P.info? t with
   |some (.struct fs),some i=>(match yL i,sD (De P fs) parts.toList,Uv P fs.toList with|some z,some ps,true=>some (.build z ps)|_,_,_=>none)
   |some (.array _ e),some i=>(match P.info? e with|some j=>(match yL i,sD (mP j.size) parts.toList with|some z,some ps=>some (.build z ps)|_,_=>none)|none=>none)
   |_,_=>none)
 | .buildSlice t len parts=>(match P.underlying t with
   |some (.slice e)=>(match P.info? e with
    |some i=>bz (Nat.ble (Nat.mul len i.size) 16777216) (match yL i,sD (mP i.size) parts.toList with|some z,some ps=>some (.buildSlice e len z ps)|_,_=>none) none
    |none=>none)
   |_=>none)
 | .load t x=>(match P.underlying t,P.info? t,eX x with|some u,some i,some x=>bz (im u) (some (.zF i.size x)) (some (.FM x))|_,_,_=>none)
 | .store t x y=>(match P.info? t,eX x,eX y with|some i,some x,some y=>some (.store i.size x y)|_,_,_=>none)
 | .nilCheck x=>(match eX x with|some x=>some (.nil x)|none=>none)
 | .binOp op t x y _=>(match eX x,eX y with|some x',some y'=>some (.bin op (Qw P op t) (KN x y) x' y')|_,_=>none)
 | .unOp op _ x=>(match eX x with|some x=>some (.un op x)|none=>none)
 | .convert s d x=>(match Am P s d,eX x with|some c,some x=>some (.conv c x)|_,_=>none)
 | .sliceToArrayPointer t x=>(match P.underlying t,eX x with|some (.array n _),some x=>some (.Ic n x)|_,_=>none)
 | .makeInterface t x=>(match P.concrete t,eX x with|true,some x=>some (.iface t x)|_,_=>none)
 | .makeFunc fn f c=>(match xZ f.toList,xZ c.toList with|some f,some c=>some (.func fn f c)|_,_=>none)
 | .makeMap t r=>(match P.underlying t,MI r with|some (.map _ _),some r=>some (.mkMap r)|_,_=>none)
 | .makeSlice t l c=>(match P.underlying t,eX l,eX c with
   |some (.slice e),some l,some c=>(match P.info? e with|some i=>(match yL i with|some z=>some (.mkSlice e i.bytes z l c)|none=>none)|none=>none)
   |_,_,_=>none)
 | .slice t x lo hi mx=>(match P.underlying t,eX x,MI lo,MI hi,MI mx with
   |some .string,some x,some lo,some hi,some none=>some (.nM x lo hi)
   |some (.slice e),some x,some lo,some hi,some none=>(match P.info? e with|some i=>some (.qc i.size x lo hi)|none=>none)
   |some (.slice e),some x,some lo,some (some hi),some (some mx)=>(match P.info? e with|some i=>some (.slice3 i.size x lo hi mx)|none=>none)
   |some (.array n e),some x,some lo,some hi,some none=>(match P.info? e with|some i=>some (.nO n i.size x lo hi)|none=>none)
   |_,_,_,_,_=>none)
 | .fieldAddr t x f=>(match P.underlying t,eX x with
   |some (.struct fs),some x=>(match fs[f]? with
    |some fd=>(match P.info? fd.type with|some i=>bz (Nat.beq i.size 0) none (some (.fieldAddr fd.offset x))|none=>none)
    |none=>none)
   |_,_=>none)
 | .field t x f=>(match P.underlying t,eX x with
   |some (.struct fs),some x=>(match fs[f]? with
    |some fd=>(match P.info? fd.type,P.underlying fd.type with|some i,some u=>some (.field (im u) fd.offset i.size x)|_,_=>none)
    |none=>none)
   |_,_=>none)
 | .indexAddr t x i=>(match P.underlying t,eX x,eX i with
   |some (.array n e),some x,some i=>(match P.info? e with|some j=>some (.uN n j.size x i)|none=>none)
   |some (.slice e),some x,some i=>(match P.info? e with|some j=>some (.zO j.size x i)|none=>none)
   |_,_,_=>none)
 | .index t x i=>(match P.underlying t,eX x,eX i with
   |some .string,some x,some i=>some (.uM x i)
   |some (.array n e),some x,some i=>(match P.info? e,P.underlying e with|some j,some u=>some (.uO n j.size (im u) x i)|_,_=>none)
   |_,_,_=>none)
 | .lookup t x k ok=>(match keyOf P t,eX x,eX k with
   |some (e,d),some x,some k=>(match P.info? e with|some i=>(match RW i with|some z=>some (.lookup d z ok x k)|none=>none)|none=>none)
   |_,_,_=>none)
 | .mapUpdate t m k x| .insert t m k x=>(match keyOf P t,eX m,eX k,eX x with|some (_,d),some m,some k,some x=>some (.mapUpdate d m k x)|_,_,_,_=>none)
 | .mapEntry t m k=>(match keyOf P t,eX m,eX k with
   |some (e,d),some m,some k=>(match P.info? e with|some i=>(match RW i with|some z=>some (.mapEntry d z m k)|none=>none)|none=>none)
   |_,_,_=>none)
 | .entryStore _ m s x=>(match eX m,eX s,eX x with|some m,some s,some x=>some (.entryStore m s x)|_,_,_=>none)
 | .extract x i=>(match eX x with|some x=>some (.extract x i)|none=>none)
 | .call {callee:=.builtin b,args,argTypes}=>sy P b argTypes.toList args.toList
 | .call {callee:=.value (.func f),args, .. }=>(match xZ args.toList with|some l=>some (.call f l)|none=>none)
 | .call {callee:=.value f,args, .. }=>(match eX f,xZ args.toList with|some f,some l=>some (.Cu f l)|_,_=>none)
 |_=>none
section
variable {P:Program} {ρ:Ren} {st st':St} {w:World} {v:CV} {fr:Fr} {a:Act} {call:fW}
def vM {o:Oper}{next:Act->World->Prop}{Q:Exit->Act->World->Prop}(h:Jy P (execOp a.eval o) ρ st w v st')
 (hn:∀v' w' ρ',VR ρ' v v'->bh ρ st w ρ' st' w'->next (a.put o.dst v') w'):o.wp P a w next Q:=by
 obtain⟨x,v',w',ρ',h1,h2,h3,h4⟩:=h;unfold Oper.wp;rw[h1];rcases h2 with rfl|⟨rfl,rfl⟩
 .exact hn v' w' ρ' h3 h4
 .exact hn _ w' ρ' h3 h4
def nY {t e:TypeId}{d:jX}(h:keyOf P t=some (e,d)):∃k,P.underlying t=some (.map k e)/\fQ P 40 k=some d/\ic 40 d=true:=by
 unfold keyOf at h
 split at h
 .rename_i k e' hu
  split at h
  .rename_i d' hd;rw[aO]at h
   split at h
   .rename_i hk;cases h;exact⟨k,hu,hd,hk⟩
   .cases h
  .cases h
 .cases h
def Aj {op:BinOp}{t:TypeId}{d:jX}(h:Qw P op t=some d):fQ P 40 t=some d/\(Hi d=true->P.eqGuardType P.depth t=false):=by
 have key:∀{x:Option jX},(match fQ P 40 t with
  |some d=>bz (Hi d) (bz (P.eqGuardType P.depth t) none (some d)) (some d)
  |none=>none)=some d->fQ P 40 t=some d/\(Hi d=true->P.eqGuardType P.depth t=false):=by
  intro _ h
  split at h
  .rename_i d' hd;simp only[aO]at h
   split at h
   .split at h
    .cases h
    .rename_i hg;cases h;exact⟨hd,λ_=>by simpa using hg⟩
   .rename_i ha;cases h;exact⟨hd,λe=>absurd e ha⟩
  .cases h
 unfold Qw at h
 split at h
 .exact key (x:=none) h
 .exact key (x:=none) h
 .cases h
def Bl {s d:TypeId}{c:CC}(h:Am P s d=some c):G9 P c s d:=by
 unfold Am at h
 split at h
 .rename_i u k h1 h2;cases h;exact⟨h2,u,h1⟩
 .rename_i h1 h2;cases h;exact⟨h2,h1⟩
 .rename_i e h1 h2
  split at h
  .rename_i h3;cases h;exact⟨h2,h3,h1⟩
  .cases h
 .rename_i e h1 h2
  split at h
  .rename_i h3;cases h;exact⟨e,h1,h3,h2⟩
  .cases h
 .cases h
def DF {t:TypeId}{k:MQ}(h:DG P t=some k):Ka P k t:=by
 unfold DG at h
 split at h
 .rename_i hu;cases h;exact hu
 .rename_i e hu;cases h;exact⟨e,hu⟩
 .rename_i k e hu;cases h;exact⟨k,e,hu⟩
 .rename_i n e hu;cases h;exact .inl ⟨e,hu⟩
 .rename_i a hu
  split at h
  .rename_i n e X5;cases h;exact .inr ⟨a,e,hu,X5⟩
  .cases h
 .cases h
def CP {u:TypeId}{size:Nat}{k:Ho}(h:CQ P u size=some k):CR P k u size:=by
 unfold CQ at h
 split at h
 .rename_i e hu;cases h;exact⟨e,hu⟩
 .rename_i hu;simp only[aO,aDZ]at h
  split at h
  .rename_i hs;cases h;exact⟨hu,hs⟩
  .cases h
 .rename_i j hu;cases h;exact⟨j,hu⟩
 .cases h
def te {t:TypeId}{u:TypeDesc}(hu:P.underlying t=some u):(isAgg t).run P w=.ok (im u) w:=by
 cases u<;>simp[isAgg,aDC hu,im]
def gV {t:TypeId}{i:TypeInfo}(hi:P.info? t=some i):(Go.sizeOf t).run P w=.ok i.size w:=abc
def wj {b:Builtin}{ats:Array TypeId}{args:Array Operand}{op:Bq}{ty:TypeId}{cs:Array Bool}(h:sy P b ats.toList args.toList=some op)(hr:de call op fr st=.ok v st')(hw:WR ρ st w)(hf:FR ρ fr a.tmps):
 Jy P (builtin b ats ty cs (args.map a.eval)) ρ st w v st':=by
 obtain⟨ats⟩:=ats;obtain⟨args⟩:=args;rw[show Array.map a.eval ⟨args⟩=(args.map a.eval).toArray from rq];unfold sy at h
 split at h
 .rename_i t r x ht hx;cases ht;cases hx
  split at h
  .rename_i k x' hk A9;cases h;have:=IC (P:=P) (ty:=ty) hr hw (bq A9 hf) (DF hk) (t::r).toArray rq;exact this.ib
  .cases h
 .rename_i t r x ht hx;cases ht;cases hx
  split at h
  .rename_i e x' hk A9;cases h;exact(IE (P:=P) (ty:=ty) hr hw (bq A9 hf) hk (t::r).toArray rq).ib
  .cases h
 .rename_i t u s x ht hx;cases ht;cases hx
  split at h
  .rename_i e s' x' hu uh A9
   split at h
   .rename_i i hi
    split at h
    .rename_i z k hz hk;rw[aO]at h
     split at h
     .rename_i hzf;cases h;obtain⟨z',z1,z2,z3⟩:=jF hz;have:=A7 (P:=P) (t:=t) (u:=u) (ty:=ty) hr hw (bq uh hf) (bq A9 hf) (CP hk) hu hi z1 rfl z2 z3 rfl (λhkz=>by subst hkz;simpa[EA]using hzf);exact this.ib
     .cases h
    .cases h
   .cases h
  .cases h
 .rename_i t u d s ht hx;cases ht;cases hx
  split at h
  .rename_i e su d' s' hu hsu uP uh
   split at h
   .rename_i i e2 hi;cases h;have:=xK (P:=P) (dT:=t) (sT:=u) (ty:=ty) hr hw (bq uP hf) (bq uh hf) hu hi rfl (λe=>by cases e);exact this.ib
   .rename_i i hi;simp only[aO,aDZ]at h
    split at h
    .rename_i h1;cases h;have:=xK (P:=P) (dT:=t) (sT:=u) (ty:=ty) hr hw (bq uP hf) (bq uh hf) hu hi rfl (λ_=>h1);exact this.ib
    .cases h
   .cases h
  .cases h
 .rename_i t x ht hx;cases ht;cases hx
  split at h
  .rename_i e x' hu A9
   split at h
   .rename_i i hi
    split at h
    .rename_i z hz;cases h;obtain⟨z',z1,z2,z3⟩:=jF hz;have:=Ds (P:=P) (t:=t) (ty:=ty) hr hw (bq A9 hf) hu hi z1 z3;exact this.ib
    .cases h
   .cases h
  .cases h
 .rename_i x y hx;cases hx
  split at h
  .rename_i x' y' A9 hy';cases h;have:=BI (P:=P) (mx:=true) (ats:=ats.toArray) (ty:=ty) hr hw (bq A9 hf) (bq hy' hf);exact bE.ib (s:=Builtin.max_ ats.toArray ty #[a.eval x,a.eval y]) this
  .cases h
 .rename_i x y hx;cases hx
  split at h
  .rename_i x' y' A9 hy';cases h;have:=BI (P:=P) (mx:=false) (ats:=ats.toArray) (ty:=ty) hr hw (bq A9 hf) (bq hy' hf);exact bE.ib (s:=Builtin.min_ ats.toArray ty #[a.eval x,a.eval y]) this
  .cases h
 .rename_i t r m k ht hx;cases ht;cases hx
  split at h
  .rename_i e d m' k' hk yA u7;cases h;obtain⟨kt,k1,k2,k3⟩:=nY hk;have:=A5 (P:=P) (ty:=ty) (ats:=(t::r).toArray) rq hr hw (bq yA hf) (bq u7 hf) k1 k2 pX k3;exact this.ib
  .cases h
 .cases h
end
section
variable {f:FuncId}{o:Oper}{next:Act->World->Prop}{Q:Exit->Act->World->Prop}
section
variable {P:Program} {ρ:Ren} {st st':St} {w:World} {v:CV} {fr:Fr} {a:Act} {call:fW}
def CX (args:Array Value)(h:gR P f=true):(callFunc f args).run P w=.ok (.enter f args) w:=by
 unfold gR at h
 split at h
 .rename_i fn hfn;simp only[aDK,aGc]at h;have h1:¬(fn.name== "runtime.NumGoroutine")=true:=by rw[h.1];simp
  have h2:¬fn.body.isNone=true:=by
   have:=h.2;cases hb:fn.body<;>simp_all
  simp only[callFunc,Sem.run_bind,run_program,Result.andThen_ok,hfn];rw[aDv h1,aDv h2]
  rfl
 .cases h
def BB {first captured:Array Value}{x:Operand}{args:Array Operand}{ats:Array TypeId}{dst:Option Tmp}{ty:TypeId}{pos:String}{after:Array Edge}{guard:Option (Nat×Bool)}
 (hx:a.eval x=.func (.func f) first captured):
 (execOp a.eval {dst,op:=.call {callee:=.value x,args,argTypes:=ats},type:=ty,pos,after,guard}).run P w=(callFunc f (first++args.map a.eval++captured)).run P w:=by
 have e:execOp a.eval {dst,op:=.call {callee:=.value x,args,argTypes:=ats},type:=ty,pos,after,guard}=
  (do let d<-Deferred.ofValue (a.eval x) (args.map a.eval);invoke d.target d.args):=rfl
 rw[e,hx];simp only[Deferred.ofValue,Sem.run_bind,Sem.run_pure,Result.andThen_ok,invoke]
def QQ {args:List CV}{args':Array Value}(hc:iV P call)(hr:call f args st=.ok v st')(hw:WR ρ st w)(ha:eF ρ args args'.toList)
 (jM:(execOp a.eval o).run P w=(callFunc f args').run P w) (hn:∀v' w' ρ',VR ρ' v v'->bh ρ st w ρ' st' w'->next (a.put o.dst v') w'):o.wp P a w next Q:=by
 rcases hc f args st v st' hr with⟨h1,h2⟩|⟨h1,h2⟩
 .unfold Oper.wp;rw[jM,CX _ h1,Oper.upon_enter];refine(h2 ρ w args' hw ha).mono ?_;rintro e w' ⟨v',ρ',rfl,hv,hA⟩;exact hn v' w' ρ' hv hA
 .subst h1;obtain⟨v',h3,h4⟩:=h2 ρ w args' hw ha;unfold Oper.wp;rw[jM,h3,Oper.upon_value];exact hn v' w ρ h4 (bh.refl hw)
def MH {f:CV}{args:List CV}(hr:wS call f args st=.ok v st'){f':Value}(hf:VR ρ f f'){args':List Value}(ha:eF ρ args args'):
 ∃g first captured,f'=.func (.func g) first captured/\∃l,call g l st=.ok v st'/\eF ρ l (first++args'.toArray++captured).toList:=by
 unfold wS at hr
 split at hr
 .rename_i g fi ca;cases hf with
  |func _ _ _ f' c' hf hc h1 h2=>
   refine⟨g,f'.toArray,c'.toArray,rfl,_,hr,?_⟩;have:=(eF.mk (ρ:=ρ) hf h1).app (ha.app (eF.mk (ρ:=ρ) hc h2))
   simpa using this
 .cases hr
def Ed (hc:iV P call){op:Bq}(h:mj P o.op=some op)(hr:de call op fr st=.ok v st')(hw:WR ρ st w)(hf:FR ρ fr a.tmps)
 (hn:∀v' w' ρ',VR ρ' v v'->bh ρ st w ρ' st' w'->next (a.put o.dst v') w'):o.wp P a w next Q:=by
 obtain⟨dst,oop,ty,pos,after,guard⟩:=o;have fin:∀{s:Sem Next},s=execOp a.eval ⟨dst,oop,ty,pos,after,guard⟩->Jy P s ρ st w v st'->Oper.wp P ⟨dst,oop,ty,pos,after,guard⟩ a w next Q:=λe hd=>vM (e▸hd) hn;dsimp only at h;unfold mj at h
 split at h
 .rename_i x
  split at h
  .rename_i x' hx;cases h;cases hr;exact fin rfl ⟨.value (a.eval x),a.eval x,w,ρ,rfl,.inl rfl,bq hx hf,bh.refl hw⟩
  .cases h
 .rename_i x
  split at h
  .rename_i x' hx;cases h;cases hr;exact fin rfl ⟨.value (a.eval x),a.eval x,w,ρ,rfl,.inl rfl,bq hx hf,bh.refl hw⟩
  .cases h
 .split at h
  .rename_i h1 h2 h3;cases h;exact fin rfl (Fz hr hw (bq h1 hf) (bq h2 hf) (bq h3 hf))
  .cases h
 .split at h
  .rename_i i hi
   split at h
   .rename_i z hz;cases h;obtain⟨z',z1,z2,z3⟩:=jF hz;exact fin rfl (Dv hr hw hi z1 z3).ib
   .cases h
  .cases h
 .split at h
  .rename_i hx;cases h;exact fin rfl (IF hr hw (bq hx hf)).ib
  .cases h
 .split at h
  .rename_i fs i hu hi
   split at h
   .rename_i z ps hz hp fk;cases h;obtain⟨z',z1,z2,z3⟩:=jF hz;have Vo:=nv hp hf;refine fin rfl (A6 hr hw hu hi z1 z3 acg (λf hfm=>?_)).ib;have:=aFu.1 fk f hfm;exact Option.isSome_iff_exists.1 this
   .cases h
  .rename_i n e i hu hi
   split at h
   .rename_i j hj
    split at h
    .rename_i z ps hz hp;cases h;obtain⟨z',z1,z2,z3⟩:=jF hz;have Vo:=nv hp hf;exact fin rfl (Dt hr hw hu hi z1 z3 hj acg).ib
    .cases h
   .cases h
  .cases h
 .split at h
  .rename_i e hu
   split at h
   .rename_i i hi;simp only[aO,aDW]at h
    split at h
    .rename_i hle
     split at h
     .rename_i z ps hz hp;cases h;obtain⟨z',z1,z2,z3⟩:=jF hz;have Vo:=nv hp hf;exact fin rfl (vJ hr hw hu hi z1 z2 z3 acg hle).ib
     .cases h
    .cases h
   .cases h
  .cases h
 .split at h
  .rename_i u i x' hu hi hx;rw[aO]at h
   split at h
   .rename_i ha;cases h;exact fin rfl (Dm hr hw (bq hx hf) (by rw[te hu,ha]) (gV hi)).ib
   .rename_i ha;cases h;exact fin rfl (Dn hr hw (bq hx hf) aaZ).ib
  .cases h
 .split at h
  .rename_i i x' y' hi hx hy;cases h;exact fin rfl (Dj hr hw (bq hx hf) (bq hy hf) (gV hi)).ib
  .cases h
 .rename_i x
  split at h
  .rename_i x' hx;cases h;exact vM (IB (o:=⟨dst,.nilCheck x,ty,pos,after,guard⟩) hr hw (bq hx hf) rfl rfl) hn
  .cases h
 .rename_i op2 t x y yt
  split at h
  .rename_i x' y' hx hy;cases h;refine fin rfl (IG (X:=x) (Y:=y) (f:=40) hr hw (bq hx hf) (bq hy hf) (λe he=>(Aj he).1) pX rfl (λe he=>(Aj he).2)).ib
  .cases h
 .split at h
  .rename_i x' hx;cases h;exact fin rfl (LH hr hw (bq hx hf)).ib
  .cases h
 .split at h
  .rename_i c x' hk hx;cases h;exact fin rfl (FE hr hw (bq hx hf) (Bl hk)).ib
  .cases h
 .split at h
  .rename_i hu hx;cases h;exact fin rfl (Fy hr hw (bq hx hf) hu).ib
  .cases h
 .split at h
  .rename_i hk hx;cases h;exact fin rfl (Dp hr hw (bq hx hf) hk).ib
  .cases h
 .split at h
  .rename_i h1 h2;cases h;exact fin rfl (FC hr hw (by rw[aEZ];exact oT h1 hf) (by rw[aEZ];exact oT h2 hf)).ib
  .cases h
 .split at h
  .rename_i hu h1;cases h;exact fin rfl (Dl hr hw (fH h1 hf) hu).ib
  .cases h
 .split at h
  .rename_i e l' c' hu h1 h2
   split at h
   .rename_i i hi
    split at h
    .rename_i z hz;cases h;obtain⟨z',z1,z2,z3⟩:=jF hz;exact fin rfl (FA hr hw (bq h1 hf) (bq h2 hf) hu hi z1 rfl z2 z3).ib
    .cases h
   .cases h
  .cases h
 .rename_i t x lo hi mx
  split at h
  .rename_i x' lr ff hu hx Eu HG TA;cases h;have hm:=fH (ρ:=ρ) TA hf;cases mx with
   |some m=>exact False.elim hm
   |none=>exact fin rfl (yg hr hw (bq hx hf) (fH Eu hf) (fH HG hf) hu).ib
  .rename_i e x' lr ff hu hx Eu HG TA;have hm:=fH (ρ:=ρ) TA hf;cases mx with
   |some m=>exact False.elim hm
   |none=>
    split at h
    .rename_i i xW;cases h;exact fin rfl (zt hr hw (bq hx hf) (fH Eu hf) (fH HG hf) hu (gV xW)).ib
    .cases h
  .rename_i e x' lr ff mx' hu hx Eu HG TA;have hm:=fH (ρ:=ρ) TA hf;have hh:=fH (ρ:=ρ) HG hf;cases mx with
   |none=>exact False.elim hm
   |some m=>
    cases hi with
    |none=>exact False.elim hh
    |some h2=>
     split at h
     .rename_i i xW;cases h;exact fin rfl (A0 hr hw (bq hx hf) (fH Eu hf) hh hm hu (gV xW)).ib
     .cases h
  .rename_i n e x' lr ff hu hx Eu HG TA;have hm:=fH (ρ:=ρ) TA hf;cases mx with
   |some m=>exact False.elim hm
   |none=>
    split at h
    .rename_i i xW;cases h;exact fin rfl (yh hr hw (bq hx hf) (fH Eu hf) (fH HG hf) hu (gV xW)).ib
    .cases h
  .cases h
 .split at h
  .rename_i fs x' hu hx
   split at h
   .rename_i fd TO
    split at h
    .rename_i i hi;simp only[aO,aDZ]at h
     split at h
     .cases h
     .rename_i hz;cases h;exact fin rfl (wR hr hw (bq hx hf) hu TO rfl (gV hi) hz).ib
    .cases h
   .cases h
  .cases h
 .split at h
  .rename_i fs x' hu hx
   split at h
   .rename_i fd TO
    split at h
    .rename_i i u hi hut;cases h;exact fin rfl (Dr hr hw (bq hx hf) hu TO hi hut).ib
    .cases h
   .cases h
  .cases h
 .split at h
  .rename_i n e x' i' hu hx hi
   split at h
   .rename_i j hj;cases h;exact fin rfl (A3 hr hw (bq hx hf) (bq hi hf) hu (gV hj)).ib
   .cases h
  .rename_i e x' i' hu hx hi
   split at h
   .rename_i j hj;cases h;exact fin rfl (Dq hr hw (bq hx hf) (bq hi hf) hu (gV hj)).ib
   .cases h
  .cases h
 .split at h
  .rename_i x' i' hu hx hi;cases h;exact fin rfl (A2 hr hw (bq hx hf) (bq hi hf) hu).ib
  .rename_i n e x' i' hu hx hi
   split at h
   .rename_i j u hj M5;cases h;exact fin rfl (A4 hr hw (bq hx hf) (bq hi hf) hu hj M5).ib
   .cases h
  .cases h
 .split at h
  .rename_i e d x' k' hk hx HF
   split at h
   .rename_i i hi
    split at h
    .rename_i z hz;cases h;obtain⟨kt,k1,k2,k3⟩:=nY hk;obtain⟨z',z1,z2⟩:=Br hz;exact fin rfl (A1 hr hw (bq hx hf) (bq HF hf) k1 k2 pX k3 hi z1 (z2 ρ)).ib
    .cases h
   .cases h
  .cases h
 .split at h
  .rename_i e d m' k' x' hk hm HF hx;cases h;obtain⟨kt,k1,k2,k3⟩:=nY hk;exact fin rfl (pE hr hw (bq hm hf) (bq HF hf) (bq hx hf) k1 k2 pX k3).ib
  .cases h
 .split at h
  .rename_i e d m' k' x' hk hm HF hx;cases h;obtain⟨kt,k1,k2,k3⟩:=nY hk;exact fin rfl (pE hr hw (bq hm hf) (bq HF hf) (bq hx hf) k1 k2 pX k3).ib
  .cases h
 .split at h
  .rename_i e d m' k' hk hm HF
   split at h
   .rename_i i hi
    split at h
    .rename_i z hz;cases h;obtain⟨kt,k1,k2,k3⟩:=nY hk;obtain⟨z',z1,z2⟩:=Br hz;exact fin rfl (yi hr hw (bq hm hf) (bq HF hf) k1 k2 pX k3 hi z1 (z2 ρ)).ib
    .cases h
   .cases h
  .cases h
 .split at h
  .rename_i m' s' x' hm hs hx;cases h;exact fin rfl (vH hr hw (bq hm hf) (bq hs hf) (bq hx hf)).ib
  .cases h
 .split at h
  .rename_i x' hx;cases h;exact fin rfl (zA hr hw (bq hx hf)).ib
  .cases h
 .exact fin rfl (wj h hr hw hf)
 .rename_i f args ats
  split at h
  .rename_i l hl;cases h;refine QQ (o:=⟨dst,.call {callee:=.value (.func f),args:=args,argTypes:=ats},ty,pos,after,guard⟩) hc hr hw (args':= #[]++args.map a.eval++ #[]) (by simpa using oT hl hf) (BB rfl) hn
  .cases h
 .rename_i f args ats hnf
  split at h
  .rename_i f' l hf' hl;cases h;obtain⟨g,first,captured,e1,l',e2,e3⟩:=MH hr (bq hf' hf) (oT hl hf);refine QQ (o:=⟨dst,.call {callee:=.value f,args:=args,argTypes:=ats},ty,pos,after,guard⟩) hc e2 hw (args':=first++args.map a.eval++captured) (by simpa using e3) (BB e1) hn
  .cases h
 .cases h
end
end
inductive Rs where
 |norm (fr:Fr) (st:St)
 |exit (id:Nat) (fr:Fr) (st:St)
 |ret (fr:Fr) (st:St)
 |bad
def fK (ops:Array Oper)(fr:Fr)(o:Oper):Option Bool:=
 match o.guard with
 |none=>some true
 |some (g,b)=>(match (ops[g]?).bind (·.dst)with
  |none=>some false
  |some d=>(match fC fr d with
   | .bool c=>some (bz b c (Bool.not c))
   | .undef=>some false
   |_=>none))
def mw (P:Program)(call:fW)(ops:Array Oper)(o:Oper)(fr:Fr)(st:St):OR:=
 match fK ops fr o with
 |some true=>(match mj P o.op with|some op=>de call op fr st|none=>.bad)
 |some false=>.ok .undef st
 |none=>.bad
section
variable {P:Program} {ρ:Ren} {st st':St} {w:World} {v:CV} {fr:Fr} {a:Act} {call:fW}
def iR {ops:Array Oper}{o:Oper}{b:Bool}(h:fK ops fr o=some b)(hf:FR ρ fr a.tmps):Region.wanted o (yielded ops a.tmps)=b:=by
 unfold fK at h;unfold Region.wanted
 split at h
 .rename_i hg;cases h;rw[hg]
 .rename_i g want hg;rw[hg];dsimp only;unfold yielded
  split at h
  .rename_i hd;cases h;rw[hd];rfl
  .rename_i d hd;rw[hd,Option.bind_some];have hv:=hf d
   split at h
   .rename_i c hc;cases h;rw[hc]at hv;cases htd:a.tmps[d]? with
    |none=>
     have:a.tmps.getD d Go.undef=Go.undef:=by simp[htd]
     rw[this]at hv;cases hv
    |some x=>
     have:a.tmps.getD d Go.undef=x:=by simp[htd]
     rw[this]at hv;cases hv;dsimp only;cases c<;>cases want<;>rfl
   .rename_i hc;cases h;rw[hc]at hv;cases htd:a.tmps[d]? with
    |none=>rfl
    |some x=>
     have:a.tmps.getD d Go.undef=x:=by simp[htd]
     rw[this]at hv;cases hv
     rfl
   .cases h
def rC (hc:iV P call){ops:Array Oper}{o:Oper}(h:mw P call ops o fr st=.ok v st')(hw:WR ρ st w)(hf:FR ρ fr a.tmps){next:Act->World->Prop}{Q:Exit->Act->World->Prop}
 (hn:∀v' w' ρ',VR ρ' v v'->bh ρ st w ρ' st' w'->next (a.put o.dst v') w'):
 if Region.wanted o (yielded ops a.tmps)then o.wp P a w next Q else next (a.put o.dst undef) w:=by
 unfold mw at h
 split at h
 .rename_i wG;rw[aDy (iR wG hf)]
  split at h
  .rename_i op DN;exact Ed hc DN h hw hf hn
  .cases h
 .rename_i wG;rw[aDv (by rw[iR wG hf];simp)];cases h;exact hn _ w ρ .undef (bh.refl hw)
 .cases h
end
def oW (P:Program)(call:fW)(n:Nat)(ops:Array Oper)(l:List Oper)(fr:Fr)(st:St):Rs:=
 match l with
 |[]=>.norm fr st
 |o::l=>match mw P call ops o fr st with
  | .ok v st=>(match o.dst with|none=>oW P call n ops l fr st|some d=>if d<n then oW P call n ops l (fr.put d (some v)) st else .bad)
  | .bad=>.bad
structure Rf (ρ:Ren)(st:St)(w:World)(n:Nat)(fr':Fr)(st':St)(a':Act)(w':World)(ρ':Ren):Prop where
 fr:FR ρ' fr' a'.tmps
 sz:n<=a'.tmps.size
 defers:a'.defers=[]
 after:bh ρ st w ρ' st' w'
def pR (ρ:Ren)(st:St)(w:World)(n:Nat)(r:Rs)(e:Exit)(a':Act)(w':World):Prop:=
 match r with
 | .norm fr' st'=>e=.normal/\∃ρ',Rf ρ st w n fr' st' a' w' ρ'
 | .exit id fr' st'=>e=.exit id/\∃ρ',Rf ρ st w n fr' st' a' w' ρ'
 | .ret fr' st'=>e=.ret/\∃ρ',Rf ρ st w n fr' st' a' w' ρ'
 | .bad=>False
def pR.step {ρ ρ1:Ren}{st gF:St}{w w1:World}{n:Nat}{r:Rs}{e:Exit}{a':Act}{w':World}(hA:bh ρ st w ρ1 gF w1)(h:pR ρ1 gF w1 n r e a' w'):pR ρ st w n r e a' w':=by
 cases r<;>simp only[pR]at h⊢
 .obtain⟨h1,ρ',h2⟩:=h;exact⟨h1,ρ',h2.fr,h2.sz,h2.defers,hA.trans h2.after⟩
 .obtain⟨h1,ρ',h2⟩:=h;exact⟨h1,ρ',h2.fr,h2.sz,h2.defers,hA.trans h2.after⟩
 .obtain⟨h1,ρ',h2⟩:=h;exact⟨h1,ρ',h2.fr,h2.sz,h2.defers,hA.trans h2.after⟩
def Fe (a:Act)(d:Option Tmp)(v:Value):(a.put d v).tmps.size=a.tmps.size:=by cases d<;>simp[Act.put]
def zk (a:Act)(d:Option Tmp)(v:Value):(a.put d v).defers=a.defers:=by cases d<;>rfl
section
variable {P:Program} {call:fW} {n:Nat} {ops:Array Oper}
def Ij (fr:Fr)(st:St):oW P call n ops [] fr st=.norm fr st:=rfl
def xI (o:Oper)(l:List Oper)(fr:Fr)(st:St):oW P call n ops (o::l) fr st=
 match mw P call ops o fr st with
 | .ok v st=>(match o.dst with|none=>oW P call n ops l fr st|some d=>if d<n then oW P call n ops l (fr.put d (some v)) st else .bad)
 | .bad=>.bad:=rfl
def FR.acq {ρ:Ren}{fr:Fr}{a:Act}(h:FR ρ fr a.tmps){d:Nat}(hd:d<a.tmps.size){v:CV}{v':Value}(hv:VR ρ v v'):FR ρ (fr.put (d) (some v)) (a.put (some d) v').tmps:=h.put hd hv
def CY (hc:iV P call)(l:List Oper):∀(fr:Fr) (st:St) (ρ:Ren) (a:Act) (w:World),oW P call n ops l fr st≠ .bad->WR ρ st w->FR ρ fr a.tmps->n<=a.tmps.size->a.defers=[]->
 wpList P ops (pR ρ st w n (oW P call n ops l fr st)) l a w:=by
 induction l with
 |nil=>intro fr st ρ a w _ hw hf hn hd;rw[Ij];exact wpList_nil ⟨rfl,ρ,hf,hn,hd,bh.refl hw⟩
 |cons o l ih=>
  intro fr st ρ a w hb hw hf hn hd;rw[xI]at hb⊢;cases hs:mw P call ops o fr st with
  |bad=>rw[hs]at hb;exact absurd rfl hb
  |ok v gF=>
   rw[hs]at hb;refine wpList_step λK hK=>rC hc hs hw hf λv' w' ρ' hv hA=>hK _ _ ?_;dsimp only at hb⊢
   have mono:∀{r:Rs} {l:List Oper} {a:Act} {w1:World},wpList P ops (pR ρ' gF w' n r) l a w1->wpList P ops (pR ρ st w n r) l a w1:=by
    intro r l
    induction l with
    |nil=>intro a w1 h;exact pR.step hA h
    |cons o l ih=>
     intro a w1 h;unfold wpList at h⊢
     split
     .rename_i wG;rw[aDy wG]at h;rcases h with h|⟨h1,a2,w2,h2⟩
      .left;unfold Oper.wp at h⊢;generalize (execOp a.eval o).run P w1=rr at h⊢;cases rr with
       |ok x w2=>
        cases x<;>simp only[Oper.upon]at h⊢<;>first
         |exact ih h
         |exact h.mono (λe w3 he=>by cases e<;>first|exact ih he|exact pR.step hA he|(obtain⟨a4,w4,h4⟩:=he;exact⟨a4,w4,pR.step hA h4⟩))
         |exact h.mono (λ_ _ he=>ih he)
       |halt x w2=>cases x<;>simp only[Oper.upon]at h⊢<;>exact pR.step hA h
      .exact .inr ⟨h1,a2,w2,pR.step hA h2⟩
     .rename_i wG;rw[aDv wG]at h;exact ih h
   cases aeV:o.dst with
   |none=>
    rw[aeV]at hb;refine mono (ih fr gF ρ' (a.put none v') w' hb hA.wr (hf.mono hA.ext) hn hd)
   |some d=>
    rw[aeV]at hb;dsimp only at hb⊢
    split at hb
    .rename_i RI;rw[aDy RI];exact mono (ih _ gF ρ' (a.put (some d) v') w' hb hA.wr ((hf.mono hA.ext).acq (aDM RI hn) hv) (by rw[Fe];exact hn) (by rw[zk];exact hd))
    .exact absurd rfl hb
end
section
variable {x:Code}{f:Fr->St->Rs}{L:Option (List Nat)}{t:TypeId}{p:CV}{p':Value}
abbrev yd:=fW->Nat->Array Oper->Fr->St->Rs
def tY (r:Rs)(k:Fr->St->Rs):Rs:=match r with| .norm fr st=>k fr st| .exit id fr st=>.exit id fr st| .ret fr st=>.ret fr st| .bad=>.bad
def rX (id:Nat)(r:Rs):Rs:=match r with| .norm fr st=>.norm fr st| .exit i fr st=>bz (Nat.beq i id) (.norm fr st) (.exit i fr st)| .ret fr st=>.ret fr st| .bad=>.bad
def JY:List Nat->List CV->Fr
 |[],_=>λ_=>some .any
 |l::L,vs=>PT.put (JY L (vs.drop 1)) l (some (vs.headD .any))
def HJ:Code->Nat
 | .region id _ _=>id
 | .seq x _=>HJ x
 | .cond _ x _=>HJ x
 | .block _ x=>HJ x
 | .loop x=>HJ x
 | .scope x=>HJ x
 |_=>0
def xu (L:Option (List Nat))(fr:Fr):Fr:=match L with|none=>fr|some L=>JY L (L.map (fC fr))
def xN (body:Fr->St->Rs)(L:Option (List Nat)):Nat->Fr->St->Rs
 |0,_,_=>.bad
 |n+1,fr,st=>tY (body (xu L fr) st) (xN body L n)
def Cr (c:Operand)(x y:Fr->St->Rs)(fr:Fr)(st:St):Rs:=
 match eX c with|some c=>(match ev fr c with| .bool t=>bz t (x fr st) (y fr st)|_=>.bad)|none=>.bad
def lR (P:Program)(call:fW)(dr:yd)(lv:Nat->Option (List Nat))(fuel n:Nat)(c:Code)(fr:Fr)(st:St):Rs:=
 match c with
 | .skip=>.norm fr st
 | .region _ ops draw=>bz draw (dr call n ops fr st) (oW P call n ops ops.toList fr st)
 | .seq x y=>tY (lR P call dr lv fuel n x fr st) (λfr st=>lR P call dr lv fuel n y (xu (lv (HJ y)) fr) st)
 | .cond c x y=>Cr c (lR P call dr lv fuel n x) (lR P call dr lv fuel n y) fr st
 | .block id x=>rX id (lR P call dr lv fuel n x fr st)
 | .loop x=>xN (lR P call dr lv fuel n x) (lv (HJ x)) fuel fr st
 | .exit id=>.exit id fr st
 | .scope x=>lR P call dr lv fuel n x fr st
 | .label _=>.norm fr st
 | .ret=>.ret fr st
 |_=>.bad
def tD (P:Program)(dr:yd):Prop:=
 ∀(call:fW) (n:Nat),iV P call->∀(id:Nat) (ops:Array Oper) (fr:Fr) (st:St) (ρ:Ren) (a:Act) (w:World),dr call n ops fr st≠ .bad->WR ρ st w->FR ρ fr a.tmps->n<=a.tmps.size->a.defers=[]->
  (Code.region id ops true).wp P (pR ρ st w n (dr call n ops fr st)) a w
section
variable {P:Program} {call:fW} {dr:yd} {n:Nat} {lv:Nat->Option (List Nat)} {fuel:Nat}
def Ok (P:Program)(n:Nat)(c:Code)(f:Fr->St->Rs):Prop:=
 ∀(fr:Fr) (st:St) (ρ:Ren) (a:Act) (w:World),f fr st≠ .bad->WR ρ st w->FR ρ fr a.tmps->n<=a.tmps.size->a.defers=[]->c.wp P (pR ρ st w n (f fr st)) a w
def NL {y:Code}{g:Fr->St->Rs}(hx:Ok P n x f)(hy:Ok P n y g):Ok P n (.seq x y) (λfr st=>tY (f fr st) g):=by
 intro fr st ρ a w hb hw hf hn hd;have h1:=hx fr st ρ a w;refine wp_seq ?_;dsimp only at hb⊢;generalize f fr st=r at hb h1⊢;cases r with
 |bad=>exact absurd rfl hb
 |norm mg gF=>
  refine wp_mono (h1 rq hw hf hn hd) ?_;rintro e a1 w1 ⟨rfl,ρ1,hp⟩;exact wp_mono (hy mg gF ρ1 a1 w1 hb hp.after.wr hp.fr hp.sz hp.defers) (λe a w h=>pR.step hp.after h)
 |exit id mg gF=>
  refine wp_mono (h1 rq hw hf hn hd) ?_;rintro e a1 w1 ⟨rfl,hp⟩;exact⟨rfl,hp⟩
 |ret mg gF=>
  refine wp_mono (h1 rq hw hf hn hd) ?_;rintro e a1 w1 ⟨rfl,hp⟩;exact⟨rfl,hp⟩
def F7 {id:Nat}(hx:Ok P n x f):Ok P n (.block id x) (λfr st=>rX id (f fr st)):=by
 intro fr st ρ a w hb hw hf hn hd;have h1:=hx fr st ρ a w;refine wp_block ?_;dsimp only at hb⊢;generalize f fr st=r at hb h1⊢;cases r with
 |bad=>exact absurd rfl hb
 |norm mg gF=>
  refine wp_mono (h1 rq hw hf hn hd) ?_;rintro e a1 w1 ⟨rfl,hp⟩;exact⟨rfl,hp⟩
 |exit i mg gF=>
  refine wp_mono (h1 rq hw hf hn hd) ?_;rintro e a1 w1 ⟨rfl,hp⟩;have e0:rX id (.exit i mg gF)=bz (Nat.beq i id) (.norm mg gF) (.exit i mg gF):=rfl;rw[e0];simp only[aO,aDZ,Exit.inBlock]
  by_cases hi:i=id
  .simp only[aDy hi];exact⟨rfl,hp⟩
  .simp only[aDv hi];exact⟨rfl,hp⟩
 |ret mg gF=>
  refine wp_mono (h1 rq hw hf hn hd) ?_;rintro e a1 w1 ⟨rfl,hp⟩;exact⟨rfl,hp⟩
def Qs (ρ:Ren)(fr:Fr)(tmps:Array Value)(h:FR ρ fr tmps):∀(L:List Nat),FR ρ (JY L (L.map (fC fr))) tmps:=by
 intro L
 induction L with
 |nil=>intro t;exact .any _
 |cons l L ih=>
  intro t;show VR ρ (fC (PT.put (JY L ((fC fr l::L.map (fC fr)).drop 1)) l (some (fC fr l))) t) _
  by_cases e:t=l
  .subst e;rw[mq];exact h t
  .rw[mG _ _ _ _ e];exact ih t
def KM {ρ:Ren}{fr:Fr}{tmps:Array Value}(h:FR ρ fr tmps):FR ρ (xu L fr) tmps:=by
 cases L with
 |none=>exact h
 |some L=>exact Qs ρ fr tmps h L
def DE (hx:Ok P n x f):∀(k:Nat) (fr:Fr) (st:St) (ρ:Ren) (a:Act) (w:World),xN f L k fr st≠ .bad->WR ρ st w->FR ρ fr a.tmps->n<=a.tmps.size->a.defers=[]->
 Code.rounds P x (pR ρ st w n (xN f L k fr st)) k a w:=by
 intro k
 have mono:∀{Q Q':Exit->Act->World->Prop} (h:∀e a w,Q e a w->Q' e a w) (k:Nat) (a:Act) (w:World),Code.rounds P x Q k a w->Code.rounds P x Q' k a w:=by
  intro Q Q' h k
  induction k with
  |zero=>intro a w hh;exact hh
  |succ k ih=>
   intro a w hh;rw[rounds_succ]at hh⊢;refine wp_mono hh ?_;intro e a w hq;cases e<;>first|exact ih _ _ hq|exact h _ _ _ hq
 induction k with
 |zero=>intro fr st ρ a w hb;exact absurd rfl hb
 |succ k ih=>
  intro Ag st ρ a w hb hw hf0 hn hd;have hf:=KM (L:=L) hf0;have e:xN f L (k+1) Ag st=tY (f (xu L Ag) st) (xN f L k):=rfl;rw[e]at hb⊢;generalize xu L Ag=fr at hf hb⊢;rw[rounds_succ];cases hr:f fr st with
  |bad=>rw[hr]at hb;exact absurd rfl hb
  |norm mg gF=>
   have h1:=hx fr st ρ a w (by rw[hr];simp) hw hf hn hd;rw[hr]at h1 hb;refine wp_mono h1 ?_;rintro e a1 w1 ⟨rfl,ρ1,hp⟩;exact mono (λe a w h=>pR.step hp.after h) k a1 w1 (ih mg gF ρ1 a1 w1 hb hp.after.wr hp.fr hp.sz hp.defers)
  |exit id mg gF=>
   have h1:=hx fr st ρ a w (by rw[hr];simp) hw hf hn hd;rw[hr]at h1;refine wp_mono h1 ?_;rintro e a1 w1 ⟨rfl,hp⟩;exact⟨rfl,hp⟩
  |ret mg gF=>
   have h1:=hx fr st ρ a w (by rw[hr];simp) hw hf hn hd;rw[hr]at h1;refine wp_mono h1 ?_;rintro e a1 w1 ⟨rfl,hp⟩;exact⟨rfl,hp⟩
def Uk (hc:iV P call)(PM:tD P dr)(c:Code):Ok P n c (lR P call dr lv fuel n c):=by
 induction c with
 |skip=>intro fr st ρ a w _ hw hf hn hd;exact wp_skip ⟨rfl,ρ,hf,hn,hd,bh.refl hw⟩
 |region id ops draw=>
  intro fr st ρ a w hb hw hf hn hd;cases draw with
  |true=>exact PM call n hc id ops fr st ρ a w hb hw hf hn hd
  |false=>exact wp_region_list (CY hc ops.toList fr st ρ a w hb hw hf hn hd)
 |seq x y hx hy=>exact NL hx (λfr st ρ a w hb hw hf hn hd=>hy _ st ρ a w hb hw (KM hf) hn hd)
 |cond c x y hx hy=>
  intro fr st ρ a w hb hw hf hn hd;have e:lR P call dr lv fuel n (.cond c x y) fr st=Cr c (lR P call dr lv fuel n x) (lR P call dr lv fuel n y) fr st:=rfl;rw[e]at hb⊢;unfold Cr at hb⊢;cases GB:eX c with
  |none=>rw[GB]at hb;exact absurd rfl hb
  |some c'=>
   rw[GB]at hb;have hev:=bq GB hf;dsimp only at hb⊢;generalize A9:ev fr c'=cv at hb hev⊢;cases cv with
   |bool t=>
    generalize Es:a.eval c=cv' at hev;cases hev;cases t with
    |true=>exact wp_cond_true Es (hx fr st ρ a w hb hw hf hn hd)
    |false=>exact wp_cond_false Es (hy fr st ρ a w hb hw hf hn hd)
   |_=>exact absurd rfl hb
 |block id x hx=>exact F7 hx
 |loop x hx=>intro fr st ρ a w hb hw hf hn hd;exact wp_loop_rounds fuel (DE hx fuel fr st ρ a w hb hw hf hn hd)
 |rangeFunc f ps x y hx hy=>intro fr st ρ a w hb;exact absurd rfl hb
 |exit id=>intro fr st ρ a w _ hw hf hn hd;exact wp_exit ⟨rfl,ρ,hf,hn,hd,bh.refl hw⟩
 |scope x hx=>
  intro fr st ρ a w hb hw hf hn hd;refine wp_scope_straight (wp_mono (hx fr st ρ a w hb hw hf hn hd) ?_);intro e a1 w1 h;have e0:lR P call dr lv fuel n (.scope x) fr st=lR P call dr lv fuel n x fr st:=rfl;rw[e0];cases e with
  |goto l=>
   unfold pR at h
   split at h
   .exact absurd h.1 rq
   .exact absurd h.1 rq
   .exact absurd h.1 rq
   .exact h.elim
  |_=>exact h
 |label l=>intro fr st ρ a w _ hw hf hn hd;exact wp_label ⟨rfl,ρ,hf,hn,hd,bh.refl hw⟩
 |goto l=>intro fr st ρ a w hb;exact absurd rfl hb
 |ret=>intro fr st ρ a w _ hw hf hn hd;exact wp_ret ⟨rfl,ρ,hf,hn,hd,bh.refl hw⟩
 |refuse y=>intro fr st ρ a w hb;exact absurd rfl hb
end
def qE (args:List CV):Fr:=λt=>args[t]?
def Jl {ρ:Ren}{args:List CV}{args':Array Value}(h:eF ρ args args'.toList)(k:Nat):FR ρ (qE args) (args'++Array.replicate k undef):=by
 intro t;have hlen:args.length=args'.size:=by rw[h.len];simp
 by_cases ht:t<args.length
 .have h1:args[t]?=some args[t]:=by simp[ht]
  have h2:args'.toList[t]?=some (args'[t]' pX):=rq
  have h3:=h.at' t _ _ h1 h2
  have h4:(args'++Array.replicate k undef).getD t Go.undef=args'[t]'(by omega):=by
   simp[aFW,show t<args'.size from pX]
  have h5:fC (qE args) t=args[t]:=by show(Option.rec _ _ (args[t]?):CV)=_;rw[h1]
  rw[h4,h5];exact h3
 .have h4:(args'++Array.replicate k undef).getD t Go.undef=Go.undef:=by
   simp only[Array.getD_eq_getD_getElem?,aFW,aDv (show¬t<args'.size by omega),Array.getElem?_replicate]
   split<;>rfl
  have h5:fC (qE args) t=.undef:=by show(Option.rec _ _ (args[t]?):CV)=_;rw[aEl pX]
  rw[h4,h5];exact .undef
def BC (P:Program)(fr:Fr)(st:St)(r:ResultVar):Option CV:=
 match r with
 | .tmp t=>some (fC fr (t))
 | .cell a t=>(match P.underlying t,P.info? t with
   |some u,some i=>(match bz (im u) (aK i.size (fC fr (a)) st) (aB (fC fr (a)) st)with| .ok v _=>some v| .bad=>none)
   |_,_=>none)
def Il (P:Program)(fr:Fr)(st:St)(l:List ResultVar):Option (List CV):=
 List.rec (some []) (λr _ ih=>match BC P fr st r,ih with|some v,some l=>some (v::l)|_,_=>none) l
def AY (P:Program)(fr:Fr)(st:St)(l:List ResultVar):OR:=
 match Il P fr st l with
 |some []=>.ok .undef st
 |some [v]=>.ok v st
 |some l=>.ok (.tuple l) st
 |none=>.bad
def Eb (P:Program)(dr:yd)(lv:Nat->Nat->Option (List Nat))(fuel:Nat)(call:fW)(f:Nat)(args:List CV)(st:St):OR:=
 bz (gR P f) (match P.funcs[f]? with
  |some fn=>(match fn.body with
   |some c=>(match lR P call dr (lv f) fuel fn.ntmps c (qE args) st with
    | .norm fr st=>AY P fr st fn.results.toList
    | .exit _ _ _=>.bad
    | .ret fr st=>AY P fr st fn.results.toList
    | .bad=>.bad)
   |none=>.bad)
  |none=>.bad) .bad
section
variable {P:Program} {call:fW} {dr:yd} {ρ:Ren} {st st':St} {w:World} {fr:Fr} {a:Act} {v:CV}
def LY (h:aB p st=.ok v st')(hw:WR ρ st w)(hp:VR ρ p p')(ht:(isAgg t).run P w=.ok false w):
 ∃v',(do loadVar t (<-asAddr p'):Sem Value).run P w=.ok v' w/\VR ρ v v':=by
 unfold aB at h
 split at h
 .rename_i b off
  split at h
  .rename_i s t' g hm;cases hx:s[off]? with
   |none=>rw[hx]at h;cases h
   |some x=>
    rw[hx]at h;cases h;cases hp with
    |ptr _ _ r sz hr=>
     obtain⟨c,lo,hi,e1,e2,e3,e4,e5⟩:=hw.row hm hr;obtain⟨x',g1,g2⟩:=sU e4 hx;refine⟨_,?_,g2⟩;simp[asAddr,loadVar,ht,nk P w r off c t' (lo,hi) x' e1 (vp g1),-run_load]
  .rename_i s o0 hm;cases hx:s[off]? with
   |none=>rw[hx]at h;cases h
   |some x=>
    rw[hx]at h;cases h;cases hp with
    |ptr _ _ r sz hr=>
     obtain⟨c,t',lo,hi,e1,e2,e3,e4⟩:=hw.Om hm hr;obtain⟨x',g1,g2⟩:=sU e4 hx;refine⟨_,?_,g2⟩;simp[asAddr,loadVar,ht,nk P w r off c t' (lo,hi) x' e1 (vp g1),-run_load]
  .cases h
 .cases h
def LX {n:Nat}(h:aK n p st=.ok v st')(hw:WR ρ st w)(hp:VR ρ p p')(ht:(isAgg t).run P w=.ok true w)
 (hn:(Go.sizeOf t).run P w=.ok n w):∃v',(do loadVar t (<-asAddr p'):Sem Value).run P w=.ok v' w/\VR ρ v v':=by
 unfold aK at h
 split at h
 .rename_i b off
  split at h
  .rename_i s t' g hm;cases hx:ia s off n with
   |none=>rw[hx]at h;cases h
   |some x=>
    rw[hx]at h;cases h;cases hp with
    |ptr _ _ r sz hr=>
     obtain⟨c,lo,hi,e1,e2,e3,e4,e5⟩:=hw.row hm hr;obtain⟨g1,g2⟩:=jL hx;refine⟨.agg ((c.toList.drop off).take n).toArray,?_,(VR.Ek ?_)⟩
     .simp[asAddr,loadVar,ht,hn,dW P w r off n c t' (lo,hi) e1 pX]
     .rw[show x=(s.drop off).take n from g2]
      have e:(c.toList.drop off).take n=((c.toList.take s.length).drop off).take n:=by
       rw[aFi,aEH,aEi pX]
      rw[e];exact(e4.drop off).take n
  .rename_i s o0 hm;cases hx:ia s off n with
   |none=>rw[hx]at h;cases h
   |some x=>
    rw[hx]at h;cases h;cases hp with
    |ptr _ _ r sz hr=>
     obtain⟨c,t',lo,hi,e1,e2,e3,e4⟩:=hw.Om hm hr;obtain⟨g1,g2⟩:=jL hx;refine⟨.agg ((c.toList.drop off).take n).toArray,?_,(VR.Ek ?_)⟩
     .simp[asAddr,loadVar,ht,hn,dW P w r off n c t' (lo,hi) e1 pX]
     .rw[show x=(s.drop off).take n from g2]
      have e:(c.toList.drop off).take n=((c.toList.take s.length).drop off).take n:=by
       rw[aFi,aEH,aEi pX]
      rw[e];exact(e4.drop off).take n
  .cases h
 .cases h
def Da (a:Act)(r:ResultVar):Sem Value:=match r with| .tmp t=>pure (a.tmps.getD t undef)| .cell ad t=>do loadVar t (<-asAddr (a.tmps.getD ad undef))
def E7 {r:ResultVar}{v:CV}(h:BC P fr st r=some v)(hw:WR ρ st w)(hf:FR ρ fr a.tmps):
 ∃v',(Da a r).run P w=.ok v' w/\VR ρ v v':=by
 unfold BC at h
 split at h
 .rename_i t;cases h;exact⟨_,rfl,hf t⟩
 .rename_i ad t
  split at h
  .rename_i u i hu hi;have hp:=hf ad;rw[aO]at h
   by_cases ha:im u=true
   .rw[aDy ha]at h
    split at h
    .rename_i v1 gF hh;cases h;exact LX (t:=t) hh hw hp (by rw[te hu,ha]) (gV hi)
    .cases h
   .rw[aDv ha]at h
    split at h
    .rename_i v1 gF hh;cases h;exact LY (t:=t) hh hw hp aaZ
    .cases h
  .cases h
def uA:∀{l:List ResultVar} {vs:List CV},Il P fr st l=some vs->WR ρ st w->FR ρ fr a.tmps->∃Bs,(l.mapM (Da a)).run P w=.ok Bs w/\eF ρ vs Bs:=by
 intro l
 induction l with
 |nil=>intro vs h _ _;cases h;exact⟨[],rfl,eF.nil ρ⟩
 |cons r l ih=>
  intro vs h hw hf;have e:Il P fr st (r::l)=(match BC P fr st r,Il P fr st l with|some v,some l=>some (v::l)|_,_=>none):=rfl;rw[e]at h
  split at h
  .rename_i v l1 h1 h2;cases h;obtain⟨v',g1,g2⟩:=E7 h1 hw hf;obtain⟨Bs,g3,g4⟩:=ih h2 hw hf;exact⟨v'::Bs,by simp[List.mapM_cons,g1,g3],eF.cons g2 g4⟩
  .cases h
def zh {fn:Func}(h:AY P fr st fn.results.toList=.ok v st')(hw:WR ρ st w)(hf:FR ρ fr a.tmps):st'=st/\∃v',(results fn a.tmps).run P w=.ok v' w/\VR ρ v v':=by
 unfold AY at h
 have e:∀{Bs},(fn.results.toList.mapM (Da a)).run P w=.ok Bs w->(results fn a.tmps).run P w=.ok (if h:Bs.toArray.size=1 then Bs.toArray[0]else .tuple Bs.toArray) w:=by
  intro Bs hv;have e1:results fn a.tmps=(do let vs<-fn.results.mapM (Da a);pure (if h:vs.size=1 then vs[0]else .tuple vs)):=rfl;rw[e1,Array.mapM_eq_mapM_toList];simp[hv]
 split at h
 .rename_i hl;cases h;obtain⟨Bs,g1,g2⟩:=uA hl hw hf;have:Bs=[]:=by have:=g2.len;simpa using this.symm
  subst this;exact⟨rfl,_,e g1,by simpa using VR.undef⟩
 .rename_i u hl;cases h;obtain⟨Bs,g1,g2⟩:=uA hl hw hf;obtain⟨u',t',rfl,g3,g4⟩:=g2.inv;have:t'=[]:=by have:=g4.len;simpa using this.symm
  subst this;exact⟨rfl,_,e g1,by simpa using g3⟩
 .rename_i l h0 h1 hl;cases h;obtain⟨Bs,g1,g2⟩:=uA hl hw hf;refine⟨rfl,_,e g1,?_⟩
  have hlen:Bs.toArray.size≠1:=by
   intro hh;have:=g2.len;simp only[aFK]at hh;rw[hh]at this;obtain⟨x,rfl⟩:=List.length_eq_one_iff.1 this;exact h1 x rfl
  rw[dif_neg hlen];exact VR.tuple _ _ (by exact g2.len) (by exact g2.at')
 .cases h
def we (hc:iV P call)(PM:tD P dr){lv:Nat->Nat->Option (List Nat)}{fuel f:Nat}{args:List CV}(h:Eb P dr lv fuel call f args st=.ok v st'):gR P f=true/\En P f args st v st':=by
 unfold Eb at h;rw[aO]at h
 split at h
 .rename_i GF;refine⟨GF,?_⟩
  split at h
  .rename_i fn hfn
   split at h
   .rename_i c hb;intro ρ w args' hw ha;refine calls_of_wp hfn hb ?_;have oX:=Uk (n:=fn.ntmps) (lv:=lv f) (fuel:=fuel) hc PM c (qE args) st ρ {tmps:=args'++Array.replicate (fn.ntmps-args'.size) undef,defers:=[]} w;generalize lR P call dr (lv f) fuel fn.ntmps c (qE args) st=r at h oX;have oX:=oX (by intro e;subst e;cases h) hw (Jl ha _) AI rfl;cases r with
    |norm mg gF=>
     refine wp_mono oX ?_;rintro e a1 w1 ⟨rfl,ρ1,hp⟩;obtain⟨rfl,v',g1,g2⟩:=zh h hp.after.wr hp.fr;exact⟨hp.defers,v',g1,v',ρ1,rfl,g2,hp.after⟩
    |ret mg gF=>
     refine wp_mono oX ?_;rintro e a1 w1 ⟨rfl,ρ1,hp⟩;obtain⟨rfl,v',g1,g2⟩:=zh h hp.after.wr hp.fr;exact⟨hp.defers,v',g1,v',ρ1,rfl,g2,hp.after⟩
    |exit id mg gF=>cases h
    |bad=>cases h
   .cases h
  .cases h
 .cases h
end
abbrev yc:=Nat->List CV->St->Option OR
def nH (P:Program)(I:yc):Prop:=∀f args st v st',I f args st=some (.ok v st')->qM P f args st v st'
def AX (P:Program)(dr:yd)(lv:Nat->Nat->Option (List Nat))(I:yc):Nat->fW
 |0=>λ_ _ _=>.bad
 |n+1=>λf args st=>match I f args st with|some r=>r|none=>Eb P dr lv n (AX P dr lv I n) f args st
def ze {P:Program}{dr:yd}{lv:Nat->Nat->Option (List Nat)}{I:yc}(PM:tD P dr)(hI:nH P I):∀fuel,iV P (AX P dr lv I fuel):=by
 intro fuel
 induction fuel with
 |zero=>intro f args st v st' h;cases h
 |succ fuel ih=>
  intro f args st v st' h;simp only[AX]at h
  split at h
  .rename_i r hr;exact hI f args st v st' (by rw[hr,h])
  .exact .inl (we ih PM h)
end
