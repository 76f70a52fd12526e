import Derived.Test.YtomffjeofpafnaaGreatDoorLimC
import Derived.Scope
import Derived.LoopN
namespace Lim
open Go
noncomputable section
set_option linter.defProp false
abbrev ve:=Nat×Nat×eX
inductive CF where
 |WO (x:eX)
 |pick (c a b:eX)
 |new (t:Nat) (z:List CV)
 |box (t:Nat) (x:eX)
 |build (z:List CV) (parts:List ve)
 |buildSlice (e len:Nat) (z:List CV) (parts:List ve)
 |Hk (a:eX)
 |AJ (n:Nat) (a:eX)
 |store (n:Nat) (a x:eX)
 |nil (x:eX)
 |bin (op:BinOp) (d:Option kK) (BP:Bool) (x y:eX)
 |un (op:UnOp) (x:eX)
 |conv (c:DQ) (x:eX)
 |Jx (n:Nat) (x:eX)
 |iface (t:Nat) (x:eX)
 |func (fn:Fn) (f c:List eX)
 |mkMap (r:Option eX)
 |mkSlice (e bytes:Nat) (z:List CV) (l c:eX)
 |oH (x:eX) (lo hi:Option eX)
 |rj (size:Nat) (x:eX) (lo hi:Option eX)
 |slice3 (size:Nat) (x:eX) (lo:Option eX) (hi mx:eX)
 |oJ (n size:Nat) (x:eX) (lo hi:Option eX)
 |fieldAddr (off:Nat) (x:eX)
 |field (agg:Bool) (off size:Nat) (x:eX)
 |vL (n size:Nat) (x i:eX)
 |AT (size:Nat) (x i:eX)
 |vK (x i:eX)
 |vM (n size:Nat) (agg:Bool) (x i:eX)
 |lookup (d:kK) (z:CV) (ok:Bool) (x k:eX)
 |mapUpdate (d:kK) (m k x:eX)
 |mapEntry (d:kK) (z:CV) (m k:eX)
 |entryStore (m s x:eX)
 |extract (x:eX) (i:Nat)
 |len (k:OI) (x:eX)
 |append (e size bytes:Nat) (z:List CV) (k:IS) (s x:eX)
 |copy (str:Bool) (size:Nat) (d s:eX)
 |clear (z:List CV) (x:eX)
 |sV (mx:Bool) (x y:eX)
 |delete (d:kK) (m k:eX)
 |call (f:Nat) (args:List eX)
 |DJ (f:eX) (args:List eX)
def MB (fr:Fr)(l:List eX):List CV:=List.rec [] (λx _ r=>ev fr x::r) l
def Sb (fr:Fr)(x:Option eX):Option CV:=Option.rec none (λx=>some (ev fr x)) x
def On (fr:Fr)(l:List ve):List uI:=List.rec [] (λp _ r=>(p.1,p.2.1,ev fr p.2.2)::r) l
abbrev gu:=Nat->List CV->St->OR
def yc (b:gu)(f:CV)(args:List CV)(st:St):OR:=
 match f with| .func (.func f) first captured=>b f (first++(args++captured)) st|_=>.bad
def de (g:gu)(j:CF)(fr:Fr)(st:St):OR:=
 match j with
 | .WO x=>.ok (ev fr x) st
 | .pick c a b=>bk (ev fr c) (ev fr a) (ev fr b) st
 | .new t z=>dp t z st
 | .box t x=>bE (ev fr x).isAny .bad (dp t (ev fr x).cK st)
 | .build z parts=>aZ z (On fr parts) st
 | .buildSlice e len z parts=>bC e len (cH len z) (On fr parts) st
 | .Hk a=>aA (ev fr a) st
 | .AJ n a=>aJ n (ev fr a) st
 | .store n a x=>aQ n (ev fr a) (ev fr x) st
 | .nil x=>dJ (ev fr x) st
 | .bin j d BP x y=>aj j d BP (ev fr x) (ev fr y) st
 | .un j x=>mi j (ev fr x) st
 | .conv c x=>dw c (ev fr x) st
 | .Jx n x=>pM n (ev fr x) st
 | .iface t x=>vt t (ev fr x) st
 | .func fn f c=>qF fn (MB fr f) (MB fr c) st
 | .mkMap r=>jz (Sb fr r) st
 | .mkSlice e bytes z l c=>qD e bytes z (ev fr l) (ev fr c) st
 | .oH x lo hi=>iI (ev fr x) (Sb fr lo) (Sb fr hi) st
 | .rj size x lo hi=>aR size (ev fr x) (Sb fr lo) (Sb fr hi) st
 | .slice3 size x lo hi mx=>jd size (ev fr x) (Sb fr lo) (ev fr hi) (ev fr mx) st
 | .oJ n size x lo hi=>bT n size (ev fr x) (Sb fr lo) (Sb fr hi) st
 | .fieldAddr off x=>al off (ev fr x) st
 | .field agg off size x=>AB agg off size (ev fr x) st
 | .vL n size x i=>fP n size (ev fr x) (ev fr i) st
 | .AT size x i=>cV size (ev fr x) (ev fr i) st
 | .vK x i=>pN (ev fr x) (ev fr i) st
 | .vM n size agg x i=>wF n size agg (ev fr x) (ev fr i) st
 | .lookup d z ok x k=>gj d z ok (ev fr x) (ev fr k) st
 | .mapUpdate d m k x=>dG d (ev fr m) (ev fr k) (ev fr x) st
 | .mapEntry d z m k=>fI d z (ev fr m) (ev fr k) st
 | .entryStore m s x=>dY (ev fr m) (ev fr s) (ev fr x) st
 | .extract x i=>aB (ev fr x) i st
 | .len k x=>bt k (ev fr x) st
 | .append e size bytes z k s x=>bJ e size bytes (ev fr s) (cT k size z (ev fr x) st) st
 | .copy str size d s=>gR str size (ev fr d) (ev fr s) st
 | .clear z x=>sQ z (ev fr x) st
 | .sV mx x y=>C0 mx (ev fr x) (ev fr y) st
 | .delete d m k=>pO d (ev fr m) (ev fr k) st
 | .call f args=>g f (MB fr args) st
 | .DJ f args=>yc g (ev fr f) (MB fr args) st
def iq (P:Program)(f:Nat):Bool:=match P.funcs[f]? with|some fn=> !(fn.name== "runtime.NumGoroutine")&&fn.body.isSome|none=>false
def FM (P:Program)(f:Nat)(args:List CV)(st:St)(v:CV)(st':St):Prop:=
 ∀(ρ:Ren) (w:World) (args':Array Value),WR ρ st w->eM ρ args args'.toList->
  Calls P f args' w λe w'=>∃v' b,e=.returned v'/\VR b v v'/\bp ρ st w b st' w'
def ajh (P:Program)(f:Nat)(args:List CV)(st:St)(v:CV)(st':St):Prop:=
 st'=st/\∀(ρ:Ren) (w:World) (args':Array Value),WR ρ st w->eM ρ args args'.toList->∃v',(callFunc f args').run P w=.ok (.value v') w/\VR ρ v v'
def uw (P:Program)(f:Nat)(args:List CV)(st:St)(v:CV)(st':St):Prop:=(iq P f=true/\FM P f args st v st')\/ajh P f args st v st'
def jw (P:Program)(b:gu):Prop:=∀f args st v st',b f args st=.ok v st'->uw P f args st v st'
def zO (i:TypeInfo):Option (List CV):=
 match i.zero with
 |some z=>bE (Nat.beq z.cells.size i.size) (ru z.cells.toList) none
 |none=>none
def j8 {i:TypeInfo}{s:List CV}(h:zO i=some s):∃z,i.zero=some z/\z.cells.size=i.size/\∀ρ,eM ρ s z.cells.toList:=by
 unfold zO at h
 split at h
 .rename_i z b;simp only[aO,aIs]at h
  split at h
  .rename_i hs;exact⟨z,b,hs,λρ=>wM _ _ h ρ⟩
  .cases h
 .cases h
def TJ (i:TypeInfo):Option CV:=match i.zero with|some z=>ofValue z|none=>none
def CG {i:TypeInfo}{c:CV}(h:TJ i=some c):∃z,i.zero=some z/\∀ρ,VR ρ c z:=by
 unfold TJ at h
 split at h
 .rename_i z b;exact⟨z,b,λρ=>VR.ofValue h ρ⟩
 .cases h
def zb (l:List Operand):Option (List eX):=List.rec (some []) (λx _ r=>Option.rec none (λr=>Option.rec none (λc=>some (c::r)) (fh x)) r) l
def OC (x:Option Operand):Option (Option eX):=match x with|none=>some none|some x=>(match fh x with|some c=>some (some c)|none=>none)
def tA (b:Nat->Option (Nat×Nat))(l:List (Nat×Operand)):Option (List ve):=
 List.rec (some []) (λp _ r=>Option.rec none (λr=>(match b p.1,fh p.2 with|some (off,size),some c=>some ((off,size,c)::r)|_,_=>none)) r) l
section
variable {P:Program} {ρ:Ren} {st st':St} {w:World} {v:CV} {fr:Fr} {a:Act}
def pW:∀{l:List Operand} {c:List eX},zb l=some c->FR ρ fr a.tmps->eM ρ (MB fr c) (l.map a.eval):=by
 intro l
 induction l with
 |nil=>intro c h _;cases h;exact eM.nil ρ
 |cons x l d=>
  intro c h b;have e:zb (x::l)=Option.rec none (λr=>Option.rec none (λc=>some (c::r)) (fh x)) (zb l):=rfl;rw[e]at h;cases hl:zb l with
  |none=>rw[hl]at h;cases h
  |some r=>
   rw[hl]at h;cases hx:fh x with
   |none=>rw[hx]at h;cases h
   |some c'=>
    rw[hx]at h;cases h;exact eM.cons (bB hx b) (d hl b)
def fK {x:Option Operand}{c:Option eX}(h:OC x=some c)(b:FR ρ fr a.tmps):S8 ρ (Sb fr c) (x.map a.eval):=by
 unfold OC at h
 split at h
 .cases h;trivial
 .split at h
  .rename_i x c' hc;cases h;exact bB hc b
  .cases h
def oh {b:Nat->Option (Nat×Nat)}:∀{l:List (Nat×Operand)} {c:List ve},tA b l=some c->FR ρ fr a.tmps->rQ ρ b (On fr c) (l.map λp=>(p.1,a.eval p.2)):=by
 intro l
 induction l with
 |nil=>intro c h _;cases h;exact .nil
 |cons p l f=>
  intro c h d;have e:tA b (p::l)=Option.rec none (λr=>(match b p.1,fh p.2 with|some (off,size),some c=>some ((off,size,c)::r)|_,_=>none)) (tA b l):=rfl;rw[e]at h;cases hl:tA b l with
  |none=>rw[hl]at h;cases h
  |some r=>
   rw[hl]at h;dsimp only at h
   split at h
   .rename_i off size c' h1 h2;cases h;exact .cons p.1 off size (ev fr c') _ _ _ h1 (bB h2 d) (f hl d)
   .cases h
end
def Wg (P:Program)(l:List Field):Bool:=l.all λf=>(P.info? f.type).isSome
def Se (P:Program)(b:BinOp)(t:TypeId):Option kK:=
 match b with
 | .eql| .neq=>(match fW P 40 t with
   |some d=>bE (IK d) (bE (P.eqGuardType P.depth t) none (some d)) (some d)
   |none=>none)
 |_=>none
def Bl (P:Program)(s d:TypeId):Option DQ:=
 match P.underlying s,P.underlying d with
 |some _,some (.int k)=>some (.toInt k)
 |some .string,some .string=>some .same
 |some .string,some (.slice e)=>(match P.underlying e with|some (.int .u8)=>some (.bytesOf e)|_=>none)
 |some (.slice e),some .string=>(match P.underlying e with|some (.int .u8)=>some .strOf|_=>none)
 |_,_=>none
def keyOf (P:Program)(t:TypeId):Option (TypeId×kK):=
 match P.underlying t with
 |some (.map k e)=>(match fW P 40 k with|some d=>bE (iG 40 d) (some (e,d)) none|none=>none)
 |_=>none
def EW (P:Program)(t:TypeId):Option OI:=
 match P.underlying t with
 |some .string=>some .str
 |some (.slice _)=>some .slice
 |some (.map _ _)=>some .map
 |some (.array n _)=>some (.const n)
 |some (.pointer a)=>(match P.underlying a with|some (.array n _)=>some (.const n)|_=>none)
 |_=>none
def Ec (P:Program)(u:TypeId)(size:Nat):Option IS:=
 match P.underlying u with
 |some (.slice _)=>some .slice
 |some .string=>bE (Nat.beq size 1) (some .str) none
 |some (.int _)=>some .zeros
 |_=>none
def F6 (k:IS)(bytes:Nat):Bool:=match k with| .zeros=>Nat.ble bytes 256|_=>true
def tq (P:Program)(b:Builtin)(ats:List TypeId)(args:List Operand):Option CF:=
 match b,ats,args with
 | .len,t::_,[x]=>(match EW P t,fh x with|some k,some x=>some (.len k x)|_,_=>none)
 | .cap,t::_,[x]=>(match P.underlying t,fh x with|some (.slice _),some x=>some (.len .cap x)|_,_=>none)
 | .append,[t,u],[s,x]=>(match P.underlying t,fh s,fh x with
   |some (.slice e),some s,some x=>(match P.info? e with
    |some i=>(match zO i,Ec P u i.size with|some z,some k=>bE (F6 k i.bytes) (some (.append e i.size i.bytes z k s x)) none|_,_=>none)
    |none=>none)
   |_,_,_=>none)
 | .copy,[t,u],[d,s]=>(match P.underlying t,P.underlying u,fh d,fh s with
   |some (.slice e),some c,some d,some s=>(match P.info? e,c with
    |some i,.slice _=>some (.copy false i.size d s)
    |some i,.string=>bE (Nat.beq i.size 1) (some (.copy true i.size d s)) none
    |_,_=>none)
   |_,_,_,_=>none)
 | .clear,[t],[x]=>(match P.underlying t,fh x with
   |some (.slice e),some x=>(match P.info? e with|some i=>(match zO i with|some z=>some (.clear z x)|none=>none)|none=>none)
   |_,_=>none)
 | .max,_,[x,y]=>(match fh x,fh y with|some x,some y=>some (.sV true x y)|_,_=>none)
 | .min,_,[x,y]=>(match fh x,fh y with|some x,some y=>some (.sV false x y)|_,_=>none)
 | .delete,t::_,[m,k]=>(match keyOf P t,fh m,fh k with|some (_,d),some m,some k=>some (.delete d m k)|_,_,_=>none)
 |_,_,_=>none
def mI (P:Program)(g:Op):Option CF:=
 match g with
 | .move x=>(match fh x with|some x=>some (.WO x)|none=>none)
 | .assign x=>(match fh x with|some x=>some (.WO x)|none=>none)
 | .pick c a b=>(match fh c,fh a,fh b with|some c,some a,some b=>some (.pick c a b)|_,_,_=>none)
 | .alloc t=>(match P.info? t with|some i=>(match zO i with|some z=>some (.new t z)|none=>none)|none=>none)
 | .box t x=>(match fh x with|some x=>some (.box t x)|none=>none)
 | .build t parts=>(match P.underlying t,P.info? t with
   |some (.struct fs),some i=>(match zO i,tA (Es P fs) parts.toList,Wg P fs.toList with|some z,some ps,true=>some (.build z ps)|_,_,_=>none)
   |some (.array _ e),some i=>(match P.info? e with|some j=>(match zO i,tA (nu j.size) parts.toList with|some z,some ps=>some (.build z ps)|_,_=>none)|none=>none)
   |_,_=>none)
 | .buildSlice t len parts=>(match P.underlying t with
   |some (.slice e)=>(match P.info? e with
    |some i=>bE (Nat.ble (Nat.mul len i.size) 16777216) (match zO i,tA (nu i.size) parts.toList with|some z,some ps=>some (.buildSlice e len z ps)|_,_=>none) none
    |none=>none)
   |_=>none)
 | .load t x=>(match P.underlying t,P.info? t,fh x with|some u,some i,some x=>bE (iO u) (some (.AJ i.size x)) (some (.Hk x))|_,_,_=>none)
 | .store t x y=>(match P.info? t,fh x,fh y with|some i,some x,some y=>some (.store i.size x y)|_,_,_=>none)
 | .nilCheck x=>(match fh x with|some x=>some (.nil x)|none=>none)
 | .binOp g t x y _=>(match fh x,fh y with|some x',some y'=>some (.bin g (Se P g t) (MJ x y) x' y')|_,_=>none)
 | .unOp g _ x=>(match fh x with|some x=>some (.un g x)|none=>none)
 | .convert s d x=>(match Bl P s d,fh x with|some c,some x=>some (.conv c x)|_,_=>none)
 | .sliceToArrayPointer t x=>(match P.underlying t,fh x with|some (.array n _),some x=>some (.Jx n x)|_,_=>none)
 | .makeInterface t x=>(match P.concrete t,fh x with|true,some x=>some (.iface t x)|_,_=>none)
 | .makeFunc fn f c=>(match zb f.toList,zb c.toList with|some f,some c=>some (.func fn f c)|_,_=>none)
 | .makeMap t r=>(match P.underlying t,OC r with|some (.map _ _),some r=>some (.mkMap r)|_,_=>none)
 | .makeSlice t l c=>(match P.underlying t,fh l,fh c with
   |some (.slice e),some l,some c=>(match P.info? e with|some i=>(match zO i with|some z=>some (.mkSlice e i.bytes z l c)|none=>none)|none=>none)
   |_,_,_=>none)
 | .slice t x lo hi mx=>(match P.underlying t,fh x,OC lo,OC hi,OC mx with
   |some .string,some x,some lo,some hi,some none=>some (.oH x lo hi)
   |some (.slice e),some x,some lo,some hi,some none=>(match P.info? e with|some i=>some (.rj i.size x lo hi)|none=>none)
   |some (.slice e),some x,some lo,some (some hi),some (some mx)=>(match P.info? e with|some i=>some (.slice3 i.size x lo hi mx)|none=>none)
   |some (.array n e),some x,some lo,some hi,some none=>(match P.info? e with|some i=>some (.oJ n i.size x lo hi)|none=>none)
   |_,_,_,_,_=>none)
 | .fieldAddr t x f=>(match P.underlying t,fh x with
   |some (.struct fs),some x=>(match fs[f]? with
    |some fd=>(match P.info? fd.type with|some i=>bE (Nat.beq i.size 0) none (some (.fieldAddr fd.offset x))|none=>none)
    |none=>none)
   |_,_=>none)
 | .field t x f=>(match P.underlying t,fh x with
   |some (.struct fs),some x=>(match fs[f]? with
    |some fd=>(match P.info? fd.type,P.underlying fd.type with|some i,some u=>some (.field (iO u) fd.offset i.size x)|_,_=>none)
    |none=>none)
   |_,_=>none)
 | .indexAddr t x i=>(match P.underlying t,fh x,fh i with
   |some (.array n e),some x,some i=>(match P.info? e with|some j=>some (.vL n j.size x i)|none=>none)
   |some (.slice e),some x,some i=>(match P.info? e with|some j=>some (.AT j.size x i)|none=>none)
   |_,_,_=>none)
 | .index t x i=>(match P.underlying t,fh x,fh i with
   |some .string,some x,some i=>some (.vK x i)
   |some (.array n e),some x,some i=>(match P.info? e,P.underlying e with|some j,some u=>some (.vM n j.size (iO u) x i)|_,_=>none)
   |_,_,_=>none)
 | .lookup t x k ok=>(match keyOf P t,fh x,fh k with
   |some (e,d),some x,some k=>(match P.info? e with|some i=>(match TJ i with|some z=>some (.lookup d z ok x k)|none=>none)|none=>none)
   |_,_,_=>none)
 | .mapUpdate t m k x| .insert t m k x=>(match keyOf P t,fh m,fh k,fh x with|some (_,d),some m,some k,some x=>some (.mapUpdate d m k x)|_,_,_,_=>none)
 | .mapEntry t m k=>(match keyOf P t,fh m,fh k with
   |some (e,d),some m,some k=>(match P.info? e with|some i=>(match TJ i with|some z=>some (.mapEntry d z m k)|none=>none)|none=>none)
   |_,_,_=>none)
 | .entryStore _ m s x=>(match fh m,fh s,fh x with|some m,some s,some x=>some (.entryStore m s x)|_,_,_=>none)
 | .extract x i=>(match fh x with|some x=>some (.extract x i)|none=>none)
 | .call {callee:=.builtin b,args,argTypes}=>tq P b argTypes.toList args.toList
 | .call {callee:=.value (.func f),args, .. }=>(match zb args.toList with|some l=>some (.call f l)|none=>none)
 | .call {callee:=.value f,args, .. }=>(match fh f,zb args.toList with|some f,some l=>some (.DJ f l)|_,_=>none)
 |_=>none
section
variable {P:Program} {ρ:Ren} {st st':St} {w:World} {v:CV} {fr:Fr} {a:Act} {call:gu}
def wK {o:Oper}{next:Act->World->Prop}{Q:Exit->Act->World->Prop}(h:KY P (execOp a.eval o) ρ st w v st')
 (c:∀v' w' b,VR b v v'->bp ρ st w b st' w'->next (a.put o.dst v') w'):o.wp P a w next Q:=by
 obtain⟨x,v',w',b,g,f,e,d⟩:=h;unfold Oper.wp;rw[g];rcases f with rfl|⟨rfl,rfl⟩
 .exact c v' w' b e d
 .exact c _ w' b e d
def oW {t e:TypeId}{d:kK}(h:keyOf P t=some (e,d)):∃k,P.underlying t=some (.map k e)/\fW P 40 k=some d/\iG 40 d=true:=by
 unfold keyOf at h
 split at h
 .rename_i k e' hu
  split at h
  .rename_i c hd;rw[aO]at h
   split at h
   .rename_i b;cases h;exact⟨k,hu,hd,b⟩
   .cases h
  .cases h
 .cases h
def Bi {c:BinOp}{t:TypeId}{d:kK}(h:Se P c t=some d):fW P 40 t=some d/\(IK d=true->P.eqGuardType P.depth t=false):=by
 have b:∀{x:Option kK},(match fW P 40 t with
  |some d=>bE (IK d) (bE (P.eqGuardType P.depth t) none (some d)) (some d)
  |none=>none)=some d->fW P 40 t=some d/\(IK d=true->P.eqGuardType P.depth t=false):=by
  intro _ h
  split at h
  .rename_i g hd;simp only[aO]at h
   split at h
   .split at h
    .cases h
    .rename_i hg;cases h;exact⟨hd,λ_=>by simpa using hg⟩
   .rename_i f;cases h;exact⟨hd,λe=>absurd e f⟩
  .cases h
 unfold Se at h
 split at h
 .exact b (x:=none) h
 .exact b (x:=none) h
 .cases h
def CA {s d:TypeId}{c:DQ}(h:Bl P s d=some c):Iz P c s d:=by
 unfold Bl at h
 split at h
 .rename_i u k h1 h2;cases h;exact⟨h2,u,h1⟩
 .rename_i h1 h2;cases h;exact⟨h2,h1⟩
 .rename_i e h1 h2
  split at h
  .rename_i h3;cases h;exact⟨h2,h3,h1⟩
  .cases h
 .rename_i e h1 h2
  split at h
  .rename_i h3;cases h;exact⟨e,h1,h3,h2⟩
  .cases h
 .cases h
def EV {t:TypeId}{k:OI}(h:EW P t=some k):LU P k t:=by
 unfold EW at h
 split at h
 .rename_i hu;cases h;exact hu
 .rename_i e hu;cases h;exact⟨e,hu⟩
 .rename_i k e hu;cases h;exact⟨k,e,hu⟩
 .rename_i n e hu;cases h;exact .inl ⟨e,hu⟩
 .rename_i a hu
  split at h
  .rename_i n e b;cases h;exact .inr ⟨a,e,hu,b⟩
  .cases h
 .cases h
def Eb {u:TypeId}{size:Nat}{k:IS}(h:Ec P u size=some k):Ed P k u size:=by
 unfold Ec at h
 split at h
 .rename_i e hu;cases h;exact⟨e,hu⟩
 .rename_i hu;simp only[aO,aIs]at h
  split at h
  .rename_i hs;cases h;exact⟨hu,hs⟩
  .cases h
 .rename_i j hu;cases h;exact⟨j,hu⟩
 .cases h
def tZ {t:TypeId}{u:TypeDesc}(b:P.underlying t=some u):(isAgg t).run P w=.ok (iO u) w:=by
 cases u<;>simp[isAgg,aHU b,iO]
def iw {t:TypeId}{i:TypeInfo}(hi:P.info? t=some i):(Go.sizeOf t).run P w=.ok i.size w:=ada
def xj {b:Builtin}{ats:Array TypeId}{args:Array Operand}{F:CF}{ty:TypeId}{cs:Array Bool}(h:tq P b ats.toList args.toList=some F)(j:de call F fr st=.ok v st')(g:WR ρ st w)(c:FR ρ fr a.tmps):
 KY P (builtin b ats ty cs (args.map a.eval)) ρ st w v st':=by
 obtain⟨ats⟩:=ats;obtain⟨args⟩:=args;rw[show Array.map a.eval ⟨args⟩=(args.map a.eval).toArray from wb];unfold tq at h
 split at h
 .rename_i t r x ht hx;cases ht;cases hx
  split at h
  .rename_i k x' n f;cases h;have:=JV (P:=P) (ty:=ty) j g (bB f c) (EV n) (t::r).toArray wb;exact this.iF
  .cases h
 .rename_i t r x ht hx;cases ht;cases hx
  split at h
  .rename_i e x' n f;cases h;exact(JX (P:=P) (ty:=ty) j g (bB f c) n (t::r).toArray wb).iF
  .cases h
 .rename_i t u s x ht hx;cases ht;cases hx
  split at h
  .rename_i e s' x' hu o f
   split at h
   .rename_i i hi
    split at h
    .rename_i z k B n;rw[aO]at h
     split at h
     .rename_i A;cases h;obtain⟨H,q,D,p⟩:=j8 B;have:=Ch (P:=P) (t:=t) (u:=u) (ty:=ty) j g (bB o c) (bB f c) (Eb n) hu hi q rfl D p rfl (λC=>by subst C;simpa[F6]using A);exact this.iF
     .cases h
    .cases h
   .cases h
  .cases h
 .rename_i t u d s ht hx;cases ht;cases hx
  split at h
  .rename_i e N R s' hu M E o
   split at h
   .rename_i i Q hi;cases h;have:=yJ (P:=P) (dT:=t) (sT:=u) (ty:=ty) j g (bB E c) (bB o c) hu hi rfl (λe=>by cases e);exact this.iF
   .rename_i i hi;simp only[aO,aIs]at h
    split at h
    .rename_i h1;cases h;have:=yJ (P:=P) (dT:=t) (sT:=u) (ty:=ty) j g (bB E c) (bB o c) hu hi rfl (λ_=>h1);exact this.iF
    .cases h
   .cases h
  .cases h
 .rename_i t x ht hx;cases ht;cases hx
  split at h
  .rename_i e x' hu f
   split at h
   .rename_i i hi
    split at h
    .rename_i z B;cases h;obtain⟨H,q,D,p⟩:=j8 B;have:=EF (P:=P) (t:=t) (ty:=ty) j g (bB f c) hu hi q p;exact this.iF
    .cases h
   .cases h
  .cases h
 .rename_i x y hx;cases hx
  split at h
  .rename_i x' y' f l;cases h;have:=CZ (P:=P) (mx:=true) (ats:=ats.toArray) (ty:=ty) j g (bB f c) (bB l c);exact bH.iF (s:=Builtin.max_ ats.toArray ty #[a.eval x,a.eval y]) this
  .cases h
 .rename_i x y hx;cases hx
  split at h
  .rename_i x' y' f l;cases h;have:=CZ (P:=P) (mx:=false) (ats:=ats.toArray) (ty:=ty) j g (bB f c) (bB l c);exact bH.iF (s:=Builtin.min_ ats.toArray ty #[a.eval x,a.eval y]) this
  .cases h
 .rename_i t r m k ht hx;cases ht;cases hx
  split at h
  .rename_i e d m' k' n G I;cases h;obtain⟨O,L,K,J⟩:=oW n;have:=Cf (P:=P) (ty:=ty) (ats:=(t::r).toArray) wb j g (bB G c) (bB I c) L K uM J;exact this.iF
  .cases h
 .cases h
end
section
variable {f:FuncId}{o:Oper}{next:Act->World->Prop}{Q:Exit->Act->World->Prop}
section
variable {P:Program} {ρ:Ren} {st st':St} {w:World} {v:CV} {fr:Fr} {a:Act} {call:gu}
def Ej (args:Array Value)(h:iq P f=true):(callFunc f args).run P w=.ok (.enter f args) w:=by
 unfold iq at h
 split at h
 .rename_i fn hfn;simp only[aIf,aKH]at h;have c:¬(fn.name== "runtime.NumGoroutine")=true:=by rw[h.1];simp
  have b:¬fn.body.isNone=true:=by
   have:=h.2;cases hb:fn.body<;>simp_all
  simp only[callFunc,Sem.run_bind,run_program,Result.andThen_ok,hfn];rw[aHM c,aHM b]
  rfl
 .cases h
def CQ {first b:Array Value}{x:Operand}{args:Array Operand}{ats:Array TypeId}{dst:Option Tmp}{ty:TypeId}{pos:String}{after:Array Edge}{guard:Option (Nat×Bool)}
 (c:a.eval x=.func (.func f) first b):
 (execOp a.eval {dst,op:=.call {callee:=.value x,args,argTypes:=ats},type:=ty,pos,after,guard}).run P w=(callFunc f (first++args.map a.eval++b)).run P w:=by
 have e:execOp a.eval {dst,op:=.call {callee:=.value x,args,argTypes:=ats},type:=ty,pos,after,guard}=
  (do let d<-Deferred.ofValue (a.eval x) (args.map a.eval);invoke d.target d.args):=rfl
 rw[e,c];simp only[Deferred.ofValue,Sem.run_bind,Sem.run_pure,Result.andThen_ok,invoke]
def SD {args:List CV}{args':Array Value}(n:jw P call)(m:call f args st=.ok v st')(c:WR ρ st w)(k:eM ρ args args'.toList)
 (i:(execOp a.eval o).run P w=(callFunc f args').run P w) (j:∀v' w' b,VR b v v'->bp ρ st w b st' w'->next (a.put o.dst v') w'):o.wp P a w next Q:=by
 rcases n f args st v st' m with⟨g,d⟩|⟨g,d⟩
 .unfold Oper.wp;rw[i,Ej _ g,Oper.upon_enter];refine(d ρ w args' c k).mono ?_;rintro e w' ⟨v',b,rfl,l,p⟩;exact j v' w' b l p
 .subst g;obtain⟨v',r,q⟩:=d ρ w args' c k;unfold Oper.wp;rw[i,r,Oper.upon_value];exact j v' w ρ q (bp.refl c)
def OB {f:CV}{args:List CV}(c:yc call f args st=.ok v st'){d:Value}(e:VR ρ f d){args':List Value}(i:eM ρ args args'):
 ∃g first b,d=.func (.func g) first b/\∃l,call g l st=.ok v st'/\eM ρ l (first++args'.toArray++b).toList:=by
 unfold yc at c
 split at c
 .rename_i g j k;cases e with
  |func _ _ _ d c' e hc h1 h2=>
   refine⟨g,d.toArray,c'.toArray,rfl,_,c,?_⟩;have:=(eM.mk (ρ:=ρ) e h1).app (i.app (eM.mk (ρ:=ρ) hc h2))
   simpa using this
 .cases c
def FA (hc:jw P call){op:CF}(h:mI P o.op=some op)(q:de call op fr st=.ok v st')(p:WR ρ st w)(k:FR ρ fr a.tmps)
 (Z:∀v' w' V,VR V v v'->bp ρ st w V st' w'->next (a.put o.dst v') w'):o.wp P a w next Q:=by
 obtain⟨H,W,ty,F,A,r⟩:=o;have b:∀{s:Sem Next},s=execOp a.eval ⟨H,W,ty,F,A,r⟩->KY P s ρ st w v st'->Oper.wp P ⟨H,W,ty,F,A,r⟩ a w next Q:=λe hd=>wK (e▸hd) Z;dsimp only at h;unfold mI at h
 split at h
 .rename_i x
  split at h
  .rename_i x' hx;cases h;cases q;exact b rfl ⟨.value (a.eval x),a.eval x,w,ρ,rfl,.inl rfl,bB hx k,bp.refl p⟩
  .cases h
 .rename_i x
  split at h
  .rename_i x' hx;cases h;cases q;exact b rfl ⟨.value (a.eval x),a.eval x,w,ρ,rfl,.inl rfl,bB hx k,bp.refl p⟩
  .cases h
 .split at h
  .rename_i h1 h2 h3;cases h;exact b rfl (G8 q p (bB h1 k) (bB h2 k) (bB h3 k))
  .cases h
 .split at h
  .rename_i i hi
   split at h
   .rename_i z C;cases h;obtain⟨U,D,I,J⟩:=j8 C;exact b rfl (EI q p hi D J).iF
   .cases h
  .cases h
 .split at h
  .rename_i hx;cases h;exact b rfl (JY q p (bB hx k)).iF
  .cases h
 .split at h
  .rename_i fs i hu hi
   split at h
   .rename_i z ps C hp eF;cases h;obtain⟨U,D,I,J⟩:=j8 C;have Vh:=oh hp k;refine b rfl (Cg q p hu hi D J adK (λf ab=>?_)).iF;have:=aKd.1 eF f ab;exact Option.isSome_iff_exists.1 this
   .cases h
  .rename_i n e i hu hi
   split at h
   .rename_i j N
    split at h
    .rename_i z ps C hp;cases h;obtain⟨U,D,I,J⟩:=j8 C;have Vh:=oh hp k;exact b rfl (EG q p hu hi D J N adK).iF
    .cases h
   .cases h
  .cases h
 .split at h
  .rename_i e hu
   split at h
   .rename_i i hi;simp only[aO,aIr]at h
    split at h
    .rename_i hle
     split at h
     .rename_i z ps C hp;cases h;obtain⟨U,D,I,J⟩:=j8 C;have Vh:=oh hp k;exact b rfl (wI q p hu hi D I J adK hle).iF
     .cases h
    .cases h
   .cases h
  .cases h
 .split at h
  .rename_i u i x' hu hi hx;rw[aO]at h
   split at h
   .rename_i ha;cases h;exact b rfl (EA q p (bB hx k) (by rw[tZ hu,ha]) (iw hi)).iF
   .rename_i ha;cases h;exact b rfl (EB q p (bB hx k) acX).iF
  .cases h
 .split at h
  .rename_i i x' y' hi hx hy;cases h;exact b rfl (Ex q p (bB hx k) (bB hy k) (iw hi)).iF
  .cases h
 .rename_i x
  split at h
  .rename_i x' hx;cases h;exact wK (JU (o:=⟨H,.nilCheck x,ty,F,A,r⟩) q p (bB hx k) rfl rfl) Z
  .cases h
 .rename_i ad t x y yt
  split at h
  .rename_i x' y' hx hy;cases h;refine b rfl (JZ (X:=x) (Y:=y) (f:=40) q p (bB hx k) (bB hy k) (λe he=>(Bi he).1) uM rfl (λe he=>(Bi he).2)).iF
  .cases h
 .split at h
  .rename_i x' hx;cases h;exact b rfl (Nn q p (bB hx k)).iF
  .cases h
 .split at h
  .rename_i c x' G hx;cases h;exact b rfl (Hc q p (bB hx k) (CA G)).iF
  .cases h
 .split at h
  .rename_i hu hx;cases h;exact b rfl (G0 q p (bB hx k) hu).iF
  .cases h
 .split at h
  .rename_i G hx;cases h;exact b rfl (EC q p (bB hx k) G).iF
  .cases h
 .split at h
  .rename_i h1 h2;cases h;exact b rfl (Ha q p (by rw[aJv];exact pW h1 k) (by rw[aJv];exact pW h2 k)).iF
  .cases h
 .split at h
  .rename_i hu h1;cases h;exact b rfl (Ez q p (fK h1 k) hu).iF
  .cases h
 .split at h
  .rename_i e l' c' hu h1 h2
   split at h
   .rename_i i hi
    split at h
    .rename_i z C;cases h;obtain⟨U,D,I,J⟩:=j8 C;exact b rfl (G9 q p (bB h1 k) (bB h2 k) hu hi D rfl I J).iF
    .cases h
   .cases h
  .cases h
 .rename_i t x lo hi mx
  split at h
  .rename_i x' lQ eT hu hx T R O;cases h;have B:=fK (ρ:=ρ) O k;cases mx with
   |some m=>exact False.elim B
   |none=>exact b rfl (zj q p (bB hx k) (fK T k) (fK R k) hu).iF
  .rename_i e x' lQ eT hu hx T R O;have B:=fK (ρ:=ρ) O k;cases mx with
   |some m=>exact False.elim B
   |none=>
    split at h
    .rename_i i yV;cases h;exact b rfl (Ay q p (bB hx k) (fK T k) (fK R k) hu (iw yV)).iF
    .cases h
  .rename_i e x' lQ eT ae hu hx T R O;have B:=fK (ρ:=ρ) O k;have hh:=fK (ρ:=ρ) R k;cases mx with
   |none=>exact False.elim B
   |some m=>
    cases hi with
    |none=>exact False.elim hh
    |some h2=>
     split at h
     .rename_i i yV;cases h;exact b rfl (Ca q p (bB hx k) (fK T k) hh B hu (iw yV)).iF
     .cases h
  .rename_i n e x' lQ eT hu hx T R O;have B:=fK (ρ:=ρ) O k;cases mx with
   |some m=>exact False.elim B
   |none=>
    split at h
    .rename_i i yV;cases h;exact b rfl (zk q p (bB hx k) (fK T k) (fK R k) hu (iw yV)).iF
    .cases h
  .cases h
 .split at h
  .rename_i fs x' hu hx
   split at h
   .rename_i fd OT
    split at h
    .rename_i i hi;simp only[aO,aIs]at h
     split at h
     .cases h
     .rename_i C;cases h;exact b rfl (yb q p (bB hx k) hu OT rfl (iw hi) C).iF
    .cases h
   .cases h
  .cases h
 .split at h
  .rename_i fs x' hu hx
   split at h
   .rename_i fd OT
    split at h
    .rename_i i u hi aa;cases h;exact b rfl (EE q p (bB hx k) hu OT hi aa).iF
    .cases h
   .cases h
  .cases h
 .split at h
  .rename_i n e x' i' hu hx hi
   split at h
   .rename_i j N;cases h;exact b rfl (Cd q p (bB hx k) (bB hi k) hu (iw N)).iF
   .cases h
  .rename_i e x' i' hu hx hi
   split at h
   .rename_i j N;cases h;exact b rfl (ED q p (bB hx k) (bB hi k) hu (iw N)).iF
   .cases h
  .cases h
 .split at h
  .rename_i x' i' hu hx hi;cases h;exact b rfl (Cc q p (bB hx k) (bB hi k) hu).iF
  .rename_i n e x' i' hu hx hi
   split at h
   .rename_i j u N OP;cases h;exact b rfl (Ce q p (bB hx k) (bB hi k) hu N OP).iF
   .cases h
  .cases h
 .split at h
  .rename_i e d x' k' G hx S
   split at h
   .rename_i i hi
    split at h
    .rename_i z C;cases h;obtain⟨kt,M,L,K⟩:=oW G;obtain⟨U,D,I⟩:=CG C;exact b rfl (Cb q p (bB hx k) (bB S k) M L uM K hi D (I ρ)).iF
    .cases h
   .cases h
  .cases h
 .split at h
  .rename_i e d m' k' x' G B S hx;cases h;obtain⟨kt,M,L,K⟩:=oW G;exact b rfl (qC q p (bB B k) (bB S k) (bB hx k) M L uM K).iF
  .cases h
 .split at h
  .rename_i e d m' k' x' G B S hx;cases h;obtain⟨kt,M,L,K⟩:=oW G;exact b rfl (qC q p (bB B k) (bB S k) (bB hx k) M L uM K).iF
  .cases h
 .split at h
  .rename_i e d m' k' G B S
   split at h
   .rename_i i hi
    split at h
    .rename_i z C;cases h;obtain⟨kt,M,L,K⟩:=oW G;obtain⟨U,D,I⟩:=CG C;exact b rfl (zl q p (bB B k) (bB S k) M L uM K hi D (I ρ)).iF
    .cases h
   .cases h
  .cases h
 .split at h
  .rename_i m' s' x' B hs hx;cases h;exact b rfl (wG q p (bB B k) (bB hs k) (bB hx k)).iF
  .cases h
 .split at h
  .rename_i x' hx;cases h;exact b rfl (AD q p (bB hx k)).iF
  .cases h
 .exact b rfl (xj h q p k)
 .rename_i f args ats
  split at h
  .rename_i l hl;cases h;refine SD (o:=⟨H,.call {callee:=.value (.func f),args:=args,argTypes:=ats},ty,F,A,r⟩) hc q p (args':= #[]++args.map a.eval++ #[]) (by simpa using pW hl k) (CQ rfl) Z
  .cases h
 .rename_i f args ats af
  split at h
  .rename_i f' l ac hl;cases h;obtain⟨g,first,E,e1,l',e2,e3⟩:=OB q (bB ac k) (pW hl k);refine SD (o:=⟨H,.call {callee:=.value f,args:=args,argTypes:=ats},ty,F,A,r⟩) hc e2 p (args':=first++args.map a.eval++E) (by simpa using e3) (CQ e1) Z
  .cases h
 .cases h
end
end
inductive Rs where
 |norm (fr:Fr) (st:St)
 |exit (id:Nat) (fr:Fr) (st:St)
 |ret (fr:Fr) (st:St)
 |bad
def fN (ops:Array Oper)(fr:Fr)(o:Oper):Option Bool:=
 match o.guard with
 |none=>some true
 |some (g,b)=>(match (ops[g]?).bind (·.dst)with
  |none=>some false
  |some d=>(match fH fr d with
   | .bool c=>some (bE b c (Bool.not c))
   | .undef=>some false
   |_=>none))
def mR (P:Program)(call:gu)(ops:Array Oper)(o:Oper)(fr:Fr)(st:St):OR:=
 match fN ops fr o with
 |some true=>(match mI P o.op with|some op=>de call op fr st|none=>.bad)
 |some false=>.ok .undef st
 |none=>.bad
section
variable {P:Program} {ρ:Ren} {st st':St} {w:World} {v:CV} {fr:Fr} {a:Act} {call:gu}
def jt {ops:Array Oper}{o:Oper}{b:Bool}(h:fN ops fr o=some b)(i:FR ρ fr a.tmps):Region.wanted o (yielded ops a.tmps)=b:=by
 unfold fN at h;unfold Region.wanted
 split at h
 .rename_i hg;cases h;rw[hg]
 .rename_i g want hg;rw[hg];dsimp only;unfold yielded
  split at h
  .rename_i hd;cases h;rw[hd];rfl
  .rename_i d hd;rw[hd,Option.bind_some];have f:=i d
   split at h
   .rename_i c hc;cases h;rw[hc]at f;cases e:a.tmps[d]? with
    |none=>
     have:a.tmps.getD d Go.undef=Go.undef:=by simp[e]
     rw[this]at f;cases f
    |some x=>
     have:a.tmps.getD d Go.undef=x:=by simp[e]
     rw[this]at f;cases f;dsimp only;cases c<;>cases want<;>rfl
   .rename_i hc;cases h;rw[hc]at f;cases e:a.tmps[d]? with
    |none=>rfl
    |some x=>
     have:a.tmps.getD d Go.undef=x:=by simp[e]
     rw[this]at f;cases f
     rfl
   .cases h
def sI (g:jw P call){ops:Array Oper}{o:Oper}(h:mR P call ops o fr st=.ok v st')(e:WR ρ st w)(d:FR ρ fr a.tmps){next:Act->World->Prop}{Q:Exit->Act->World->Prop}
 (f:∀v' w' b,VR b v v'->bp ρ st w b st' w'->next (a.put o.dst v') w'):
 if Region.wanted o (yielded ops a.tmps)then o.wp P a w next Q else next (a.put o.dst undef) w:=by
 unfold mR at h
 split at h
 .rename_i c;rw[aHP (jt c d)]
  split at h
  .rename_i op i;exact FA g i h e d f
  .cases h
 .rename_i c;rw[aHM (by rw[jt c d];simp)];cases h;exact f _ w ρ .undef (bp.refl e)
 .cases h
end
def qd (P:Program)(call:gu)(n:Nat)(ops:Array Oper)(l:List Oper)(fr:Fr)(st:St):Rs:=
 match l with
 |[]=>.norm fr st
 |o::l=>match mR P call ops o fr st with
  | .ok v st=>(match o.dst with|none=>qd P call n ops l fr st|some d=>if d<n then qd P call n ops l (fr.put d (some v)) st else .bad)
  | .bad=>.bad
structure SP (ρ:Ren)(st:St)(w:World)(n:Nat)(fr':Fr)(st':St)(a':Act)(w':World)(ρ':Ren):Prop where
 fr:FR ρ' fr' a'.tmps
 sz:n<=a'.tmps.size
 defers:a'.defers=[]
 after:bp ρ st w ρ' st' w'
def qW (ρ:Ren)(st:St)(w:World)(n:Nat)(r:Rs)(e:Exit)(c:Act)(w':World):Prop:=
 match r with
 | .norm fr' st'=>e=.normal/\∃b,SP ρ st w n fr' st' c w' b
 | .exit id fr' st'=>e=.exit id/\∃b,SP ρ st w n fr' st' c w' b
 | .ret fr' st'=>e=.ret/\∃b,SP ρ st w n fr' st' c w' b
 | .bad=>False
def qW.step {ρ b:Ren}{st f:St}{w d:World}{n:Nat}{r:Rs}{e:Exit}{g:Act}{w':World}(c:bp ρ st w b f d)(h:qW b f d n r e g w'):qW ρ st w n r e g w':=by
 cases r<;>simp only[qW]at h⊢
 .obtain⟨h1,ρ',h2⟩:=h;exact⟨h1,ρ',h2.fr,h2.sz,h2.defers,c.trans h2.after⟩
 .obtain⟨h1,ρ',h2⟩:=h;exact⟨h1,ρ',h2.fr,h2.sz,h2.defers,c.trans h2.after⟩
 .obtain⟨h1,ρ',h2⟩:=h;exact⟨h1,ρ',h2.fr,h2.sz,h2.defers,c.trans h2.after⟩
def GN (a:Act)(d:Option Tmp)(v:Value):(a.put d v).tmps.size=a.tmps.size:=by cases d<;>simp[Act.put]
def Ao (a:Act)(d:Option Tmp)(v:Value):(a.put d v).defers=a.defers:=by cases d<;>rfl
section
variable {P:Program} {call:gu} {n:Nat} {ops:Array Oper}
def JC (fr:Fr)(st:St):qd P call n ops [] fr st=.norm fr st:=rfl
def yH (o:Oper)(l:List Oper)(fr:Fr)(st:St):qd P call n ops (o::l) fr st=
 match mR P call ops o fr st with
 | .ok v st=>(match o.dst with|none=>qd P call n ops l fr st|some d=>if d<n then qd P call n ops l (fr.put d (some v)) st else .bad)
 | .bad=>.bad:=rfl
def FR.aeI {ρ:Ren}{fr:Fr}{a:Act}(h:FR ρ fr a.tmps){d:Nat}(c:d<a.tmps.size){v:CV}{v':Value}(b:VR ρ v v'):FR ρ (fr.put (d) (some v)) (a.put (some d) v').tmps:=h.put c b
def Ek (E:jw P call)(l:List Oper):∀(fr:Fr) (st:St) (ρ:Ren) (a:Act) (w:World),qd P call n ops l fr st≠ .bad->WR ρ st w->FR ρ fr a.tmps->n<=a.tmps.size->a.defers=[]->
 wpList P ops (qW ρ st w n (qd P call n ops l fr st)) l a w:=by
 induction l with
 |nil=>intro fr st ρ a w _ z m k s;rw[JC];exact wpList_nil ⟨rfl,ρ,m,k,s,bp.refl z⟩
 |cons o l i=>
  intro fr st ρ a w b z m k s;rw[yH]at b⊢;cases hs:mR P call ops o fr st with
  |bad=>rw[hs]at b;exact absurd rfl b
  |ok v hO=>
   rw[hs]at b;refine wpList_step λK F=>sI E hs z m λv' w' g D c=>F _ _ ?_;dsimp only at b⊢
   have f:∀{r:Rs} {l:List Oper} {a:Act} {j:World},wpList P ops (qW g hO w' n r) l a j->wpList P ops (qW ρ st w n r) l a j:=by
    intro r l
    induction l with
    |nil=>intro a j h;exact qW.step c h
    |cons o l i=>
     intro a j h;unfold wpList at h⊢
     split
     .rename_i u;rw[aHP u]at h;rcases h with h|⟨I,L,y,H⟩
      .left;unfold Oper.wp at h⊢;generalize (execOp a.eval o).run P j=C at h⊢;cases C with
       |ok x y=>
        cases x<;>simp only[Oper.upon]at h⊢<;>first
         |exact i h
         |exact h.mono (λe M p=>by cases e<;>first|exact i p|exact qW.step c p|(obtain⟨J,B,G⟩:=p;exact⟨J,B,qW.step c G⟩))
         |exact h.mono (λ_ _ p=>i p)
       |halt x y=>cases x<;>simp only[Oper.upon]at h⊢<;>exact qW.step c h
      .exact .inr ⟨I,L,y,qW.step c H⟩
     .rename_i u;rw[aHM u]at h;exact i h
   cases q:o.dst with
   |none=>
    rw[q]at b;refine f (i fr hO g (a.put none v') w' b c.wr (m.mono c.ext) k s)
   |some d=>
    rw[q]at b;dsimp only at b⊢
    split at b
    .rename_i A;rw[aHP A];exact f (i _ hO g (a.put (some d) v') w' b c.wr ((m.mono c.ext).aeI (aId A k) D) (by rw[GN];exact k) (by rw[Ao];exact s))
    .exact absurd rfl b
end
section
variable {x:Code}{f:Fr->St->Rs}{L:Option (List Nat)}{t:TypeId}{p:CV}{p':Value}
abbrev ze:=gu->Nat->Array Oper->Fr->St->Rs
def uN (r:Rs)(k:Fr->St->Rs):Rs:=match r with| .norm fr st=>k fr st| .exit id fr st=>.exit id fr st| .ret fr st=>.ret fr st| .bad=>.bad
def sY (b:Nat)(r:Rs):Rs:=match r with| .norm fr st=>.norm fr st| .exit i fr st=>bE (Nat.beq i b) (.norm fr st) (.exit i fr st)| .ret fr st=>.ret fr st| .bad=>.bad
def LK:List Nat->List CV->Fr
 |[],_=>λ_=>some .any
 |l::L,vs=>PT.put (LK L (vs.drop 1)) l (some (vs.headD .any))
def Jd:Code->Nat
 | .region id _ _=>id
 | .seq x _=>Jd x
 | .cond _ x _=>Jd x
 | .block _ x=>Jd x
 | .loop x=>Jd x
 | .scope x=>Jd x
 |_=>0
def yx (L:Option (List Nat))(fr:Fr):Fr:=match L with|none=>fr|some L=>LK L (L.map (fH fr))
def yM (b:Fr->St->Rs)(L:Option (List Nat)):Nat->Fr->St->Rs
 |0,_,_=>.bad
 |n+1,fr,st=>uN (b (yx L fr) st) (yM b L n)
def DG (c:Operand)(x y:Fr->St->Rs)(fr:Fr)(st:St):Rs:=
 match fh c with|some c=>(match ev fr c with| .bool t=>bE t (x fr st) (y fr st)|_=>.bad)|none=>.bad
def mj (P:Program)(call:gu)(dr:ze)(lv:Nat->Option (List Nat))(fuel n:Nat)(c:Code)(fr:Fr)(st:St):Rs:=
 match c with
 | .skip=>.norm fr st
 | .region _ ops draw=>bE draw (dr call n ops fr st) (qd P call n ops ops.toList fr st)
 | .seq x y=>uN (mj P call dr lv fuel n x fr st) (λfr st=>mj P call dr lv fuel n y (yx (lv (Jd y)) fr) st)
 | .cond c x y=>DG c (mj P call dr lv fuel n x) (mj P call dr lv fuel n y) fr st
 | .block id x=>sY id (mj P call dr lv fuel n x fr st)
 | .loop x=>yM (mj P call dr lv fuel n x) (lv (Jd x)) fuel fr st
 | .exit id=>.exit id fr st
 | .scope x=>mj P call dr lv fuel n x fr st
 | .label _=>.norm fr st
 | .ret=>.ret fr st
 |_=>.bad
def uu (P:Program)(dr:ze):Prop:=
 ∀(call:gu) (n:Nat),jw P call->∀(b:Nat) (ops:Array Oper) (fr:Fr) (st:St) (ρ:Ren) (a:Act) (w:World),dr call n ops fr st≠ .bad->WR ρ st w->FR ρ fr a.tmps->n<=a.tmps.size->a.defers=[]->
  (Code.region b ops true).wp P (qW ρ st w n (dr call n ops fr st)) a w
section
variable {P:Program} {call:gu} {dr:ze} {n:Nat} {lv:Nat->Option (List Nat)} {fuel:Nat}
def Ok (P:Program)(n:Nat)(c:Code)(f:Fr->St->Rs):Prop:=
 ∀(fr:Fr) (st:St) (ρ:Ren) (a:Act) (w:World),f fr st≠ .bad->WR ρ st w->FR ρ fr a.tmps->n<=a.tmps.size->a.defers=[]->c.wp P (qW ρ st w n (f fr st)) a w
def Po {y:Code}{g:Fr->St->Rs}(u:Ok P n x f)(s:Ok P n y g):Ok P n (.seq x y) (λfr st=>uN (f fr st) g):=by
 intro fr st ρ a w c k m l o;have h1:=u fr st ρ a w;refine wp_seq ?_;dsimp only at c⊢;generalize f fr st=r at c h1⊢;cases r with
 |bad=>exact absurd rfl c
 |norm j hO=>
  refine wp_mono (h1 wb k m l o) ?_;rintro e q i ⟨rfl,d,b⟩;exact wp_mono (s j hO d q i c b.after.wr b.fr b.sz b.defers) (λe a w h=>qW.step b.after h)
 |exit id j hO=>
  refine wp_mono (h1 wb k m l o) ?_;rintro e q i ⟨rfl,b⟩;exact⟨rfl,b⟩
 |ret j hO=>
  refine wp_mono (h1 wb k m l o) ?_;rintro e q i ⟨rfl,b⟩;exact⟨rfl,b⟩
def Hv {d:Nat}(s:Ok P n x f):Ok P n (.block d x) (λfr st=>sY d (f fr st)):=by
 intro fr st ρ a w m g k j l;have h1:=s fr st ρ a w;refine wp_block ?_;dsimp only at m⊢;generalize f fr st=r at m h1⊢;cases r with
 |bad=>exact absurd rfl m
 |norm c hO=>
  refine wp_mono (h1 wb g k j l) ?_;rintro e q o ⟨rfl,b⟩;exact⟨rfl,b⟩
 |exit i c hO=>
  refine wp_mono (h1 wb g k j l) ?_;rintro e q o ⟨rfl,b⟩;have u:sY d (.exit i c hO)=bE (Nat.beq i d) (.norm c hO) (.exit i c hO):=rfl;rw[u];simp only[aO,aIs,Exit.inBlock]
  by_cases hi:i=d
  .simp only[aHP hi];exact⟨rfl,b⟩
  .simp only[aHM hi];exact⟨rfl,b⟩
 |ret c hO=>
  refine wp_mono (h1 wb g k j l) ?_;rintro e q o ⟨rfl,b⟩;exact⟨rfl,b⟩
def Sa (ρ:Ren)(fr:Fr)(tmps:Array Value)(h:FR ρ fr tmps):∀(L:List Nat),FR ρ (LK L (L.map (fH fr))) tmps:=by
 intro L
 induction L with
 |nil=>intro t;exact .any _
 |cons l L b=>
  intro t;show VR ρ (fH (PT.put (LK L ((fH fr l::L.map (fH fr)).drop 1)) l (some (fH fr l))) t) _
  by_cases e:t=l
  .subst e;rw[mO];exact h t
  .rw[nf _ _ _ _ e];exact b t
def MI {ρ:Ren}{fr:Fr}{tmps:Array Value}(h:FR ρ fr tmps):FR ρ (yx L fr) tmps:=by
 cases L with
 |none=>exact h
 |some L=>exact Sa ρ fr tmps h L
def EU (q:Ok P n x f):∀(k:Nat) (fr:Fr) (st:St) (ρ:Ren) (a:Act) (w:World),yM f L k fr st≠ .bad->WR ρ st w->FR ρ fr a.tmps->n<=a.tmps.size->a.defers=[]->
 Code.rounds P x (qW ρ st w n (yM f L k fr st)) k a w:=by
 intro k
 have g:∀{Q y:Exit->Act->World->Prop} (h:∀e a w,Q e a w->y e a w) (k:Nat) (a:Act) (w:World),Code.rounds P x Q k a w->Code.rounds P x y k a w:=by
  intro Q y h k
  induction k with
  |zero=>intro a w hh;exact hh
  |succ k o=>
   intro a w hh;rw[rounds_succ]at hh⊢;refine wp_mono hh ?_;intro e a w A;cases e<;>first|exact o _ _ A|exact h _ _ _ A
 induction k with
 |zero=>intro fr st ρ a w c;exact absurd rfl c
 |succ k o=>
  intro z st ρ a w c r B s u;have hf:=MI (L:=L) B;have e:yM f L (k+1) z st=uN (f (yx L z) st) (yM f L k):=rfl;rw[e]at c⊢;generalize yx L z=fr at hf c⊢;rw[rounds_succ];cases d:f fr st with
  |bad=>rw[d]at c;exact absurd rfl c
  |norm m hO=>
   have h1:=q fr st ρ a w (by rw[d];simp) r hf s u;rw[d]at h1 c;refine wp_mono h1 ?_;rintro e j i ⟨rfl,l,b⟩;exact g (λe a w h=>qW.step b.after h) k j i (o m hO l j i c b.after.wr b.fr b.sz b.defers)
  |exit id m hO=>
   have h1:=q fr st ρ a w (by rw[d];simp) r hf s u;rw[d]at h1;refine wp_mono h1 ?_;rintro e j i ⟨rfl,b⟩;exact⟨rfl,b⟩
  |ret m hO=>
   have h1:=q fr st ρ a w (by rw[d];simp) r hf s u;rw[d]at h1;refine wp_mono h1 ?_;rintro e j i ⟨rfl,b⟩;exact⟨rfl,b⟩
def VT (q:jw P call)(z:uu P dr)(c:Code):Ok P n c (mj P call dr lv fuel n c):=by
 induction c with
 |skip=>intro fr st ρ a w _ g d i j;exact wp_skip ⟨rfl,ρ,d,i,j,bp.refl g⟩
 |region id ops draw=>
  intro fr st ρ a w b g d i j;cases draw with
  |true=>exact z call n q id ops fr st ρ a w b g d i j
  |false=>exact wp_region_list (Ek q ops.toList fr st ρ a w b g d i j)
 |seq x y hx m=>exact Po hx (λfr st ρ a w b g d i j=>m _ st ρ a w b g (MI d) i j)
 |cond c x y hx m=>
  intro fr st ρ a w b g d i j;have e:mj P call dr lv fuel n (.cond c x y) fr st=DG c (mj P call dr lv fuel n x) (mj P call dr lv fuel n y) fr st:=rfl;rw[e]at b⊢;unfold DG at b⊢;cases o:fh c with
  |none=>rw[o]at b;exact absurd rfl b
  |some c'=>
   rw[o]at b;have k:=bB o d;dsimp only at b⊢;generalize C:ev fr c'=cv at b k⊢;cases cv with
   |bool t=>
    generalize r:a.eval c=u at k;cases k;cases t with
    |true=>exact wp_cond_true r (hx fr st ρ a w b g d i j)
    |false=>exact wp_cond_false r (m fr st ρ a w b g d i j)
   |_=>exact absurd rfl b
 |block id x hx=>exact Hv hx
 |loop x hx=>intro fr st ρ a w b g d i j;exact wp_loop_rounds fuel (EU hx fuel fr st ρ a w b g d i j)
 |rangeFunc f ps x y hx m=>intro fr st ρ a w b;exact absurd rfl b
 |exit id=>intro fr st ρ a w _ g d i j;exact wp_exit ⟨rfl,ρ,d,i,j,bp.refl g⟩
 |scope x hx=>
  intro fr st ρ a w b g d i j;refine wp_scope_straight (wp_mono (hx fr st ρ a w b g d i j) ?_);intro e B A h;have s:mj P call dr lv fuel n (.scope x) fr st=mj P call dr lv fuel n x fr st:=rfl;rw[s];cases e with
  |goto l=>
   unfold qW at h
   split at h
   .exact absurd h.1 wb
   .exact absurd h.1 wb
   .exact absurd h.1 wb
   .exact h.elim
  |_=>exact h
 |label l=>intro fr st ρ a w _ g d i j;exact wp_label ⟨rfl,ρ,d,i,j,bp.refl g⟩
 |goto l=>intro fr st ρ a w b;exact absurd rfl b
 |ret=>intro fr st ρ a w _ g d i j;exact wp_ret ⟨rfl,ρ,d,i,j,bp.refl g⟩
 |refuse y=>intro fr st ρ a w b;exact absurd rfl b
end
def rK (args:List CV):Fr:=λt=>args[t]?
def KI {ρ:Ren}{args:List CV}{args':Array Value}(h:eM ρ args args'.toList)(k:Nat):FR ρ (rK args) (args'++Array.replicate k undef):=by
 intro t;have d:args.length=args'.size:=by rw[h.len];simp
 by_cases e:t<args.length
 .have h1:args[t]?=some args[t]:=by simp[e]
  have i:args'.toList[t]?=some (args'[t]' uM):=wb
  have g:=h.at' t _ _ h1 i
  have c:(args'++Array.replicate k undef).getD t Go.undef=args'[t]'(by omega):=by
   simp[aKC,show t<args'.size from uM]
  have b:fH (rK args) t=args[t]:=by show(Option.rec _ _ (args[t]?):CV)=_;rw[h1]
  rw[c,b];exact g
 .have c:(args'++Array.replicate k undef).getD t Go.undef=Go.undef:=by
   simp only[Array.getD_eq_getD_getElem?,aKC,aHM (show¬t<args'.size by omega),Array.getElem?_replicate]
   split<;>rfl
  have b:fH (rK args) t=.undef:=by show(Option.rec _ _ (args[t]?):CV)=_;rw[aIN uM]
  rw[c,b];exact .undef
def CR (P:Program)(fr:Fr)(st:St)(r:ResultVar):Option CV:=
 match r with
 | .tmp t=>some (fH fr (t))
 | .cell a t=>(match P.underlying t,P.info? t with
   |some u,some i=>(match bE (iO u) (aJ i.size (fH fr (a)) st) (aA (fH fr (a)) st)with| .ok v _=>some v| .bad=>none)
   |_,_=>none)
def JF (P:Program)(fr:Fr)(st:St)(l:List ResultVar):Option (List CV):=
 List.rec (some []) (λr _ b=>match CR P fr st r,b with|some v,some l=>some (v::l)|_,_=>none) l
def BZ (P:Program)(fr:Fr)(st:St)(l:List ResultVar):OR:=
 match JF P fr st l with
 |some []=>.ok .undef st
 |some [v]=>.ok v st
 |some l=>.ok (.tuple l) st
 |none=>.bad
def Fu (P:Program)(dr:ze)(lv:Nat->Nat->Option (List Nat))(fuel:Nat)(call:gu)(f:Nat)(args:List CV)(st:St):OR:=
 bE (iq P f) (match P.funcs[f]? with
  |some fn=>(match fn.body with
   |some c=>(match mj P call dr (lv f) fuel fn.ntmps c (rK args) st with
    | .norm fr st=>BZ P fr st fn.results.toList
    | .exit _ _ _=>.bad
    | .ret fr st=>BZ P fr st fn.results.toList
    | .bad=>.bad)
   |none=>.bad)
  |none=>.bad) .bad
section
variable {P:Program} {call:gu} {dr:ze} {ρ:Ren} {st st':St} {w:World} {fr:Fr} {a:Act} {v:CV}
def ND (h:aA p st=.ok v st')(o:WR ρ st w)(u:VR ρ p p')(q:(isAgg t).run P w=.ok false w):
 ∃v',(do loadVar t (<-asAddr p'):Sem Value).run P w=.ok v' w/\VR ρ v v':=by
 unfold aA at h
 split at h
 .rename_i b off
  split at h
  .rename_i s e g hm;cases hx:s[off]? with
   |none=>rw[hx]at h;cases h
   |some x=>
    rw[hx]at h;cases h;cases u with
    |ptr _ _ r sz i=>
     obtain⟨c,lo,hi,m,z,y,l,A⟩:=o.row hm i;obtain⟨d,k,j⟩:=tO l hx;refine⟨_,?_,j⟩;simp[asAddr,loadVar,q,nV P w r off c e (lo,hi) d m (wm k),-run_load]
  .rename_i s o0 hm;cases hx:s[off]? with
   |none=>rw[hx]at h;cases h
   |some x=>
    rw[hx]at h;cases h;cases u with
    |ptr _ _ r sz i=>
     obtain⟨c,e,lo,hi,m,z,y,l⟩:=o.PN hm i;obtain⟨d,k,j⟩:=tO l hx;refine⟨_,?_,j⟩;simp[asAddr,loadVar,q,nV P w r off c e (lo,hi) d m (wm k),-run_load]
  .cases h
 .cases h
def NC {n:Nat}(h:aJ n p st=.ok v st')(m:WR ρ st w)(q:VR ρ p p')(o:(isAgg t).run P w=.ok true w)
 (u:(Go.sizeOf t).run P w=.ok n w):∃v',(do loadVar t (<-asAddr p'):Sem Value).run P w=.ok v' w/\VR ρ v v':=by
 unfold aJ at h
 split at h
 .rename_i b off
  split at h
  .rename_i s d g hm;cases hx:gY s off n with
   |none=>rw[hx]at h;cases h
   |some x=>
    rw[hx]at h;cases h;cases q with
    |ptr _ _ r sz i=>
     obtain⟨c,lo,hi,l,A,z,k,B⟩:=m.row hm i;obtain⟨y,j⟩:=ko hx;refine⟨.agg ((c.toList.drop off).take n).toArray,?_,(VR.FH ?_)⟩
     .simp[asAddr,loadVar,o,u,eo P w r off n c d (lo,hi) l uM]
     .rw[show x=(s.drop off).take n from j]
      have e:(c.toList.drop off).take n=((c.toList.take s.length).drop off).take n:=by
       rw[aJF,aJc,aIC uM]
      rw[e];exact(k.drop off).take n
  .rename_i s o0 hm;cases hx:gY s off n with
   |none=>rw[hx]at h;cases h
   |some x=>
    rw[hx]at h;cases h;cases q with
    |ptr _ _ r sz i=>
     obtain⟨c,d,lo,hi,l,A,z,k⟩:=m.PN hm i;obtain⟨y,j⟩:=ko hx;refine⟨.agg ((c.toList.drop off).take n).toArray,?_,(VR.FH ?_)⟩
     .simp[asAddr,loadVar,o,u,eo P w r off n c d (lo,hi) l uM]
     .rw[show x=(s.drop off).take n from j]
      have e:(c.toList.drop off).take n=((c.toList.take s.length).drop off).take n:=by
       rw[aJF,aJc,aIC uM]
      rw[e];exact(k.drop off).take n
  .cases h
 .cases h
def En (a:Act)(r:ResultVar):Sem Value:=match r with| .tmp t=>pure (a.tmps.getD t undef)| .cell b t=>do loadVar t (<-asAddr (a.tmps.getD b undef))
def GH {r:ResultVar}{v:CV}(h:CR P fr st r=some v)(b:WR ρ st w)(c:FR ρ fr a.tmps):
 ∃v',(En a r).run P w=.ok v' w/\VR ρ v v':=by
 unfold CR at h
 split at h
 .rename_i t;cases h;exact⟨_,rfl,c t⟩
 .rename_i d t
  split at h
  .rename_i u i hu hi;have hp:=c d;rw[aO]at h
   by_cases ha:iO u=true
   .rw[aHP ha]at h
    split at h
    .rename_i v1 hO hh;cases h;exact NC (t:=t) hh b hp (by rw[tZ hu,ha]) (iw hi)
    .cases h
   .rw[aHM ha]at h
    split at h
    .rename_i v1 hO hh;cases h;exact ND (t:=t) hh b hp acX
    .cases h
  .cases h
def vq:∀{l:List ResultVar} {b:List CV},JF P fr st l=some b->WR ρ st w->FR ρ fr a.tmps->∃c,(l.mapM (En a)).run P w=.ok c w/\eM ρ b c:=by
 intro l
 induction l with
 |nil=>intro b h _ _;cases h;exact⟨[],rfl,eM.nil ρ⟩
 |cons r l i=>
  intro b h d g;have e:JF P fr st (r::l)=(match CR P fr st r,JF P fr st l with|some v,some l=>some (v::l)|_,_=>none):=rfl;rw[e]at h
  split at h
  .rename_i v l1 h1 h2;cases h;obtain⟨v',o,m⟩:=GH h1 d g;obtain⟨c,k,j⟩:=i h2 d g;exact⟨v'::c,by simp[List.mapM_cons,o,k],eM.cons m j⟩
  .cases h
def An {d:Func}(h:BZ P fr st d.results.toList=.ok v st')(j:WR ρ st w)(k:FR ρ fr a.tmps):st'=st/\∃v',(results d a.tmps).run P w=.ok v' w/\VR ρ v v':=by
 unfold BZ at h
 have e:∀{b},(d.results.toList.mapM (En a)).run P w=.ok b w->(results d a.tmps).run P w=.ok (if h:b.toArray.size=1 then b.toArray[0]else .tuple b.toArray) w:=by
  intro b o;have s:results d a.tmps=(do let vs<-d.results.mapM (En a);pure (if h:vs.size=1 then vs[0]else .tuple vs)):=rfl;rw[s,Array.mapM_eq_mapM_toList];simp[o]
 split at h
 .rename_i hl;cases h;obtain⟨b,i,c⟩:=vq hl j k;have:b=[]:=by have:=c.len;simpa using this.symm
  subst this;exact⟨rfl,_,e i,by simpa using VR.undef⟩
 .rename_i u hl;cases h;obtain⟨b,i,c⟩:=vq hl j k;obtain⟨y,m,rfl,r,q⟩:=c.inv;have:m=[]:=by have:=q.len;simpa using this.symm
  subst this;exact⟨rfl,_,e i,by simpa using r⟩
 .rename_i l h0 h1 hl;cases h;obtain⟨b,i,c⟩:=vq hl j k;refine⟨rfl,_,e i,?_⟩
  have g:b.toArray.size≠1:=by
   intro hh;have:=c.len;simp only[aKp]at hh;rw[hh]at this;obtain⟨x,rfl⟩:=List.length_eq_one_iff.1 this;exact h1 x rfl
  rw[dif_neg g];exact VR.tuple _ _ (by exact c.len) (by exact c.at')
 .cases h
def xf (o:jw P call)(u:uu P dr){lv:Nat->Nat->Option (List Nat)}{fuel f:Nat}{args:List CV}(h:Fu P dr lv fuel call f args st=.ok v st'):iq P f=true/\FM P f args st v st':=by
 unfold Fu at h;rw[aO]at h
 split at h
 .rename_i y;refine⟨y,?_⟩
  split at h
  .rename_i fn hfn
   split at h
   .rename_i c hb;intro ρ w args' m q;refine calls_of_wp hfn hb ?_;have g:=VT (n:=fn.ntmps) (lv:=lv f) (fuel:=fuel) o u c (rK args) st ρ {tmps:=args'++Array.replicate (fn.ntmps-args'.size) undef,defers:=[]} w;generalize mj P call dr (lv f) fuel fn.ntmps c (rK args) st=r at h g;have g:=g (by intro e;subst e;cases h) m (KI q _) zS rfl;cases r with
    |norm k hO=>
     refine wp_mono g ?_;rintro e s l ⟨rfl,d,b⟩;obtain⟨rfl,v',j,i⟩:=An h b.after.wr b.fr;exact⟨b.defers,v',j,v',d,rfl,i,b.after⟩
    |ret k hO=>
     refine wp_mono g ?_;rintro e s l ⟨rfl,d,b⟩;obtain⟨rfl,v',j,i⟩:=An h b.after.wr b.fr;exact⟨b.defers,v',j,v',d,rfl,i,b.after⟩
    |exit id k hO=>cases h
    |bad=>cases h
   .cases h
  .cases h
 .cases h
end
abbrev zd:=Nat->List CV->St->Option OR
def qX (P:Program)(I:zd):Prop:=∀f args st v st',I f args st=some (.ok v st')->uw P f args st v st'
def BY (P:Program)(dr:ze)(lv:Nat->Nat->Option (List Nat))(I:zd):Nat->gu
 |0=>λ_ _ _=>.bad
 |n+1=>λf args st=>match I f args st with|some r=>r|none=>Fu P dr lv n (BY P dr lv I n) f args st
def JE {P:Program}{dr:ze}{lv:Nat->Nat->Option (List Nat)}{I:zd}(e:uu P dr)(d:qX P I):∀fuel,jw P (BY P dr lv I fuel):=by
 intro fuel
 induction fuel with
 |zero=>intro f args st v st' h;cases h
 |succ fuel b=>
  intro f args st v st' h;simp only[BY]at h
  split at h
  .rename_i r c;exact d f args st v st' (by rw[c,h])
  .exact .inl (xf b e h)
end
