import Derived.Test.YtomffjeofpafnaaGreatDoorLimH
namespace Lim
open Go
noncomputable section
set_option linter.defProp false
set_option maxRecDepth 100000
section
variable {f:Nat}{st:St}{Q:CV->St->Prop}
open Classical in
def mZ (e k:Nat)(args:List CV)(st:St):Option OR:=
 match args with
 |[.slice b 0 n cap grow,.int .i64 (.ofNat i),.slice vb 0 1 1 0]=>
  (match st.m.g b,st.m.g vb with
  |some (.cells L ty true),some (.cells T a false)=>
   if cap=n/\grow=k/\0<k/\i<n/\b≠vb/\ty=e/\a=e/\L.length=n*k/\bh L=true/\bh T=true/\T.length=k/\n<=1000000 then
    some (.ok (.slice st.nx 0 (n+1) (n+1) k) ⟨(st.m.put b none).put st.nx (some (.cells (L.take (i*k)++(T++L.drop (i*k))) e true)),st.nx+1⟩)
   else none
  |_,_=>none)
 |_=>none
def jA (b:List eK):List Int:=b.map λe=>match e.1 with| .int _ a=>a|_=>0
def pI (l:List Int):List Int:=l.mergeSort λa b=>decide (a<=b)
def iP (b:List eK):Prop:=(∀e∈b,∃a:Int,e.1=.int .i64 a/\0<=a/\a<=9223372036854775807)/\(jA b).Nodup/\b.length<=100000000
def S0 (a:Nat)(b:List eK):Prop:=(∀e∈b,e.2.2<a)/\(b.map (·.2.2)).Nodup
def oe (x:Option rU)(a:List eK):Prop:=
 match x with
 |some (.map es' clock)=>es'=a/\S0 clock a
 |some (.lmap es')=>es'=a
 |_=>False
def wv (t:TypeId)(a:List eK)(st:St):OR:=
 if a=[]then .ok .ae st else .ok (.slice st.nx 0 a.length a.length 1) (St.new st (.cells ((pI (jA a)).map I) t true))
def mF (x:Option rU):List eK:=match x with|some (.map es _)=>es|some (.lmap es)=>es|_=>[]
open Classical in
def Gt (K:Nat)(t:TypeId)(args:List CV)(st:St):Option OR:=
 match args with
 |[.func (.func k) [] [.ptr b 0]]=>(match st.m.g b with
  |some (.cells [.map a] _ _)=>if k=K/\oe (st.m.g a) (mF (st.m.g a))/\iP (mF (st.m.g a))then some (wv t (mF (st.m.g a)) st)else none
  |_=>none)
 |_=>none
def ia (a:List eK):List eK:=a.map λe=>(e.1,e.2.1,0)
open Classical in
def lp (d s:List eK):List eK:=(ia d).filter (λe=>decide (¬∃x∈s,x.1=e.1))++ia s
def IP (n:Nat)(a:List eK):Prop:=∀e∈a,∃s,e.2.1=.agg s/\s.length=n/\bh s=true
open Classical in
def Iy (n:Nat)(args:List CV)(st:St):Option OR:=
 match args with
 |[.map bd,.map a]=>if bd≠a/\oe (st.m.g bd) (mF (st.m.g bd))/\oe (st.m.g a) (mF (st.m.g a))/\iP (mF (st.m.g bd))/\iP (mF (st.m.g a))/\IP n (mF (st.m.g a))then
    some (.ok .undef ⟨st.m.put bd (some (.lmap (lp (mF (st.m.g bd)) (mF (st.m.g a))))),st.nx⟩)else none
 |_=>none
def I0:zd:=λf args st=>
 bE (Nat.beq f 51) (mZ 109 4 args st) (bE (Nat.beq f 144) (mZ 3 1 args st) (bE (Nat.beq f 121) (Gt 163 3 args st) (bE (Nat.beq f 133) (Iy 512 args st) none)))
abbrev R:=qt P0 lvs I0
def bK {args:List CV}(h:aN P0 R (lvs f) f args st Q)(a:I0 f args st=none:=by rfl):R f args st Q:=By (P:=P0) (lvs:=lvs) (I:=I0) (f:=f) (args:=args) (st:=st) a h
def SO {args:List CV}{st':St}{v:CV}(b:I0 f args st=some (.ok v st'))(a:Q v st'):R f args st Q:=by
 refine⟨v,st',⟨1,λn c=>?_⟩,a⟩;obtain⟨m,rfl⟩:∃m,n=m+1:=⟨n-1,uM⟩;unfold RF;simp only[BY,b]
def R.mono {args:List CV}{a:CV->St->Prop}(h:R f args st Q)(b:∀v st',Q v st'->a v st'):R f args st a:=qt.mono h b
end
