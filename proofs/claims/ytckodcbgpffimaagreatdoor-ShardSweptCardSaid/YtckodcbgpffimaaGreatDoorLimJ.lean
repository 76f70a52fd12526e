import Derived.Test.YtckodcbgpffimaaGreatDoorLimH
namespace Lim
open Go
noncomputable section
set_option linter.defProp false
set_option maxRecDepth 100000
section
variable {f:Nat}{Z:O}{Q:K->O->Prop}
open Classical in
def oC (e k:Nat)(args:List K)(Z:O):Option OR:=
 match args with
 |[.slice b 0 n cap grow,.int .i64 (.ofNat i),.slice vb 0 1 1 0]=>
  (match Z.m.g b,Z.m.g vb with
  |some (.cells L ty true),some (.cells T a false)=>
   if cap=n/\grow=k/\0<k/\i<n/\b≠vb/\ty=e/\a=e/\L.length=n*k/\bh L=true/\bh T=true/\T.length=k/\n<=1000000 then
    some (.ok (.slice Z.nx 0 (n+1) (n+1) k) ⟨(Z.m.put b none).put Z.nx (some (.cells (L.take (i*k)++(T++L.drop (i*k))) e true)),Z.nx+1⟩)
   else none
  |_,_=>none)
 |_=>none
def ko (b:δ fh):δ Int:=b.map λe=>match e.1 with| .int _ a=>a|_=>0
def qH (l:δ Int):δ Int:=l.mergeSort λa b=>decide (a<=b)
def jC (b:δ fh):Prop:=(∀e∈b,∃a:Int,e.1=I a/\0<=a/\a<=9223372036854775807)/\(ko b).Nodup/\b.length<=100000000
def UY (a:Nat)(b:δ fh):Prop:=(∀e∈b,e.2.2<a)/\(b.map (·.2.2)).Nodup
def pI (x:υ tp)(a:δ fh):Prop:=
 match x with
 |some (.map es' clock)=>es'=a/\UY clock a
 |some (.lmap es')=>es'=a
 |_=>False
def xR (t:TypeId)(a:δ fh)(Z:O):OR:=
 if a=[]then .ok .ae Z else .ok (.slice Z.nx 0 a.length a.length 1) (O.new Z (.cells ((qH (ko a)).map I) t θ))
def nD (x:υ tp):δ fh:=match x with|some (.map es _)=>es|some (.lmap es)=>es|_=>[]
open Classical in
def HC (b:Nat)(t:TypeId)(args:List K)(Z:O):Option OR:=
 match args with
 |[.func (.func k) [] [.ptr c 0]]=>(match Z.m.g c with
  |some (.cells [.map a] _ _)=>if k=b/\pI (Z.m.g a) (nD (Z.m.g a))/\jC (nD (Z.m.g a))then some (xR t (nD (Z.m.g a)) Z)else none
  |_=>none)
 |_=>none
def iH (a:δ fh):δ fh:=a.map λe=>(e.1,e.2.1,0)
open Classical in
def lT (d s:List fh):List fh:=(iH d).filter (λe=>decide (¬∃x∈s,x.1=e.1))++iH s
def JQ (n:Nat)(a:δ fh):Prop:=∀e∈a,∃s,e.2.1=.agg s/\s.length=n/\bh s=θ
open Classical in
def JA (n:Nat)(args:List K)(Z:O):Option OR:=
 match args with
 |[.map bd,.map a]=>if bd≠a/\pI (Z.m.g bd) (nD (Z.m.g bd))/\pI (Z.m.g a) (nD (Z.m.g a))/\jC (nD (Z.m.g bd))/\jC (nD (Z.m.g a))/\JQ n (nD (Z.m.g a))then
    some (.ok .undef ⟨Z.m.put bd (some (.lmap (lT (nD (Z.m.g bd)) (nD (Z.m.g a))))),Z.nx⟩)else none
 |_=>none
def I0:Aj:=λf args Z=>
 bF (Nat.beq f 183) (oC 255 4 args Z) (bF (Nat.beq f 247) (oC 3 1 args Z) (bF (Nat.beq f 158) (HC 206 3 args Z) (bF (Nat.beq f 188) (JA 512 args Z) ν)))
abbrev Rq0:=rC P0 hY I0
def bE {args:δ K}(h:aM P0 Rq0 (hY f) f args Z Q)(a:I0 f args Z=ν:=by rfl):Rq0 f args Z Q:=Cy (P:=P0) (hY:=hY) (I:=I0) (f:=f) (args:=args) (Z:=Z) a h
def UN {args:δ K}{Z':O}{v:K}(b:I0 f args Z=Φ (.ok v Z'))(a:Q v Z'):Rq0 f args Z Q:=by
 refine⟨v,Z',⟨1,λn c=>?_⟩,a⟩;obtain⟨m,rfl⟩:∃m,n=m+1:=⟨n-1,J⟩;unfold RF;simp only[C3,b]
def Rq0.mono {args:δ K}{a:K->O->Prop}(h:Rq0 f args Z Q)(b:∀v Z',Q v Z'->a v Z'):Rq0 f args Z a:=rC.mono h b
end
