import Derived.Test.YtomffjeofpafnaaGreatDoorLimH
namespace Lim
open Go
noncomputable section
set_option linter.defProp false
set_option maxRecDepth 100000
section
variable {f:Nat}{st:St}{Q:CV->St->Prop}
open Classical in
def mF (e k:Nat)(args:List CV)(st:St):Option OR:=
 match args with
 |[.slice b 0 n cap grow,.int .i64 (.ofNat i),.slice vb 0 1 1 0]=>
  (match st.m.g b,st.m.g vb with
  |some (.cells L ty true),some (.cells T tv false)=>
   if cap=n/\grow=k/\0<k/\i<n/\b≠vb/\ty=e/\tv=e/\L.length=n*k/\aU L=true/\aU T=true/\T.length=k/\n<=1000000 then
    some (.ok (.slice st.nx 0 (n+1) (n+1) k) ⟨(st.m.put b none).put st.nx (some (.cells (L.take (i*k)++(T++L.drop (i*k))) e true)),st.nx+1⟩)
   else none
  |_,_=>none)
 |_=>none
def iX (es:List eH):List Int:=es.map λe=>match e.1 with| .int _ a=>a|_=>0
def oF (l:List Int):List Int:=l.mergeSort λa b=>decide (a<=b)
def iq (es:List eH):Prop:=(∀e∈es,∃a:Int,e.1=.int .i64 a/\0<=a/\a<=9223372036854775807)/\(iX es).Nodup/\es.length<=100000000
def Ro (clock:Nat)(es:List eH):Prop:=(∀e∈es,e.2.2<clock)/\(es.map (·.2.2)).Nodup
def nu (x:Option qN)(es:List eH):Prop:=
 match x with
 |some (.map es' clock)=>es'=es/\Ro clock es
 |some (.lmap es')=>es'=es
 |_=>False
def vu (t:TypeId)(es:List eH)(st:St):OR:=
 if es=[]then .ok .ae st else .ok (.slice st.nx 0 es.length es.length 1) (St.new st (.cells ((oF (iX es)).map I) t true))
def mi (x:Option qN):List eH:=match x with|some (.map es _)=>es|some (.lmap es)=>es|_=>[]
open Classical in
def ES (K:Nat)(t:TypeId)(args:List CV)(st:St):Option OR:=
 match args with
 |[.func (.func k) [] [.ptr bb 0]]=>(match st.m.g bb with
  |some (.cells [.map mb] _ _)=>if k=K/\nu (st.m.g mb) (mi (st.m.g mb))/\iq (mi (st.m.g mb))then some (vu t (mi (st.m.g mb)) st)else none
  |_=>none)
 |_=>none
def gH (es:List eH):List eH:=es.map λe=>(e.1,e.2.1,0)
open Classical in
def kJ (d s:List eH):List eH:=(gH d).filter (λe=>decide (¬∃x∈s,x.1=e.1))++gH s
def Hm (n:Nat)(es:List eH):Prop:=∀e∈es,∃s,e.2.1=.agg s/\s.length=n/\aU s=true
open Classical in
def G8 (n:Nat)(args:List CV)(st:St):Option OR:=
 match args with
 |[.map bd,.map bs]=>if bd≠bs/\nu (st.m.g bd) (mi (st.m.g bd))/\nu (st.m.g bs) (mi (st.m.g bs))/\iq (mi (st.m.g bd))/\iq (mi (st.m.g bs))/\Hm n (mi (st.m.g bs))then
    some (.ok .undef ⟨st.m.put bd (some (.lmap (kJ (mi (st.m.g bd)) (mi (st.m.g bs))))),st.nx⟩)else none
 |_=>none
def I0:yc:=λf args st=>
 bz (Nat.beq f 51) (mF 109 4 args st) (bz (Nat.beq f 144) (mF 3 1 args st) (bz (Nat.beq f 121) (ES 163 3 args st) (bz (Nat.beq f 133) (G8 512 args st) none)))
abbrev R:=oU P0 lvs I0
def bN {args:List CV}(h:aM P0 R (lvs f) f args st Q)(hI:I0 f args st=none:=by rfl):R f args st Q:=Ay (P:=P0) (lvs:=lvs) (I:=I0) (f:=f) (args:=args) (st:=st) hI h
def Re {args:List CV}{st':St}{v:CV}(hI:I0 f args st=some (.ok v st'))(hq:Q v st'):R f args st Q:=by
 refine⟨v,st',⟨1,λn hn=>?_⟩,hq⟩;obtain⟨m,rfl⟩:∃m,n=m+1:=⟨n-1,pX⟩;unfold RF;simp only[AX,hI]
def R.mono {args:List CV}{Q':CV->St->Prop}(h:R f args st Q)(hq:∀v st',Q v st'->Q' v st'):R f args st Q':=oU.mono h hq
end
