import Derived.Test.YtomffjeofpafnaaGreatDoorLimH
namespace Lim
open Go
noncomputable section
set_option maxRecDepth 100000
open Classical in
def l4 (e k:Nat)(args:List CV)(st:St):Option OR:=
 match args with
 |[.slice b 0 n cap grow, .int .i64 (.ofNat i), .slice vb 0 1 1 0]=>
  (match st.mem.get b,st.mem.get vb with
  |some (.cells L ty true),some (.cells T tv false)=>
   if cap=n/\grow=k/\0<k/\i<n/\b≠vb/\ty=e/\tv=e/\L.length=n*k/\aX L=true/\aX T=true/\T.length=k/\n<=1000000 then
    some (.ok (.slice st.next 0 (n+1) (n+1) k) ⟨(st.mem.put b none).put st.next (some (.cells (L.take (i*k)++(T++L.drop (i*k))) e true)),st.next+1⟩)
   else none
  |_,_=>none)
 |_=>none
def iC (es:List eE):List Int:=es.map fun e=>match e.1 with| .int _ a=>a|_=>0
def oo (l:List Int):List Int:=l.mergeSort fun a b=>decide (a<=b)
def ic (es:List eE):Prop:=(∀e∈es,∃a:Int,e.1= .int .i64 a/\0<=a/\a<=9223372036854775807)/\(iC es).Nodup/\es.length<=100000000
def Qu (clock:Nat)(es:List eE):Prop:=(∀e∈es,e.2.2<clock)/\(es.map (·.2.2)).Nodup
def mQ (x:Option qS)(es:List eE):Prop:=
 match x with
 |some (.map es' clock)=>es'=es/\Qu clock es
 |some (.lmap es')=>es'=es
 |_=>False
def uM (t:TypeId)(es:List eE)(st:St):OR:=
 if es=[]then .ok .ae st else .ok (.slice st.next 0 es.length es.length 1) (St.new st (.cells ((oo (iC es)).map I) t true))
def lH (x:Option qS):List eE:=match x with|some (.map es _)=>es|some (.lmap es)=>es|_=>[]
open Classical in
def Eh (K:Nat)(t:TypeId)(args:List CV)(st:St):Option OR:=
 match args with
 |[.func (.func k) [] [.ptr bb 0]]=>(match st.mem.get bb with
  |some (.cells [.map mb] _ _)=>if k=K/\mQ (st.mem.get mb) (lH (st.mem.get mb))/\ic (lH (st.mem.get mb))then some (uM t (lH (st.mem.get mb)) st)else none
  |_=>none)
 |_=>none
def gG (es:List eE):List eE:=es.map fun e=>(e.1,e.2.1,0)
open Classical in
def j9 (d s:List eE):List eE:=(gG d).filter (fun e=>decide (¬∃x∈s,x.1=e.1))++gG s
def Gu (n:Nat)(es:List eE):Prop:=∀e∈es,∃s,e.2.1= .agg s/\s.length=n/\aX s=true
open Classical in
def Ge (n:Nat)(args:List CV)(st:St):Option OR:=
 match args with
 |[.map bd, .map bs]=>if bd≠bs/\mQ (st.mem.get bd) (lH (st.mem.get bd))/\mQ (st.mem.get bs) (lH (st.mem.get bs))/\ic (lH (st.mem.get bd))/\ic (lH (st.mem.get bs))/\Gu n (lH (st.mem.get bs))then
    some (.ok .undef ⟨st.mem.put bd (some (.lmap (j9 (lH (st.mem.get bd)) (lH (st.mem.get bs))))),st.next⟩)else none
 |_=>none
def I0:xx:=fun f args st=>
 bC (Nat.beq f 51) (l4 109 4 args st) (bC (Nat.beq f 144) (l4 3 1 args st) (bC (Nat.beq f 121) (Eh 163 3 args st) (bC (Nat.beq f 133) (Ge 512 args st) none)))
abbrev R:=oJ P0 lvs I0
theorem bO {f:Nat}{args:List CV}{st:St}{Q:CV->St->Prop}(h:aP P0 R (lvs f) f args st Q)(hI:I0 f args st=none:=by rfl):R f args st Q:=zW (P:=P0) (lvs:=lvs) (I:=I0) (f:=f) (args:=args) (st:=st) hI h
theorem Qj {f:Nat}{args:List CV}{st st':St}{v:CV}{Q:CV->St->Prop}(hI:I0 f args st=some (.ok v st'))(hq:Q v st'):R f args st Q:=by
 refine⟨v,st',⟨1,fun n hn=> ?_⟩,hq⟩;obtain⟨m,rfl⟩:∃m,n=m+1:=⟨n-1,by omega⟩;unfold RF;simp only[Ax,hI]
theorem R.mono {f:Nat}{args:List CV}{st:St}{Q Q':CV->St->Prop}(h:R f args st Q)(hq:∀v st',Q v st'->Q' v st'):R f args st Q':=oJ.mono h hq
