import Derived.Test.YtomffjeofpafnaaGreatDoorLimH
namespace Lim
open Go
noncomputable section
set_option maxRecDepth 100000
open Classical in
def mg (e k:Nat)(args:List CV)(st:St):Option OR:=
 match args with
 |[.slice b 0 n cap grow, .int .i64 (.ofNat i), .slice vb 0 1 1 0]=>
  (match st.mem.get b,st.mem.get vb with
  |some (.cells L ty true),some (.cells T tv false)=>
   if cap=n/\grow=k/\0<k/\i<n/\b≠vb/\ty=e/\tv=e/\L.length=n*k/\aV L=true/\aV T=true/\T.length=k/\n<=1000000 then
    some (.ok (.slice st.next 0 (n+1) (n+1) k) ⟨(st.mem.put b none).put st.next (some (.cells (L.take (i*k)++(T++L.drop (i*k))) e true)),st.next+1⟩)
   else none
  |_,_=>none)
 |_=>none
def iy (es:List eE):List Int:=es.map fun e=>match e.1 with| .int _ a=>a|_=>0
def nU (l:List Int):List Int:=l.mergeSort fun a b=>decide (a<=b)
def ie (es:List eE):Prop:=(∀e∈es,∃a:Int,e.1= .int .i64 a/\0<=a/\a<=9223372036854775807)/\(iy es).Nodup/\es.length<=100000000
def Pm (clock:Nat)(es:List eE):Prop:=(∀e∈es,e.2.2<clock)/\(es.map (·.2.2)).Nodup
def mU (x:Option qJ)(es:List eE):Prop:=
 match x with
 |some (.map es' clock)=>es'=es/\Pm clock es
 |some (.lmap es')=>es'=es
 |_=>False
def uI (t:TypeId)(es:List eE)(st:St):OR:=
 if es=[]then .ok .ae st else .ok (.slice st.next 0 es.length es.length 1) (St.new st (.cells ((nU (iy es)).map I) t true))
def lM (x:Option qJ):List eE:=match x with|some (.map es _)=>es|some (.lmap es)=>es|_=>[]
open Classical in
def DQ (K:Nat)(t:TypeId)(args:List CV)(st:St):Option OR:=
 match args with
 |[.func (.func k) [] [.ptr bb 0]]=>(match st.mem.get bb with
  |some (.cells [.map mb] _ _)=>if k=K/\mU (st.mem.get mb) (lM (st.mem.get mb))/\ie (lM (st.mem.get mb))then some (uI t (lM (st.mem.get mb)) st)else none
  |_=>none)
 |_=>none
def gC (es:List eE):List eE:=es.map fun e=>(e.1,e.2.1,0)
open Classical in
def jX (d s:List eE):List eE:=(gC d).filter (fun e=>decide (¬∃x∈s,x.1=e.1))++gC s
def FX (n:Nat)(es:List eE):Prop:=∀e∈es,∃s,e.2.1= .agg s/\s.length=n/\aV s=true
open Classical in
def FH (n:Nat)(args:List CV)(st:St):Option OR:=
 match args with
 |[.map bd, .map bs]=>if bd≠bs/\mU (st.mem.get bd) (lM (st.mem.get bd))/\mU (st.mem.get bs) (lM (st.mem.get bs))/\ie (lM (st.mem.get bd))/\ie (lM (st.mem.get bs))/\FX n (lM (st.mem.get bs))then
    some (.ok .undef ⟨st.mem.put bd (some (.lmap (jX (lM (st.mem.get bd)) (lM (st.mem.get bs))))),st.next⟩)else none
 |_=>none
def I0:xg:=fun f args st=>
 bu (Nat.beq f 51) (mg 109 4 args st) (bu (Nat.beq f 144) (mg 3 1 args st) (bu (Nat.beq f 121) (DQ 163 3 args st) (bu (Nat.beq f 133) (FH 512 args st) none)))
abbrev R:=ot P0 lvs I0
theorem bN {f:Nat}{args:List CV}{st:St}{Q:CV->St->Prop}(h:aM P0 R (lvs f) f args st Q)(hI:I0 f args st=none:=by rfl):R f args st Q:=zA (P:=P0) (lvs:=lvs) (I:=I0) (f:=f) (args:=args) (st:=st) hI h
theorem Pb {f:Nat}{args:List CV}{st st':St}{v:CV}{Q:CV->St->Prop}(hI:I0 f args st=some (.ok v st'))(hq:Q v st'):R f args st Q:=by
 refine⟨v,st',⟨1,fun n hn=> ?_⟩,hq⟩;obtain⟨m,rfl⟩:∃m,n=m+1:=⟨n-1,by omega⟩;unfold RF;simp only[zZ,hI]
theorem R.mono {f:Nat}{args:List CV}{st:St}{Q Q':CV->St->Prop}(h:R f args st Q)(hq:∀v st',Q v st'->Q' v st'):R f args st Q':=ot.mono h hq
