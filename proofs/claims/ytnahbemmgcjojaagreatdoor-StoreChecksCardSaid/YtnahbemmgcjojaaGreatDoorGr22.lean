import Derived.Test.YtnahbemmgcjojaaGreatDoorGr21
import Derived.Test.YtnahbemmgcjojaaGreatDoorGr05
import Derived.Test.YtnahbemmgcjojaaGreatDoorGr20
namespace Lim
open Go
noncomputable section
set_option maxRecDepth 100000
section
variable {st st':St}
theorem HS {k:Nat}{z:List CV}{x:CV}(hz:z.length=k)(hx:x.bL.length=k)(ha:x.isAny=false):eZ [(0,k,x)] (cM 1 z)=some x.bL:=by
 have:cM 1 z=z:=by simp[cM]
 rw[dG,agl ⟨⟨hx,ha⟩,by rw[this];omega⟩,this,nq];rw[cW _ _ (by omega)]
theorem lT {s:St}{b:Nat}{v x:CV}{k e:Nat}(bytes:Nat){L z:List CV}{F:List Nat}{K:CV->St->CV->St->Prop}(h:Own s v k e L F)(hk:0<k)(hF:∀q∈F,q<s.next/\q≠b)(hb:b<s.next)(hn:s.mem.get b=none)(hz:z.length=k)(hx:x.bL.length=k)(ha:x.isAny=false)(kR:bu x.bL=true)
 (hsz:(L.length+k)*(bytes+1)<=140737488355328) (hK:∀v' s2 F',Own s2 v' k e (L++x.bL) F'->Kp (b::F) s s2->(∀q∈F',(q∈F\/s.next<=q)/\q<s2.next)->K (.slice b 0 1 1 0) (St.set s b (.cells x.bL e false)) v' s2):
 upon (dW b e 1 (cM 1 z) [(0,k,x)] s) fun x8 eJ=>upon (cy e k bytes v (dJ .slice k z x8 eJ) eJ) fun x9 eD=>K x8 eJ x9 eD:=by
 rw[mG hn (HS hz hx ha),bj];have mg:Kp (b::F) s (St.set s b (.cells x.bL e false)):=(Kp.refl _ s).set _ (.inl (by simp)) hb;have h1:Own (St.set s b (.cells x.bL e false)) v k e L F:=h.mono fun q hq=>aq _ _ _ _ (hF q hq).2;rw[Ax (k:=k) (n:=1) (az _ _ _) (by omega) (by omega)];obtain⟨v',st',F',e1,e2,e3,e4⟩:=h1.append (n:=1) (bytes:=bytes) (T:=x.bL) hk (by omega) kR (fun q hq=>(hF q hq).1) (by rw[hx];exact hsz);rw[e1,bj];refine hK v' st' F' e2 (mg.trans e3 fun q hq=> .inl (by simp[hq])) fun q hq=>⟨(e4 q hq).1.imp id fun h=> ?_,(e4 q hq).2⟩;have:(St.set s b (.cells x.bL e false)).next=s.next:=rfl;omega
def Jt (r:Nat)(F:List Nat)(L:List UInt8)(st st':St):Prop:=Kp F st st'/\jb st' r F L
theorem Ib {r:Nat}{F:List Nat}{L:List UInt8}{leaf:Bool}{c:fw}(h:jb st r F (sN leaf c++L))(hc:c.ok leaf)(hF:∀b∈F,b<st.next):R 199 [.ptr r 0, .bool leaf] st fun x st'=>x= .agg (cr c)/\Jt r F L st st':=by
 refine bp ?_;rw[Rr];have k1:Kp F st (St.new st (.cells [.str [], .str [], .int .i64 0, .int .i64 0] 307 false)):=(Kp.refl F st).new _;have g1:(St.new st (.cells [.str [], .str [], .int .i64 0, .int .i64 0] 307 false)).mem.get st.next=some (.cells [.str [], .str [], .int .i64 0, .int .i64 0] 307 false):=aG _ _;have n1:(St.new st (.cells [.str [], .str [], .int .i64 0, .int .i64 0] 307 false)).next=st.next+1:=rfl;have r1:=h.keep ((Kp.refl [] st).new (.cells [.str [], .str [], .int .i64 0, .int .i64 0] 307 false)) (by simp);rw[cn,bj];generalize St.new st (.cells [.str [], .str [], .int .i64 0, .int .i64 0] 307 false)=s1 at*;have iJ:∀b∈F,b≠st.next:=fun b hb=>by have:=hF b hb;omega
 have CC:st.next∉F:=fun h=>iJ _ h rfl;have e1:sN leaf c++L=uv c.key.length++(c.key++((if leaf=true then (if c.ej=0 then uv 0++(uv c.value.length++c.value)else uv c.ej++uv c.size)else [])++L)):=by unfold sN;simp
 rw[e1]at r1;refine(vC (m:=48) r1 hc.key (by omega)).mono ?_;rintro _ s2 ⟨rfl,k2,n2,r2⟩;have kx:bf [.str [], .str [], .int .i64 0, .int .i64 0] [(0,1, .str c.key)] s2= .ok (.agg [.str c.key, .str [], .int .i64 0, .int .i64 0]) s2:=rfl;rw[kx,ae];have g2:=(k2.keep st.next (by omega) CC).trans g1;refine mL rfl rfl rfl ?_;have k3:Kp F s2 (St.new s2 (.cells [.str c.key, .str [], .int .i64 0, .int .i64 0] 307 false)):=(Kp.refl F s2).new _;have g3:(St.new s2 (.cells [.str c.key, .str [], .int .i64 0, .int .i64 0] 307 false)).mem.get s2.next=some (.cells [.str c.key, .str [], .int .i64 0, .int .i64 0] 307 false):=aG _ _;have n3:(St.new s2 (.cells [.str c.key, .str [], .int .i64 0, .int .i64 0] 307 false)).next=s2.next+1:=rfl;have r3:=r2.keep ((Kp.refl [] s2).new (.cells [.str c.key, .str [], .int .i64 0, .int .i64 0] 307 false)) (by simp);have HQ:(St.new s2 (.cells [.str c.key, .str [], .int .i64 0, .int .i64 0] 307 false)).mem.get st.next=_:=(aU _ _ _ (by omega)).trans g2;generalize St.new s2 (.cells [.str c.key, .str [], .int .i64 0, .int .i64 0] 307 false)=s3 at*;have wt:=(k1.trans k2 fun q hq=> .inl hq).trans k3 fun q hq=> .inl hq;have Hx:s2.next∉F:=fun h=>by have:=hF _ h;omega
 have fin:∀(s:St),Kp F st s->st.next<s.next->s2.next<s.next->s.mem.get st.next=some (.cells [.str [], .str [], .int .i64 0, .int .i64 0] 307 false)->s.mem.get s2.next=some (.cells (cr c) 307 false)->jb s r F L->
  us (aP 4 (.ptr s2.next 0) s) fun x6=>upon (aT 4 (.ptr st.next 0) x6 s) fun _ s5=>us (aP 4 (.ptr st.next 0) s5) fun x7=>x7= .agg (cr c)/\Jt r F L st s5:=by
  intro s hk h1 h2 q1 q2 q3;rw[aR (n:=4) q2 rfl,ae,aQ,q1,bg,ba];have:bB [.str [], .str [], .int .i64 0, .int .i64 0] 0 (cr c)=cr c:=cW _ _ rfl;rw[this];refine⟨⟨rfl,rfl,by decide⟩, ?_⟩;rw[aR (n:=4) (az _ _ _) rfl,ae];exact⟨rfl,hk.set _ (.inr (aga _)) h1,q3.keep (X:=[st.next]) ((Kp.refl _ s).set _ (.inl (by simp)) h1) (by simpa using iJ)⟩
 rw[bt,ae,ah];cases leaf with
 |false=>
  obtain⟨h1,h2,h3⟩:=hc.inner rfl;rw[agj,agl rfl];simp only[afY,agn,agE]at r3;refine fin s3 wt (by omega) (by omega) HQ ?_ r3;rw[g3];simp[cr,h1,h2,h3]
 |true=>
  rw[agm,agf (by decide),bP];simp only[ags]at r3
  by_cases h0:c.ej=0
  ·obtain⟨h1,h2⟩:=hc.short rfl h0;rw[agl h0]at r3;have e2:(uv 0++(uv c.value.length++c.value))++L=uv 0++(uv c.value.length++(c.value++L)):=by simp
   rw[e2]at r3;refine(eE (n:=0) (m:=2147483647) r3 (by omega) (by omega)).mono ?_;rintro _ s8 ⟨rfl,k8,n8,r8⟩;have g8:=(k8.keep s2.next (by omega) Hx).trans g3;have VK:=(k8.keep st.next (by omega) CC).trans HQ;have nj:bB [.str c.key, .str [], .int .i64 0, .int .i64 0] 2 [I ((0:Nat):Int)]=[.str c.key, .str [], .int .i64 0, .int .i64 0]:=rfl;simp only[fst,fl,af,ae,aQ,g8,bg,afZ,mz,nj,av,az,ao,agb,afX,au];refine⟨⟨rfl,rfl,by simp⟩, ?_⟩;have k9:Kp F st (St.set s8 s2.next (.cells [.str c.key, .str [], .int .i64 0, .int .i64 0] 307 false)):=(wt.trans k8 fun q hq=> .inl hq).set _ (.inr (by omega)) (by omega);have g9:(St.set s8 s2.next (.cells [.str c.key, .str [], .int .i64 0, .int .i64 0] 307 false)).mem.get s2.next=some (.cells [.str c.key, .str [], .int .i64 0, .int .i64 0] 307 false):=az _ _ _;have VJ:(St.set s8 s2.next (.cells [.str c.key, .str [], .int .i64 0, .int .i64 0] 307 false)).mem.get st.next=_:=(aq _ _ _ _ (by omega)).trans VK;have n9:(St.set s8 s2.next (.cells [.str c.key, .str [], .int .i64 0, .int .i64 0] 307 false)).next=s8.next:=rfl;have r9:=r8.keep (X:=[s2.next]) ((Kp.refl [s2.next] s8).set (p:=s2.next) (.cells [.str c.key, .str [], .int .i64 0, .int .i64 0] 307 false) (.inl (by simp)) (by omega)) (fun b hb=>by have:=hF b hb;simp;omega);generalize St.set s8 s2.next (.cells [.str c.key, .str [], .int .i64 0, .int .i64 0] 307 false)=s9 at*;have e3:ai .eql (some .int) true (.int .i64 0) (.int .i64 0) s9= .ok (.bool true) s9:=rfl;simp only[e3,ae,ah,ags];refine(vC (m:=64) r9 h2 (by omega)).mono ?_;rintro _ sa ⟨rfl,ka,na,ra⟩;have ga:=(ka.keep s2.next (by omega) Hx).trans g9;have VE:=(ka.keep st.next (by omega) CC).trans VJ;have nH:bB [.str c.key, .str [], .int .i64 0, .int .i64 0] 1 [.str c.value]=[.str c.key, .str c.value, .int .i64 0, .int .i64 0]:=rfl;simp only[aQ,ga,bg,afZ,Dl,nH,aI,aJ];refine⟨⟨rfl,rfl,by simp⟩, ?_⟩
   have zT:=fin _ ((k9.trans ka fun q hq=> .inl hq).set (p:=s2.next) _ (.inr (by omega)) (by omega)) (by simp;omega) (by simp;omega) ((aq _ _ _ (.cells [.str c.key, .str c.value, .int .i64 0, .int .i64 0] 307 false) (by omega)).trans VE) (by rw[az];simp[cr,h0,h1]) (ra.keep (X:=[s2.next]) ((Kp.refl _ sa).set (p:=s2.next) _ (.inl (by simp)) (by omega)) (fun b hb=>by have:=hF b hb;simp;omega))
   simpa only[aQ,afZ]using zT
  ·obtain⟨h1,h2,h3,h4⟩:=hc.Ys rfl h0;rw[agf h0,agv]at r3;refine(eE (n:=c.ej) (m:=2147483647) r3 h2 (by omega)).mono ?_;rintro _ s8 ⟨rfl,k8,n8,r8⟩;have g8:=(k8.keep s2.next (by omega) Hx).trans g3;have VK:=(k8.keep st.next (by omega) CC).trans HQ;have nj:bB [.str c.key, .str [], .int .i64 0, .int .i64 0] 2 [I c.ej]=[.str c.key, .str [],I c.ej, .int .i64 0]:=rfl;simp only[fst,fl,af,ae,aQ,g8,bg,afZ,mz,nj,av,az,ao,agb,afX,au];refine⟨⟨rfl,rfl,by simp⟩, ?_⟩;have k9:Kp F st (St.set s8 s2.next (.cells [.str c.key, .str [],I c.ej, .int .i64 0] 307 false)):=(wt.trans k8 fun q hq=> .inl hq).set _ (.inr (by omega)) (by omega);have g9:(St.set s8 s2.next (.cells [.str c.key, .str [],I c.ej, .int .i64 0] 307 false)).mem.get s2.next=some (.cells [.str c.key, .str [],I c.ej, .int .i64 0] 307 false):=az _ _ _;have VJ:(St.set s8 s2.next (.cells [.str c.key, .str [],I c.ej, .int .i64 0] 307 false)).mem.get st.next=_:=(aq _ _ _ _ (by omega)).trans VK;have n9:(St.set s8 s2.next (.cells [.str c.key, .str [],I c.ej, .int .i64 0] 307 false)).next=s8.next:=rfl;have r9:=r8.keep (X:=[s2.next]) ((Kp.refl [s2.next] s8).set (p:=s2.next) (.cells [.str c.key, .str [],I c.ej, .int .i64 0] 307 false) (.inl (by simp)) (by omega)) (fun b hb=>by have:=hF b hb;simp;omega);generalize St.set s8 s2.next (.cells [.str c.key, .str [],I c.ej, .int .i64 0] 307 false)=s9 at*;have e3:ai .eql (some .int) true (I c.ej) (.int .i64 0) s9= .ok (.bool false) s9:=by rw[aA,eT,agc (by omega)]
   simp only[e3,ae,ah,afY,agn];refine(eE (n:=c.size) (m:=2147483647) r9 h4 (by omega)).mono ?_;rintro _ sa ⟨rfl,ka,na,ra⟩;have ga:=(ka.keep s2.next (by omega) Hx).trans g9;have VE:=(ka.keep st.next (by omega) CC).trans VJ;have nH:bB [.str c.key, .str [],I c.ej, .int .i64 0] 3 [I c.size]=[.str c.key, .str [],I c.ej,I c.size]:=rfl;simp only[aQ,ga,bg,afZ,mz,nH,aI,aJ];refine⟨⟨rfl,rfl,by simp⟩, ?_⟩;have zT:=fin _ ((k9.trans ka fun q hq=> .inl hq).set (p:=s2.next) _ (.inr (by omega)) (by omega)) (by simp;omega) (by simp;omega) ((aq _ _ _ (.cells [.str c.key, .str [],I c.ej,I c.size] 307 false) (by omega)).trans VE) (by rw[az];simp[cr,h1]) (ra.keep (X:=[s2.next]) ((Kp.refl _ sa).set (p:=s2.next) _ (.inl (by simp)) (by omega)) (fun b hb=>by have:=hF b hb;simp;omega))
   simpa only[aQ,afZ]using zT
end
section
variable {st st':St}
theorem CN {X:List Nat}{v:CV}{z:Nat}(hs:Sl st X v 1 (aj (List.replicate z 0)))(hl:z<=1000000):R 201 [v, .func (.func 202) [] []] st fun x st'=>x= .bool false/\Kp [] st st':=by
 refine bp ?_;rw[Rp]
 have key:R 212 [v, .func (.func 202) [] []] st fun x st'=>x= .int .i64 (-1)/\Kp [] st st':=by
  refine bp ?_;rw[Ri];have hlen:=hs.len z (by simp) (by omega) st;simp only[bP,aI,aJ,hlen,ae];refine bA (fun fu vs s=>∃i,fu+i=z/\vs=[v, .func (.func 202) [] [],I z,I i]/\Kp [] st s) ?_ (n:=z) ⟨0,rfl,rfl,Kp.refl _ _⟩;rintro fu vs s k ⟨i,hi,rfl,mg⟩ next;simp only[aI,aJ,de,ae,ah]
  by_cases hc:i<z
  ·rw[agi hc,agl rfl];have hs1:=(hs.oE (Y:=[]) (by simp)).mono mg;refine hs1.idx (i:=i) (by simpa using hc) _ ?_;have e:(aj (List.replicate z 0))[i]'(by simpa using hc)= .int .u8 0:=by simp[aj,bo]
   rw[e,dR];simp only[agE,ahc];refine bp ?_;rw[Ro];simp only[aA,eR,agW,agm,ae,ah,afY,agn];have a1:=gW i (by omega) s none;rw[aA]at a1;rw[a1,ae];exact next (fu-1) _ _ (by omega) ⟨i+1,by omega,rfl,mg⟩
  ·rw[agc hc,agf (by decide)];exact⟨trivial,mg⟩
 refine key.mono ?_;rintro _ s ⟨rfl,h⟩;simp[h]
structure PN (mw s:St)(b1 b9 r:Nat)(F:List Nat)(leaf:Bool)(vc vk:CV)(cells:List fw)(kids:List Nat)(L:List UInt8)(Fc Fk:List Nat):Prop where
 kp:Kp [] mw s
 g1:s.mem.get b1=some (.cells [.bool false, .aa, .aa] 303 false)
 g9:s.mem.get b9=some (.cells [.bool leaf,vc,vk] 303 false)
 rd:jb s r F L
 oc:Own s vc 4 307 (gR cells) Fc
 ok:Own s vk 1 3 (fX kids) Fk
 lt:∀b,b=b1\/b=b9\/b∈F\/b∈Fc\/b∈Fk->mw.next<=b/\b<s.next
 ne:b1≠b9/\b1∉F/\b9∉F
 dc:∀b∈Fc,b≠b1/\b≠b9/\b∉F/\b∉Fk
 dk:∀b∈Fk,b≠b1/\b≠b9/\b∉F
def pJ (n:ek)(st:St)(y:CV)(st':St):Prop:=∃x,y= .tuple [x,I 0]/\Kp [] st st'/\∀X,(∀b∈X,b<st.next)->IsNode st' X x n
theorem Cm {v:CV}{n:ek}{z:Nat}(hf:dw st)(h:Sl st [] v 1 (aj (pc n++List.replicate z 0)))(hn:n.ok)(hl:n.size+z<=512):R 180 [v] st (pJ n st):=by
 have uS:n.cells.length<=512:=by
  have:=oC n.leaf n.cells;rw[vu]at hl;omega
 refine bp ?_;rw[Rz];have k1:Kp [] st (St.new st (.cells [.bool false, .aa, .aa] 303 false)):=(Kp.refl [] st).new _;have g1:(St.new st (.cells [.bool false, .aa, .aa] 303 false)).mem.get st.next=some (.cells [.bool false, .aa, .aa] 303 false):=aG _ _;have n1:(St.new st (.cells [.bool false, .aa, .aa] 303 false)).next=st.next+1:=rfl;rw[cn,bj];generalize St.new st (.cells [.bool false, .aa, .aa] 303 false)=s1 at*;have hlen:(pc n++List.replicate z 0).length=n.size+z:=by rw[agq,agr];rfl
 have e1:ai .gtr none true (I ((n.size+z:Nat):Int)) (.int .i64 512) s1= .ok (.bool false) s1:=by rw[aA,cC,agc (by omega)]
 rw[(h.mono k1).len (n.size+z) (by rw[bJ,hlen];omega) (by omega) s1];simp only[ae,e1,ah,afY,agn];refine(lK (h.mono k1) (by omega)).mono ?_;rintro _ s3 ⟨r,F,rfl,k3,PV,A5⟩;have Cc:∀b∈F,b<s3.next:=by obtain⟨q,vv,G,rfl,_,h,_⟩:=PV;exact h
 have e2:pc n++List.replicate z 0=uv (if n.leaf=true then 1 else 0)++(uv n.cells.length++(jP n.leaf n.cells++((if n.leaf=true then []else l7 n.kids)++List.replicate z 0))):=by unfold pc;simp
 rw[e2]at PV;refine(xv PV).mono ?_;rintro _ s4 ⟨rfl,k4,n4,Wz⟩;have kx:bf [.bool false, .aa, .aa] [(0,1, .bool n.leaf)] s4= .ok (.agg [.bool n.leaf, .aa, .aa]) s4:=rfl;rw[kx,ae];refine mL rfl rfl rfl ?_;have n31:=k3.next;have g4:=(k4.keep st.next (by omega) (fun h=>by have:=A5 _ h;omega)).trans ((k3.keep st.next (by omega) (by simp)).trans g1);have k5:Kp [] s4 (St.new s4 (.cells [.bool n.leaf, .aa, .aa] 303 false)):=(Kp.refl _ s4).new _;have OE:=(k1.trans k3 (by simp)).trans k4 fun q hq=> .inr (by have:=A5 q hq;omega)
 have lt0:∀b,b=st.next\/b=s4.next\/b∈F\/b∈([]:List Nat)\/b∈([]:List Nat)->st.next<=b/\b<(St.new s4 (.cells [.bool n.leaf, .aa, .aa] 303 false)).next:=by
  intro b hb;rcases hb with rfl|rfl|hb|hb|hb
  ·simp;omega
  ·simp;omega
  ·have:=A5 b hb;have:=Cc b hb;simp;omega
  ·cases hb
  ·cases hb
 have D0:PN st (St.new s4 (.cells [.bool n.leaf, .aa, .aa] 303 false)) st.next s4.next r F n.leaf .aa .aa [] [] (uv n.cells.length++(jP n.leaf n.cells++((if n.leaf=true then []else l7 n.kids)++List.replicate z 0))) [] []:=
  ⟨OE.trans k5 (by simp),(k5.keep _ (by omega) (by simp)).trans g4,aG _ _,Wz.keep k5 (by simp), .inl ⟨rfl,rfl,rfl⟩, .inl ⟨rfl,rfl,rfl⟩,lt0,⟨by omega,fun h=>by have:=A5 _ h;omega,fun h=>by have:=Cc _ h;omega⟩,by simp,by simp⟩
 generalize hb9:s4.next=b9 at*;generalize yR:st.next=b1 at*;have abK:=yR;generalize St.new s4 (.cells [.bool n.leaf, .aa, .aa] 303 false)=s6 at*;clear g4 k5 OE Wz k4 n4 PV k3 n31 kx;refine pB (fun vs s=>∃vc Fc,vs=[v, .ptr b1 0, .ptr r 0, .ptr b9 0]/\PN st s b1 b9 r F n.leaf vc .aa n.cells [] ((if n.leaf=true then []else l7 n.kids)++List.replicate z 0) Fc []) ?_ ?_
 ·intro kZ sv;rw[bP];refine(eE (n:=n.cells.length) (m:=512) D0.rd uS (by omega)).mono ?_;rintro _ s7 ⟨rfl,k7,n7,Sx⟩
  have D7:PN st s7 b1 b9 r F n.leaf .aa .aa [] [] (jP n.leaf n.cells++((if n.leaf=true then []else l7 n.kids)++List.replicate z 0)) [] []:=
   ⟨D0.kp.trans k7 fun q hq=> .inr (D0.lt q (by simp[hq])).1,(k7.keep b1 (D0.lt b1 (by simp)).2 D0.ne.2.1).trans D0.g1,(k7.keep b9 (D0.lt b9 (by simp)).2 D0.ne.2.2).trans D0.g9,Sx, .inl ⟨rfl,rfl,rfl⟩, .inl ⟨rfl,rfl,rfl⟩,fun b hb=>by rw[n7];exact D0.lt b hb,D0.ne,by simp,by simp⟩
  simp only[aI,aJ];refine bA (fun fu vs s=>∃i vc Fc,fu+i=n.cells.length/\vs=[v, .ptr b1 0, .ptr r 0, .ptr b9 0,I n.cells.length,I i]/\PN st s b1 b9 r F n.leaf vc .aa (n.cells.take i) [] (jP n.leaf (n.cells.drop i)++((if n.leaf=true then []else l7 n.kids)++List.replicate z 0)) Fc []) ?_ (n:=n.cells.length) ⟨0, .aa,[],rfl,rfl,by simpa using D7⟩;rintro fu vs s k ⟨i,vc,Fc,hi,rfl,D⟩ next;simp only[aI,aJ,de,ae,ah]
  by_cases hc:i<n.cells.length
  ·rw[agi hc,agl rfl];refine(lD D.rd).same ?_;simp only[bt,ae,agm,ah,afY,agn,bG];have F7:=D.kp.fresh hf;have Iy:Kp [] s (St.skip s):=(Kp.refl _ s).skip;have Ph:(St.skip s).mem.get b9=some (.cells [.bool n.leaf,vc, .aa] 303 false):=D.g9;have iX:(St.skip s).mem.get s.next=none:=F7 _ (aga _);have WJ:(St.skip s).next=s.next+1:=rfl;have Nj:=D.rd.keep Iy (by simp);have SM:=D.oc.keep Iy fun b hb=>⟨(D.lt b (by simp[hb])).2,by simp⟩;have VO:(St.skip s).mem.get b1=_:=D.g1;generalize St.skip s=sk at*;have l9:=D.lt b9 (by simp);have l1:=D.lt b1 (by simp);have lF:∀b∈F,st.next<=b/\b<s.next:=fun b hb=>D.lt b (by simp[hb]);have lc:∀b∈Fc,st.next<=b/\b<s.next:=fun b hb=>D.lt b (by simp[hb]);simp only[af,ae,av,Ph,ao,afZ,agb,afX,au];have hco:=hn.cell _ (agx hc);rw[ahh hc,qL,agv]at Nj;refine(Ib Nj hco (fun b hb=>by have:=lF b hb;omega)).mono ?_;rintro _ sl ⟨rfl,kl,Sv⟩;have nl:=kl.next;have Ks:s.next∉F:=fun h=>by have:=lF _ h;omega
   have yb:=(kl.keep s.next (by omega) Ks).trans iX;have gl:=(kl.keep b9 (by omega) D.ne.2.2).trans Ph;have VN:=(kl.keep b1 (by omega) D.ne.2.1).trans VO;have SL:=SM.keep kl fun b hb=>⟨by have:=lc b hb;omega,(D.dc b hb).2.2.1⟩;refine lT 48 SL (by omega) (fun q hq=>by have:=lc q hq;omega) (by omega) yb rfl rfl rfl (jG _) (by rw[gQ,agy];omega) ?_;intro v' s2 F' o2 k2 py;have VB:(St.set sl s.next (.cells (CV.agg (cr n.cells[i])).bL 307 false)).mem.get b9=some (.cells [.bool n.leaf,vc, .aa] 303 false):=(aq _ _ _ _ (by omega)).trans gl;have nn2:=k2.next;have VI:=(k2.keep b9 (by omega) (by simp only[age,ahO];exact⟨by omega,fun h=>(D.dc b9 h).2.1 rfl⟩)).trans gl;have Jl:=(k2.keep b1 (by omega) (by simp only[age,ahO];exact⟨by omega,fun h=>(D.dc b1 h).1 rfl⟩)).trans VN;have Sy:=Sv.keep k2 (fun b hb=>by simp only[age,ahO];exact⟨by have:=lF b hb;omega,fun h=>(D.dc b h).2.2.1 hb⟩);obtain⟨c1,c2⟩:=o2.bW;have nj:bB [.bool n.leaf,vc, .aa] 1 [v']=[.bool n.leaf,v', .aa]:=rfl;simp only[VB,ao,agb,afX,au,true_and,and_true,ae,aQ,VI,bg,c2,nj,gW i (by omega)];refine⟨⟨rfl,by simp[c1],by simp⟩, ?_⟩
   have e5:gR (n.cells.take i)++(CV.agg (cr n.cells[i])).bL=gR (n.cells.take (i+1)):=by
    rw[agI hc,tZ];simp[gR]
   rw[e5]at o2
   have ks:=((D.kp.trans Iy (by simp)).trans kl fun q hq=> .inr (lF q hq).1).trans k2 fun q hq=> .inr (by
    rcases age.1 hq with rfl|hq
    ·omega
    ·exact(lc q hq).1)
   have Ix:∀b∈F',st.next<=b/\b<s2.next/\(b∈Fc\/sl.next<=b):=fun b hb=>by
    obtain⟨a1,a2⟩:=py b hb;refine⟨?_,a2,a1⟩;rcases a1 with h|h
    ·exact(lc b h).1
    ·omega
   have Lf:b9∉F':=fun h=>by
    rcases(Ix b9 h).2.2 with h|h
    ·exact(D.dc b9 h).2.1 rfl
    ·omega
   refine next (fu-1) _ _ (by omega) ⟨i+1,v',F',by omega,rfl,ks.set _ (.inr l9.1) (by omega), ?_,az _ _ _, ?_,o2.mono fun b hb=>aq _ _ _ _ (fun e=>Lf (e▸hb)), .inl ⟨rfl,rfl,rfl⟩,fun b hb=> ?_,D.ne,fun b hb=> ?_,by simp⟩
   ·exact(aq _ _ _ _ D.ne.1).trans Jl
   ·exact Sy.keep (X:=[b9]) ((Kp.refl _ s2).set (p:=b9) _ (.inl (by simp)) (by omega)) (fun b hb=>by simp;exact fun e=>D.ne.2.2 (e▸hb))
   ·show st.next<=b/\b<s2.next;rcases hb with rfl|rfl|hb|hb|hb
    ·omega
    ·omega
    ·have:=lF b hb;omega
    ·have:=Ix b hb;omega
    ·cases hb
   ·rcases(Ix b hb).2.2 with h|h
    ·exact D.dc b h
    ·exact⟨by omega,by omega,fun h2=>by have:=lF b h2;omega,by simp⟩
  ·rw[agc hc,agf (by decide)];have e5:n.cells.take i=n.cells:=agk (by omega);have e6:n.cells.drop i=[]:=agR (by omega);rw[e5,e6]at D;exact sv _ _ ⟨vc,Fc,rfl,by simpa[jP]using D⟩
 ·rintro _ s7 ⟨vc,Fc,rfl,D7⟩;simp only[bP,aI,aJ];have wq:=hn.Eb;have Ti:∀s,Own s vc 4 307 (gR n.cells) Fc->(∀b∈Fc,b<s.next)->Sl s [] vc 4 (gR n.cells):=fun s ho hb=>ho.sl fun b h=>⟨by simp,hb b h⟩;refine bA (fun fu vs s=>∃i vk Fk,fu+i=n.kids.length/\vs=[v, .ptr b1 0, .ptr r 0, .ptr b9 0,I i]/\PN st s b1 b9 r F n.leaf vc vk n.cells (n.kids.take i) ((if n.leaf=true then []else l7 (n.kids.drop i))++List.replicate z 0) Fc Fk) ?_ (n:=n.kids.length) ⟨0, .aa,[],rfl,rfl,by simpa using D7⟩;rintro fu vs s k ⟨i,vk,Fk,hi,rfl,D⟩ next;have l9:=D.lt b9 (by simp);have l1:=D.lt b1 (by simp);have lF:∀b∈F,st.next<=b/\b<s.next:=fun b hb=>D.lt b (by simp[hb]);have lc:∀b∈Fc,st.next<=b/\b<s.next:=fun b hb=>D.lt b (by simp[hb]);have lk:∀b∈Fk,st.next<=b/\b<s.next:=fun b hb=>D.lt b (by simp[hb]);have Ov:=(Ti s D.oc fun b hb=>(lc b hb).2).len n.cells.length (gQ _) (by omega) s;have elq:ai .leq none false (I i) (I n.cells.length) s= .ok (.bool (decide (i<=n.cells.length))) s:=by rw[aA,il];congr 2;simp only[ahf];omega
  simp only[aI,aJ,fl,af,ae,av,D.g9,ao,afZ,agb,afX,au,Ov,elq,aE,ags]
  by_cases hc:i<n.kids.length
  ·have pv:n.leaf=false:=by
    cases h:n.leaf with
    |false=>rfl
    |true=>rw[h,agl rfl]at wq;omega
   rw[pv,agf (by decide)]at wq;rw[agi (by omega)];simp only[aM,ae,bF];refine(lD D.rd).same ?_;have CA:=D.rd;have OK:=D.g9;rw[pv]at OK;rw[agf (by rw[pv];decide)]at CA;simp only[ae,aF,ags,aE,eu,aM,af,av,OK,ao,afZ,afX,au,bt,agj,ah,bG];have F7:=D.kp.fresh hf;have Iy:Kp [] s (St.skip s):=(Kp.refl _ s).skip;have Ph:(St.skip s).mem.get b9=some (.cells [.bool false,vc,vk] 303 false):=OK;have iX:(St.skip s).mem.get s.next=none:=F7 _ (aga _);have WJ:(St.skip s).next=s.next+1:=rfl;have Nj:=CA.keep Iy (by simp);have okk:=D.ok.keep Iy fun b hb=>⟨(lk b hb).2,by simp⟩;have SM:=D.oc.keep Iy fun b hb=>⟨(lc b hb).2,by simp⟩;have VO:(St.skip s).mem.get b1=_:=D.g1;generalize St.skip s=sk at*;simp only[Ph,ao,agb,afX,au];rw[ahh hc,zN,agv]at Nj;have hkm:=hn.WU _ (agx hc);refine(eE (n:=n.kids[i]) (m:=2147483647) Nj hkm (by omega)).mono ?_;rintro _ sl ⟨rfl,kl,nl,Sv⟩;have Ks:s.next∉F:=fun h=>by have:=lF _ h;omega
   have yb:=(kl.keep s.next (by omega) Ks).trans iX;have gl:=(kl.keep b9 (by omega) D.ne.2.2).trans Ph;have VN:=(kl.keep b1 (by omega) D.ne.2.1).trans VO;have okl:=okk.keep kl fun b hb=>⟨by have:=lk b hb;omega,(D.dk b hb).2.2⟩;have SL:=SM.keep kl fun b hb=>⟨by have:=lc b hb;omega,(D.dc b hb).2.2.1⟩;have acs:n.kids.length<=513:=by omega
   refine lT 8 okl (by omega) (fun q hq=>by have:=lk q hq;omega) (by omega) yb rfl rfl rfl rfl (by rw[uL,agy];omega) ?_;intro v' s2 F' o2 k2 py;have VB:(St.set sl s.next (.cells (CV.bL (I n.kids[i])) 3 false)).mem.get b9=some (.cells [.bool false,vc,vk] 303 false):=(aq _ _ _ _ (by omega)).trans gl;have nn2:=k2.next;have VI:=(k2.keep b9 (by omega) (by simp only[age,ahO];exact⟨by omega,fun h=>(D.dk b9 h).2.1 rfl⟩)).trans gl;have Jl:=(k2.keep b1 (by omega) (by simp only[age,ahO];exact⟨by omega,fun h=>(D.dk b1 h).1 rfl⟩)).trans VN;have Sy:=Sv.keep k2 (fun b hb=>by simp only[age,ahO];exact⟨by have:=lF b hb;omega,fun h=>(D.dk b h).2.2 hb⟩);have SN:=SL.keep k2 (fun b hb=>⟨by have:=lc b hb;omega,by simp only[age,ahO];exact⟨by have:=lc b hb;omega,(D.dc b hb).2.2.2⟩⟩);obtain⟨c1,c2⟩:=o2.bW;have nj:bB [.bool false,vc,vk] 2 [v']=[.bool false,vc,v']:=rfl;have Oe:bB [.bool false,vc,vk] 2 (CV.bL v')=[.bool false,vc,v']:=by rw[c2];rfl
   simp only[VB,ao,agb,afX,au,true_and,and_true,ae,aQ,VI,bg,c2,nj,gW i (by omega)];refine⟨⟨rfl,by simp[c1],by simp⟩, ?_⟩
   have e5:fX (n.kids.take i)++CV.bL (I n.kids[i])=fX (n.kids.take (i+1)):=by
    rw[agI hc,we];simp[fX]
   rw[e5]at o2
   have ks:=((D.kp.trans Iy (by simp)).trans kl fun q hq=> .inr (lF q hq).1).trans k2 fun q hq=> .inr (by
    rcases age.1 hq with rfl|hq
    ·omega
    ·exact(lk q hq).1)
   have Ix:∀b∈F',st.next<=b/\b<s2.next/\(b∈Fk\/sl.next<=b):=fun b hb=>by
    obtain⟨a1,a2⟩:=py b hb;refine⟨?_,a2,a1⟩;rcases a1 with h|h
    ·exact(lk b h).1
    ·omega
   have Lf:b9∉F':=fun h=>by
    rcases(Ix b9 h).2.2 with h|h
    ·exact(D.dk b9 h).2.1 rfl
    ·omega
   refine next (fu-1) _ _ (by omega) ⟨i+1,v',F',by omega,rfl,ks.set _ (.inr l9.1) (by omega),(aq _ _ _ _ D.ne.1).trans Jl, ?_, ?_,SN.mono fun b hb=>aq _ _ _ _ (D.dc b hb).2.1,o2.mono fun b hb=>aq _ _ _ _ (fun e=>Lf (e▸hb)),fun b hb=> ?_,D.ne,fun b hb=> ?_,fun b hb=> ?_⟩
   ·rw[pv];exact az _ _ _
   ·rw[agf (by rw[pv];decide)];exact Sy.keep (X:=[b9]) ((Kp.refl _ s2).set (p:=b9) _ (.inl (by simp)) (by omega)) (fun b hb=>by simp;exact fun e=>D.ne.2.2 (e▸hb))
   ·show st.next<=b/\b<s2.next;rcases hb with rfl|rfl|hb|hb|hb
    ·omega
    ·omega
    ·have:=lF b hb;omega
    ·have:=lc b hb;omega
    ·have:=Ix b hb;omega
   ·refine⟨(D.dc b hb).1,(D.dc b hb).2.1,(D.dc b hb).2.2.1,fun h=> ?_⟩;rcases(Ix b h).2.2 with h2|h2
    ·exact(D.dc b hb).2.2.2 h2
    ·have:=lc b hb;omega
   ·rcases(Ix b hb).2.2 with h|h
    ·exact D.dk b h
    ·exact⟨by omega,by omega,fun h2=>by have:=lF b h2;omega⟩
  ·
    have F5:i=n.kids.length:=by omega
    have e5:n.kids.take i=n.kids:=agk (by omega);have e6:n.kids.drop i=[]:=agR (by omega);rw[e5,e6]at D;have CA:jb s r F (List.replicate z 0):=by have:=D.rd;cases pv:n.leaf<;>rw[pv]at this<;>simpa[l7]using this
    have Oi:∀s',Kp [] s s'->IsNode s' [] (.agg [.bool n.leaf,vc,vk]) n:=fun s' hk=>
     ⟨vc,vk,rfl,(D.oc.keep hk fun b hb=>⟨(lc b hb).2,by simp⟩).sl fun b hb=>⟨by simp,by have:=lc b hb;have:=hk.next;omega⟩,(D.ok.keep hk fun b hb=>⟨(lk b hb).2,by simp⟩).sl fun b hb=>⟨by simp,by have:=lk b hb;have:=hk.next;omega⟩⟩
    have fin:us (bO .slice v s) fun gX=>R 109 [.ptr r 0] s fun gz jl=>us (ai .sub none false gX gz jl) fun iy=>us (cc 1 v (some iy) none jl) fun jc=>R 99 [.ptr r 0] jl fun iC iw=>us (fA .not iC iw) fun je=>
     us (aS (ag false je) iw (aP 3 (.ptr b9 0) iw)) fun kg=>cb (ag false je) iw (fun k=>R 200 [kg] iw k) fun kG jS=>us (aS (ag false je) jS (fA .not kG jS)) fun kD=>us (aK je (.bool true) kD jS) fun kf=>
     us (aS (ag false kf) jS (.ok jc jS)) fun m7=>cb (ag false kf) jS (fun k=>R 201 [m7, .func (.func 202) [] []] jS k) fun oF iv=>us (aK kf (.bool true) oF iv) fun qp=>
     aD qp (us (bf [.bool false, .aa, .aa] [] iv) fun m6=>upon (aT 3 (.ptr b1 0) m6 iv) fun _ qP=>us (aP 3 (.ptr b1 0) qP) fun nD=>pJ n st (.tuple [nD, .int .i64 4]) qP)
      (us (aP 3 (.ptr b9 0) iv) fun qo=>upon (aT 3 (.ptr b1 0) qo iv) fun _ Dq=>us (aP 3 (.ptr b1 0) Dq) fun oJ=>pJ n st (.tuple [oJ, .int .i64 0]) Dq):=by
     have hv:=h.mono D.kp;rw[hv.len (n.size+z) (by rw[bJ,hlen];omega) (by omega) s,ae];refine(AJ CA).same ?_;have e7:ai .sub none false (I ((n.size+z:Nat):Int)) (I ((List.replicate z (0:UInt8)).length)) s= .ok (I n.size) s:=by rw[aA,fF,agr,bN (by omega)];congr 2;omega
     obtain⟨v',q1,q2⟩:=hv.lo (n:=n.size+z) (l:=n.size) (by omega) (by rw[bJ,hlen];omega) (by omega) s;rw[e7,ae,q1,ae];refine(lD CA).same ?_;rw[bt,ae,agm];simp only[aE,afY,agn,agj,aM,bF];rw[aR (n:=3) D.g9 rfl,ae];refine(Fi (Oi s (Kp.refl _ _)) hn (by omega)).mono ?_;rintro _ jS ⟨rfl,AM⟩
     have e8:aj (List.replicate z 0)=(aj (pc n++List.replicate z 0)).drop (n.size*1):=by
      rw[bq,ahJ,List.drop_left' (by rw[bJ];rfl)]
     rw[<-e8]at q2;simp only[aM,bt,ae,agm,aF,aE,afY,agn,agj,bF];refine(CN (q2.mono AM) (by omega)).mono ?_;rintro _ iv ⟨rfl,Ki⟩;have zO:=AM.trans Ki (by simp);have aaS:=zO.next;have g98:=(zO.keep b9 l9.2 (by simp)).trans D.g9;have VP:=(zO.keep b1 l1.2 (by simp)).trans D.g1;obtain⟨c1,c2⟩:=D.oc.bW;obtain⟨d1,d2⟩:=D.ok.bW;have nj:bB [.bool false, .aa, .aa] 0 [.bool n.leaf,vc,vk]=[.bool n.leaf,vc,vk]:=rfl;rw[ah,agf (by decide),aR (n:=3) g98 rfl,ae,aQ,VP,bg,ba,nj];refine⟨⟨rfl,by simp[c1,d1],by simp⟩, ?_⟩;rw[aR (n:=3) (az _ _ _) rfl,ae];have PX:=zO;refine⟨_,rfl,(D.kp.trans zO (by simp)).set _ (.inr l1.1) (by omega),fun X hX=>⟨vc,vk,rfl, ?_, ?_⟩⟩
     ·exact((D.oc.keep zO fun b hb=>⟨(lc b hb).2,by simp⟩).mono fun b hb=>aq _ _ _ _ (D.dc b hb).1).sl fun b hb=>⟨fun h=>by have:=hX b h;have:=lc b hb;omega,by have:=lc b hb;simp;omega⟩
     ·exact((D.ok.keep zO fun b hb=>⟨(lk b hb).2,by simp⟩).mono fun b hb=>aq _ _ _ _ (D.dk b hb).1).sl fun b hb=>⟨fun h=>by have:=hX b h;have:=lk b hb;omega,by have:=lk b hb;simp;omega⟩
    by_cases hle:i<=n.cells.length
    ·have pv:n.leaf=true:=by
      cases h:n.leaf with
      |true=>rfl
      |false=>rw[h,agf (by decide)]at wq;omega
     rw[agi hle];simp only[aM,ae,bF];refine(lD CA).same ?_;have OK:=D.g9;simp only[ae,aF,ags,aE,eu,aM,af,av,OK,ao,afZ,afX,au,bt,pv,agm,ah,afY,agn]
     simpa only[aI,aJ,pv]using fin
    ·rw[agc hle];simp only[bT,ae,kc,aF,afY,agn,aE,ags,eu,ah];exact fin
end
def nM:PC->ij
 | .node n=>pc n++List.replicate (512-n.size) 0
 | .ej nx d=>be 4 nx++(d++List.replicate (508-d.length) 0)
 | .blank=>km
theorem DD (l:List (Nat×ij))(n q:Nat)(s:ij):fq (oR l n s) q=if q=n then some s else fq l q:=by
 induction l with
 |nil=>simp[oR,fq]
 |cons p r ih=>
  simp only[oR]
  split
  ·rename_i h;subst h;simp only[fq];split<;>simp_all
  ·rename_i h;simp only[fq,ih]
   split
   ·rename_i h2;subst h2;rw[agf (fun e=>h e.symm)]
   ·rfl
theorem np (M:bY)(D:aW)(n q:Nat)(s:ij)(c:List Nat):({M with now:=oR M.now n s,count:=c}:bY).get D q=if q=n then s else M.get D q:=by
 unfold bY.get;simp only[DD]
 by_cases h:q=n
 ·simp[h]
 ·simp[h]
def Il (M:bY)(D:aW):List Nat->Prop
 |[]=>True
 |n::r=>M.get D n=eU (r.headD 0)/\Il M D r
theorem Il.congr {M M':bY}{D:aW}{l:List Nat}(h:Il M D l)(hg:∀n∈l,M'.get D n=M.get D n):Il M' D l:=by
 induction l with
 |nil=>trivial
 |cons n r ih=>exact⟨(hg n (by simp)).trans h.1,ih h.2 fun m hm=>hg m (by simp[hm])⟩
structure Js (M:bY)(D:aW)(G:GM):Prop where
 bE:M.bE=G.bE
 used:M.m.used=G.used
 root:M.m.root=G.root
 head:M.m.head=G.fr.headD 0
 free:M.m.free=G.fr.length
 idle:∀n,n∈M.idle↔n∈G.fr
 NM:M.idle.Nodup
 ok:We G
 fits:M.first+M.bE<=D.ar.length
 len:∀n,n<G.used->(M.get D n).length=512
 cont:∀n,G.js n->M.get D n=nM (G.cont n)
 chain:Il M D G.fr
 count:M.now.map (·.1)=M.count
 LA:M.count.Nodup
 Nt:∀n∈M.count,0<n/\n<G.used
 fc:M.count=G.fc
section
variable {M:bY} {D:aW} {G:GM}
theorem Js.Gh (h:Js M D G)(n:Nat):M.js n↔G.js n:=by
 unfold bY.js GM.js;rw[h.used,h.idle]
theorem yg {n:Nat}(h:n<2147483648):l8 ((eU n).take 4)=n:=by
 unfold eU;rw[aht (gV 4 n)];exact oD 4 n (by omega)
end
structure PI where
 p:Nat
 a:Nat
 lg:CV
 bd:Nat
 bn:Nat
 bi:Nat
 bc:Nat
 Fd:List Nat
 D:aW
 dirty:List (Nat×ij)
 kept:gE
 first:Nat
def PI.W (π:PI):List Nat:=[π.p,π.bn,π.bi,π.bc]
def PI.all (π:PI):List Nat:=π.p::π.bd::π.bn::π.bi::π.bc::π.Fd
def Pg (π:PI)(st:St)(G:GM):Prop:=∃M,dy st π.p π.a π.lg M π.bd π.bn π.bi π.bc/\Js M π.D G/\cV st π.a π.Fd π.D/\π.D.dead=false/\(∀b∈π.Fd,b∉[π.p,π.bd,π.bn,π.bi,π.bc])/\M.dirty=π.dirty/\M.kept=π.kept/\M.first=π.first
section
variable {π:PI} {st st':St} {G:GM}
theorem Pg.keep {X:List Nat}(h:Pg π st G)(hk:Kp X st st')(hx:∀b∈π.all,b∉X):Pg π st' G:=by
 obtain⟨M,h1,h2,h3,h4,h5,wU,EG,KX⟩:=h;exact⟨M,h1.keep hk fun b hb=>hx b (by unfold PI.all;simp at hb⊢;rcases hb with h|h|h|h|h<;>simp[h]),h2,h3.keep hk fun b hb=>hx b (by unfold PI.all;simp[hb]),h4,h5,wU,EG,KX⟩
theorem Pg.still (h:Pg π st G)(hk:Kp [] st st'):Pg π st' G:=h.keep hk (by simp)
theorem Pg.lt (h:Pg π st G):∀b∈π.all,b<st.next:=by
 obtain⟨M,h1,h2,h3,h4,h5,wU,EG,KX⟩:=h;intro b hb;unfold PI.all at hb;simp only[age]at hb;rcases hb with h|h|h|h|h|h
 ·exact h1.lt b (by simp[h])
 ·exact h1.lt b (by simp[h])
 ·exact h1.lt b (by simp[h])
 ·exact h1.lt b (by simp[h])
 ·exact h1.lt b (by simp[h])
 ·exact h3.lt b h
theorem DE (h:Pg π st G):R 116 [.ptr π.p 0] st fun v st'=>v=I G.root/\st'=st:=by
 obtain⟨M,h1,h2,_⟩:=h;refine(Gw h1).mono ?_;rintro v s ⟨rfl,rfl⟩;exact⟨by rw[h2.root],rfl⟩
theorem DF (h:Pg π st G){n:Nat}(hn:G.js n):R 179 [.ptr π.p 0,I n] st (QL (nM (G.cont n)) st):=by
 obtain⟨M,h1,h2,h3,h4,h5,wU,EG,KX⟩:=h;have hf:=h2.fits;have:=h2.ok.kq;have h6:=h2.cont n hn;have h7:=h2.len n hn.2.1;have:=hn.2.1;have:=DA h1 h3 h4 ((h2.Gh n).2 hn) (by rw[h2.bE]at hf;omega) h7;rw[h6]at this;exact this
end
structure Calm (D:aW):Prop where
 dead:D.dead=false
theorem vx (kept:Nat->Bool)(w:kV):∀(W:List kV) (i:Nat) (L:List ij),ey kept i L (W++[w])=if kept (i+W.length)=true then (ey kept i L W).set w.1 w.2 else ey kept i L W:=by
 intro W
 induction W with
 |nil=>intro i L;simp[ey]
 |cons v W ih=>
  intro i L;simp only[List.cons_append,ey,agT];rw[ih];rw[show i+1+W.length=i+(W.length+1) by omega]
theorem aW.yv (D:aW)(W:List kV)(w:kV)(j:Nat)(D' Wf:aW)(h1:D'.waits=W++[w])(h2:D'.ar=D.ar)(h3:Wf.waits=W)(h4:Wf.ar=D.ar):D'.cur j=if j=w.1 then w.2 else Wf.cur j:=by
 unfold aW.cur;rw[h1,h3,qE]
 by_cases h:j=w.1
 ·rw[agl (by omega),agl h];simp
 ·rw[agf (by omega),agf h];cases hx:jK W (j:Int)with
  |none=>simp only[h2,h4]
  |some k=>
   have:=qc hx;simp only[ahl,ahg this]
theorem settled (L:List ij):∀(W:List kV),(∀w∈W,w.1<L.length)->∀(D:aW),D.waits=W->D.ar=L->∀j,(ey (fun _=>true) 0 L W).getD j []=D.cur j:=by
 suffices key:∀V:List kV,(∀w∈V.reverse,w.1<L.length)->∀(D:aW),D.waits=V.reverse->D.ar=L->∀j,(ey (fun _=>true) 0 L V.reverse).getD j []=D.cur j by
  intro W hw D h1 h2 j;have:=key W.reverse (by rwa [List.reverse_reverse]) D (by rwa [List.reverse_reverse]) h2 j
  rwa [List.reverse_reverse]at this
 intro V
 induction V with
 |nil=>
  intro _ D h1 h2 j;unfold aW.cur;rw[h1,List.reverse_nil,oo,h2];rfl
 |cons w V ih=>
  intro hw D h1 h2 j;rw[List.reverse_cons]at hw h1⊢;rw[vx,agl rfl];have h3:=ih (fun v hv=>hw v (by simp at hv⊢;exact .inl hv)) {D with waits:=V.reverse} rfl h2 j;rw[aW.yv D V.reverse w j D {D with waits:=V.reverse} h1 rfl rfl rfl];have hl:w.1<(ey (fun _=>true) 0 L V.reverse).length:=by rw[jY];exact hw w (by simp)
  by_cases h:j=w.1
  ·rw[agl h,h];simp[ahl,hl]
  ·rw[agf h,<-h3];simp only[ahl];rw[List.getElem?_set_ne (agZ h)]
def aW.BT (D:aW):Prop:=∀w∈D.waits,w.1<D.ar.length
structure pK (L:List ij)(W:List kV)(D':aW):Prop where
 dead:D'.dead=true
 waits:D'.waits=[]
 len:D'.ar.length=L.length
 cur:∀j,D'.cur j=L.getD j []\/∃w∈W,w.1=j/\D'.cur j=w.2
theorem xi (kept:Nat->Bool)(j:Nat):∀(W:List kV) (i:Nat) (L:List ij),(ey kept i L W).getD j []=L.getD j []\/∃w∈W,w.1=j/\(ey kept i L W).getD j []=w.2:=by
 intro W
 induction W with
 |nil=>intro i L;exact .inl rfl
 |cons w W ih=>
  intro i L;simp only[ey];rcases ih (i+1) (if kept i=true then L.set w.1 w.2 else L)with h|⟨v,hv,h1,h2⟩
  ·rw[h]
   split
   ·by_cases hj:w.1=j
    ·by_cases hl:j<L.length
     ·right;refine⟨w,by simp,hj, ?_⟩;subst hj;simp[ahl,hl]
     ·left;rw[List.set_eq_of_length_le (by omega)]
    ·left;simp only[ahl];rw[List.getElem?_set_ne hj]
   ·exact .inl rfl
  ·exact .inr ⟨v,agO _ hv,h1,h2⟩
theorem kU {D:aW}(h:D.waits=[])(j:Nat):D.cur j=D.ar.getD j []:=by unfold aW.cur;rw[h,oo]
theorem Bc (D:aW)(keep:List Bool):pK D.ar D.waits (D.qK keep):=by
 refine⟨rfl,rfl,jY _ _ _ _,fun j=> ?_⟩;rw[kU (D:=D.qK keep) rfl];exact xi _ j D.waits 0 D.ar
theorem yX {D:aW}(h:Calm D){i:Nat}{s:ij}(hi:i<D.ar.length)(hs:s.length=512):
 ((D.write i s).1=0/\D.write i s=(0,{D with waits:=D.waits++[(i,s)]}.tick))\/((D.write i s).1=20/\D.set=true/\pK D.ar (D.waits++[(i,s)]) (D.write i s).2):=by
 have e:D.write i s=if D.out then (20,{D with waits:=D.waits++[(i,s)]}.qK D.keep)else (0,{D with waits:=D.waits++[(i,s)]}.tick):=by
  unfold aW.write;rw[agf (by rw[h.dead];decide),agf (by rw[hs];omega)];rfl
 rw[e]
 by_cases ho:D.out
 ·rw[agl ho];exact .inr ⟨rfl,ho.1,Bc {D with waits:=D.waits++[(i,s)]} D.keep⟩
 ·rw[agf ho];exact .inl ⟨rfl,rfl⟩
theorem Calm.write {D:aW}(h:Calm D){i:Nat}{s:ij}(hi:i<D.ar.length)(hs:s.length=512)(hw:D.BT):
 ((D.write i s).1=0/\Calm (D.write i s).2/\(D.write i s).2.ar=D.ar/\(D.write i s).2.BT/\(D.write i s).2.waits=D.waits++[(i,s)]/\(∀j,(D.write i s).2.cur j=if j=i then s else D.cur j)/\(D.write i s).2.set=D.set)\/
 ((D.write i s).1=20/\D.set=true/\pK D.ar (D.waits++[(i,s)]) (D.write i s).2):=by
 rcases yX h hi hs with⟨_,e⟩|hc
 ·left;rw[e];refine⟨rfl,⟨h.dead⟩,rfl, ?_,rfl,fun j=> ?_,rfl⟩
  ·intro w Hp;have Hp:w∈D.waits++[(i,s)]:=Hp;rcases agz.1 Hp with h1|h1
   ·exact hw w h1
   ·have:w=(i,s):=by simpa using h1
    rw[this];exact hi
  ·exact aW.yv D D.waits (i,s) j _ D rfl rfl rfl rfl
 ·exact .inr hc
theorem Calm.flush {D:aW}(h:Calm D)(hw:D.BT):
 (D.flush.1=0/\Calm D.flush.2/\D.flush.2.ar.length=D.ar.length/\D.flush.2.waits=[]/\(∀j,D.flush.2.cur j=D.cur j)/\D.flush.2.set=D.set)\/(D.flush.1=20/\D.set=true/\pK D.ar D.waits D.flush.2):=by
 have e:D.flush=if D.out then (20,D.qK D.keep)else (0,(D.tick).settle fun _=>true):=by
  unfold aW.flush;rw[agf (by rw[h.dead];decide)]
 rw[e]
 by_cases ho:D.out
 ·rw[agl ho];exact .inr ⟨rfl,ho.1,Bc D D.keep⟩
 ·rw[agf ho];refine .inl ⟨rfl,⟨h.dead⟩,jY _ _ _ _,rfl,fun j=> ?_,rfl⟩;rw[<-settled D.ar D.waits hw D rfl rfl j]
  rfl
theorem Calm.read {D:aW}(h:Calm D){i:Nat}(hi:i<D.ar.length):D.read i=(0,D.cur i):=by
 unfold aW.read;rw[agf (by rw[h.dead];decide),agf (by omega)];rfl
theorem Calm.head {D:aW}(h:Calm D)(hw:D.waits=[])(h0:0<D.ar.length)(base:Nat):
 ((D.head base).1=0/\Calm (D.head base).2/\(D.head base).2.ar.length=D.ar.length/\(D.head base).2.waits=[]/\(∀j,(D.head base).2.cur j=if j=0 then bS base else D.cur j)/\(D.head base).2.set=D.set)\/
 ((D.head base).1=20/\D.set=true/\pK D.ar [(0,bS base)] (D.head base).2):=by
 unfold aW.head;rcases h.write h0 (lP base) (by unfold aW.BT;rw[hw];simp)with⟨a1,a2,a3,a4,a5,a6,a7⟩|⟨a1,a2,a3⟩
 ·have a1:(D.write 0 (bS base)).1=0:=a1;rw[agl a1];rcases a2.flush a4 with⟨b1,b2,b3,b4,b5,b6⟩|⟨b1,b2,b3⟩
  ·exact .inl ⟨b1,b2,by rw[<-a3];exact b3,b4,fun j=>(b5 j).trans (a6 j),b6.trans a7⟩
  ·refine .inr ⟨b1,a7.symm.trans b2, ?_⟩;rw[a3,a5,hw]at b3;exact b3
 ·have a1:(D.write 0 (bS base)).1=20:=a1;rw[agf (by rw[a1];decide)];rw[hw]at a3;exact .inr ⟨a1,a2,a3⟩
theorem De {l:List Nat}{n:Nat}(h:n∉l):rB l n=l++[n]:=by
 induction l with
 |nil=>rfl
 |cons p r ih=>
  simp only[age,ahO]at h;simp only[rB,agf h.1,List.cons_append];rw[ih h.2]
def bY.clean (M:bY)(m:gE)(idle:List Nat):bY:={M with now:=[],count:=[],m:=m,kept:=m,idle:=idle}
section
variable {st st':St} {p a:Nat} {lg:CV} {M:bY} {bd bn bi bc:Nat} {F:List Nat} {D:aW}
theorem Fz (h:dy st p a lg M bd bn bi bc)(hd:cV st a F D)(wx:D.dead=false)(hF:∀b∈F,b≠p){m':gE}{frs:List Nat}
 (h0:({M with now:=[]}:bY).get D 0=bZ m') (hm:GS (bZ m')=m') (EC:M.first+M.bE<=D.ar.length) (IM:0<M.bE) (hhd:m'.head=frs.headD 0) (yd:∀n∈frs,0<n/\n<M.bE) (uO:frs.Nodup) (hrow:Il {M with now:=[]} D frs):
 R 62 [.ptr p 0] st fun v st'=>v=I 0/\Kp [p] st st'/\∃Pu Pv Pw,dy st' p a lg (M.clean m' frs) bd Pu Pv Pw/\∀b∈[Pu,Pv,Pw],st.next<=b:=by
 refine bp ?_;rw[Zp];have hsz:=(show D.ar.length<=65536 from by obtain⟨_,_,_,_,_,_,_,h⟩:=hd;exact h.size);rw[bD,ae,ah,agf (by decide),ft,bj,ft,bj,ft,bj];have x1:(St.new st (.map [] 0)).next=st.next+1:=rfl;have x2:(St.new (St.new st (.map [] 0)) (.map [] 0)).next=st.next+2:=rfl;have x3:(St.new (St.new (St.new st (.map [] 0)) (.map [] 0)) (.map [] 0)).next=st.next+3:=rfl;rw[x1,x2];have k3:Kp [] st (St.new (St.new (St.new st (.map [] 0)) (.map [] 0)) (.map [] 0)):=(((Kp.refl [] st).new _).new _).new _;have m1:dH (St.new (St.new (St.new st (.map [] 0)) (.map [] 0)) (.map [] 0)) st.next []:=(dH.new st).mono (by rw[aU _ _ _ (by simp;omega),aU _ _ _ (by simp)]);have m2:dH (St.new (St.new (St.new st (.map [] 0)) (.map [] 0)) (.map [] 0)) (st.next+1) []:=(dH.new (St.new st (.map [] 0))).mono (by show(St.new _ _).mem.get (st.next+1)=_;rw[aU _ _ _ (by simp)];rfl);have m3:dH (St.new (St.new (St.new st (.map [] 0)) (.map [] 0)) (.map [] 0)) (st.next+2) []:=dH.new (St.new (St.new st (.map [] 0)) (.map [] 0));generalize St.new (St.new (St.new st (.map [] 0)) (.map [] 0)) (.map [] 0)=s3 at*;have Qe:=h.lt p (by simp);have Vg:=h.lt bd (by simp);have nd:=h.nd;simp only[agF,age,agX,aic,ahO]at nd;have g3:=(k3.keep p Qe (by simp)).trans h.main;have Hw:bB [.ptr a 0,lg,I M.first,I M.bE, .map bd, .map bn,I M.kept.root,I M.kept.used,I M.kept.head,I M.kept.free,I M.m.root,I M.m.used,I M.m.head,I M.m.free, .map bi, .map bc] 5 [.map st.next]=[.ptr a 0,lg,I M.first,I M.bE, .map bd, .map st.next,I M.kept.root,I M.kept.used,I M.kept.head,I M.kept.free,I M.m.root,I M.m.used,I M.m.head,I M.m.free, .map bi, .map bc]:=rfl
 have nH:bB [.ptr a 0,lg,I M.first,I M.bE, .map bd, .map st.next,I M.kept.root,I M.kept.used,I M.kept.head,I M.kept.free,I M.m.root,I M.m.used,I M.m.head,I M.m.free, .map bi, .map bc] 15 [.map (st.next+1)]=[.ptr a 0,lg,I M.first,I M.bE, .map bd, .map st.next,I M.kept.root,I M.kept.used,I M.kept.head,I M.kept.free,I M.m.root,I M.m.used,I M.m.head,I M.m.free, .map bi, .map (st.next+1)]:=rfl;have KB:bB [.ptr a 0,lg,I M.first,I M.bE, .map bd, .map st.next,I M.kept.root,I M.kept.used,I M.kept.head,I M.kept.free,I M.m.root,I M.m.used,I M.m.head,I M.m.free, .map bi, .map (st.next+1)] 14 [.map (st.next+2)]=[.ptr a 0,lg,I M.first,I M.bE, .map bd, .map st.next,I M.kept.root,I M.kept.used,I M.kept.head,I M.kept.free,I M.m.root,I M.m.used,I M.m.head,I M.m.free, .map (st.next+2), .map (st.next+1)]:=rfl
 have xZ:∀{s:St} {l:List CV} {x:CV} {o:Nat} {K:St->Prop},s.mem.get p=some (.cells l 150 false)->x.bL=[x]->bW x=true->o<l.length->K (St.set s p (.cells (bB l o [x]) 150 false))->kh 1 o (.ptr p 0) x s K:=by
  intro s l x o K hg h1 h2 h3 hK;simp only[kh,aV,af,ae,aQ,hg,bg,h1,afZ];exact⟨⟨rfl,by simp[h2],h3⟩,hK⟩
 refine xZ g3 rfl rfl (by decide:(5:Nat)<16) ?_;refine xZ (az _ _ _) rfl rfl (by rw[Hw];exact(by decide:(15:Nat)<16)) ?_;rw[Hw,nf];refine xZ (az _ _ _) rfl rfl (by rw[nH];exact(by decide:(14:Nat)<16)) ?_;rw[nH,nf,KB]
 have Lj:dy (St.set s3 p (.cells [.ptr a 0,lg,I M.first,I M.bE, .map bd, .map st.next,I M.kept.root,I M.kept.used,I M.kept.head,I M.kept.free,I M.m.root,I M.m.used,I M.m.head,I M.m.free, .map (st.next+2), .map (st.next+1)] 150 false)) p a lg {M with now:=[],idle:=[],count:=[]} bd st.next (st.next+2) (st.next+1):=
  ⟨az _ _ _,h.dirty.mono ((aq _ _ _ _ (agZ nd.1.1)).trans (k3.keep bd Vg (by simp))),m1.mono (aq _ _ _ _ (by omega)),m3.mono (aq _ _ _ _ (by omega)),m2.mono (aq _ _ _ _ (by omega)),by
   simp only[agF,age,agX,aic,ahO];refine⟨⟨nd.1.1,by omega,by omega,by omega⟩,⟨by omega,by omega,by omega⟩,⟨by omega,by omega⟩,by omega,not_false,List.nodup_nil⟩,by
   intro b hb;simp at hb;show b<s3.next;omega,h.lgs⟩
 have k6:Kp [p] st (St.set s3 p (.cells [.ptr a 0,lg,I M.first,I M.bE, .map bd, .map st.next,I M.kept.root,I M.kept.used,I M.kept.head,I M.kept.free,I M.m.root,I M.m.used,I M.m.head,I M.m.free, .map (st.next+2), .map (st.next+1)] 150 false)):=(k3.mono (by simp)).set _ (.inl (by simp)) (by omega);have n6:(St.set s3 p (.cells [.ptr a 0,lg,I M.first,I M.bE, .map bd, .map st.next,I M.kept.root,I M.kept.used,I M.kept.head,I M.kept.free,I M.m.root,I M.m.used,I M.m.head,I M.m.free, .map (st.next+2), .map (st.next+1)] 150 false)).next=st.next+3:=x3;generalize St.set s3 p (.cells [.ptr a 0,lg,I M.first,I M.bE, .map bd, .map st.next,I M.kept.root,I M.kept.used,I M.kept.head,I M.kept.free,I M.m.root,I M.m.used,I M.m.head,I M.m.free, .map (st.next+2), .map (st.next+1)] 150 false)=s6 at*;have wU:=hd.keep k6 fun b hb=>by simpa using hF b hb
 have wu:∀n,({M with now:=[],idle:=[],count:=[]}:bY).get D n=({M with now:=[]}:bY).get D n:=fun n=>rfl;have QC:=im m';refine(vH Lj wU wx (n:=0) (by show M.first+0<_;omega) (by rw[wu,h0];exact QC)).mono ?_;rintro _ s7 ⟨rfl,k7⟩;rw[ay,ae,aL,ay,ae,wu,h0];have yi:(aj (bZ m')).length=512:=by simpa using QC
 refine jw yi (bz _) ?_;have k9:=k7.dA (aj (bZ m'));have g9:(St.set (St.new s7 (.cells (zr 512) 152 false)) s7.next (.cells (aj (bZ m')) 152 false)).mem.get s7.next=some (.cells (aj (bZ m')) 152 false):=az _ _ _;generalize St.set (St.new s7 (.cells (zr 512) 152 false)) s7.next (.cells (aj (bZ m')) 152 false)=s9 at*;have e2:∀s,ai .neq (some .int) true (I 0) (.int .i64 0) s= .ok (.bool false) s:=fun s=>rfl;rw[e2,ae,ah,agf (by decide),aR (n:=512) g9 yi,ae];refine(Ns QC).mono ?_;rintro _ cw ⟨rfl,kZ⟩;rw[hm];have Kh:=k9.trans kZ (by simp);have qV:=Lj.keep Kh (by simp);have B7:=wU.keep Kh (by simp);have Ul:=qV.main
 have Uv:∀{s:St} {x1 x2 x3 x4 y1 y2 y3 y4:CV} {K:St->Prop},s.mem.get p=some (.cells [.ptr a 0,lg,I M.first,I M.bE, .map bd, .map st.next,x1,x2,x3,x4,y1,y2,y3,y4, .map (st.next+2), .map (st.next+1)] 150 false)->K (St.set s p (.cells [.ptr a 0,lg,I M.first,I M.bE, .map bd, .map st.next,x1,x2,x3,x4,I m'.root,I m'.used,I m'.head,I m'.free, .map (st.next+2), .map (st.next+1)] 150 false))->kh 4 10 (.ptr p 0) (.agg [I m'.root,I m'.used,I m'.head,I m'.free]) s K:=by
  intro s x1 x2 x3 x4 y1 y2 y3 y4 K hg hK;simp only[kh,aV,af,ae,aQ,hg,bg,ba,afZ];exact⟨⟨rfl,rfl,by simp⟩,hK⟩
 refine Uv Ul ?_;rw[show tX 4 10 (.ptr p 0) (St.set cw p (.cells [.ptr a 0,lg,I M.first,I M.bE, .map bd, .map st.next,I M.kept.root,I M.kept.used,I M.kept.head,I M.kept.free,I m'.root,I m'.used,I m'.head,I m'.free, .map (st.next+2), .map (st.next+1)] 150 false))=fun K=>us (cz (.ptr p 0) (St.set cw p (.cells [.ptr a 0,lg,I M.first,I M.bE, .map bd, .map st.next,I M.kept.root,I M.kept.used,I M.kept.head,I M.kept.free,I m'.root,I m'.used,I m'.head,I m'.free, .map (st.next+2), .map (st.next+1)] 150 false))) fun p'=>us (al 10 p' _) fun a'=>us (aP 4 a' _) K from rfl];simp only[aV,ae,af,afZ];rw[pW (n:=4) (az _ _ _) (by simp),ae]
 have OA:∀{s:St} {x1 x2 x3 x4 y1 y2 y3 y4:CV} {K:St->Prop},s.mem.get p=some (.cells [.ptr a 0,lg,I M.first,I M.bE, .map bd, .map st.next,x1,x2,x3,x4,y1,y2,y3,y4, .map (st.next+2), .map (st.next+1)] 150 false)->K (St.set s p (.cells [.ptr a 0,lg,I M.first,I M.bE, .map bd, .map st.next,I m'.root,I m'.used,I m'.head,I m'.free,y1,y2,y3,y4, .map (st.next+2), .map (st.next+1)] 150 false))->kh 4 6 (.ptr p 0) (.agg [I m'.root,I m'.used,I m'.head,I m'.free]) s K:=by
  intro s x1 x2 x3 x4 y1 y2 y3 y4 K hg hK;simp only[kh,aV,af,ae,aQ,hg,bg,ba,afZ];exact⟨⟨rfl,rfl,by simp⟩,hK⟩
 refine OA (az _ _ _) ?_;rw[nf];have TS:=qV.lt p (by simp);have Kg:Kp [p] s6 (St.set cw p (.cells [.ptr a 0,lg,I M.first,I M.bE, .map bd, .map st.next,I m'.root,I m'.used,I m'.head,I m'.free,I m'.root,I m'.used,I m'.head,I m'.free, .map (st.next+2), .map (st.next+1)] 150 false)):=(Kh.mono (by simp)).set _ (.inl (by simp)) TS
 have HK:dy (St.set cw p (.cells [.ptr a 0,lg,I M.first,I M.bE, .map bd, .map st.next,I m'.root,I m'.used,I m'.head,I m'.free,I m'.root,I m'.used,I m'.head,I m'.free, .map (st.next+2), .map (st.next+1)] 150 false)) p a lg (M.clean m' []) bd st.next (st.next+2) (st.next+1):=by
  have Nv:=qV.nd;simp only[agF,age,agX,aic,ahO]at Nv;exact⟨az _ _ _,qV.dirty.mono (aq _ _ _ _ (agZ Nv.1.1)),qV.now.mono (aq _ _ _ _ (agZ Nv.1.2.1)),qV.idle.mono (aq _ _ _ _ (agZ Nv.1.2.2.1)),qV.count.mono (aq _ _ _ _ (agZ Nv.1.2.2.2)),qV.nd,qV.lt,h.lgs⟩
 generalize St.set cw p (.cells [.ptr a 0,lg,I M.first,I M.bE, .map bd, .map st.next,I m'.root,I m'.used,I m'.head,I m'.free,I m'.root,I m'.used,I m'.head,I m'.free, .map (st.next+2), .map (st.next+1)] 150 false)=eJ at*;have U7:=wU.keep Kg fun b hb=>by simpa using hF b hb
 have K12:=k6.trans Kg (by simp);have G8:=Kg.next;have Uk:=HK.main;have EH:∀done n,(M.clean m' done).get D n=({M with now:=[]}:bY).get D n:=fun done n=>rfl;rw[bP];simp only[yn,aV,af,ae,av,Uk,ao,afZ,Nat.reduceAdd,agb,afX,au,aI,aJ];refine bA (fun fu vs s=>∃done rest,done++rest=frs/\fu=rest.length/\vs=[.ptr p 0,I (rest.headD 0)]/\Kp [st.next+2] eJ s/\dy s p a lg (M.clean m' done) bd st.next (st.next+2) (st.next+1)/\Il {M with now:=[]} D rest) ?_ (n:=frs.length) ⟨[],frs,rfl,rfl,by show [CV.ptr p 0,I m'.head]=_;rw[hhd],Kp.refl _ _,HK,hrow⟩;rintro fu vs s k ⟨done,rest,F7,Qs,rfl,hk,hP,Ty⟩ next;simp only[aI,aJ];have CE:=hk.next;cases rest with
 |nil=>
  have e3:ai .neq (some .int) true (I (([]:List Nat).headD 0)) (.int .i64 0) s= .ok (.bool false) s:=rfl;rw[e3,ae,ah,agf (by decide)];rw[ahc]at F7;subst F7;exact⟨trivial,K12.trans hk (by intro q hq;simp at hq;right;omega),st.next,st.next+2,st.next+1,hP,by intro b hb;simp at hb;omega⟩
 |cons n r=>
  have hn:=yd n (by rw[<-F7];simp)
  have KD:n∉done:=by
   intro hh;have:=uO;rw[<-F7,ahz]at this;exact this.2.2 n hh n (by simp) rfl
  have e3:ai .neq (some .int) true (I ((n::r).headD 0)) (.int .i64 0) s= .ok (.bool true) s:=by
   rw[aA,eR];show OR.ok (.bool (!decide ((n:Int)=0))) s=_;rw[agc (by omega)];rfl
  have e4:ai .lss none true (I ((n::r).headD 0)) (.int .i64 0) s= .ok (.bool false) s:=by
   rw[aA,bK];show OR.ok (.bool (decide ((n:Int)<0))) s=_;rw[agc (by omega)]
  have e5:ai .geq none false (I ((n::r).headD 0)) (I M.bE) s= .ok (.bool false) s:=by
   rw[aA,gJ];show OR.ok (.bool (decide ((M.bE:Int)<=(n:Int)))) s=_;rw[agc (by omega)]
  have CD:=hP.main;have hl:=IsMap.lookup (.inl hP.idle) (.bool false) false n s rfl;rw[agf (by decide),xj,agf (show¬n∈(M.clean m' done).idle from KD)]at hl;simp only[Option.getD_none]at hl;have Ol:s.mem.get p=some (.cells [.ptr a 0,lg,I M.first,I M.bE, .map bd, .map st.next,I m'.root,I m'.used,I m'.head,I m'.free,I m'.root,I m'.used,I m'.head,I m'.free, .map (st.next+2), .map (st.next+1)] 150 false):=CD;rw[e3,ae,ah,agl rfl,e4,ae];simp only[aE,afY,agn,agj,aM,ae,fB,aV,af,av,Ol,ao,afZ,agb,afX,au,e5,aF];rw[show fO .int (.bool false) false (.map (st.next+2)) (I ((n::r).headD 0)) s= .ok (.bool false) s from hl,ae];simp only[ah,afY,agn];obtain⟨blk,u1,u2,u3⟩:=IsMap.update (.inl hP.idle) n (.bool true);have u4:=u3 hP.idle;rw[Dj,show(M.clean m' done).idle=done from rfl,De KD]at u4;simp only[eN,aV,af,ae,av,Ol,ao,afZ,agb,afX,au];rw[show ef .int (.map (st.next+2)) (I ((n::r).headD 0)) (.bool true) s= .ok .undef (St.set s (st.next+2) blk)from u1,bj];have zR:=hP.lt (st.next+2) (by simp);have mf:=hP.nd;simp only[agF,age,agX,aic,ahO]at mf
  have O9:dy (St.set s (st.next+2) blk) p a lg (M.clean m' (done++[n])) bd st.next (st.next+2) (st.next+1):=
   ⟨(aq _ _ _ _ mf.1.2.2.1).trans CD,hP.dirty.mono (aq _ _ _ _ mf.2.1.2.1),hP.now.mono (aq _ _ _ _ mf.2.2.1.1),u4,hP.count.mono (aq _ _ _ _ (agZ mf.2.2.2.1)),hP.nd,hP.lt,h.lgs⟩
  have oq:Kp [st.next+2] eJ (St.set s (st.next+2) blk):=hk.set _ (.inl (by simp)) zR;generalize St.set s (st.next+2) blk=jl at*;have hdF:∀b∈F,b∉[st.next+2]:=fun b hb=>by have:=hd.lt b hb;simp;omega
  have KZ:=U7.keep oq hdF;have hlen:(eU (r.headD 0)).length=512:=yf _;refine(vH O9 KZ wx (n:=n) (by show M.first+n<_;omega) (by rw[EH,Ty.1];exact hlen)).mono ?_;rintro _ iw ⟨rfl,xW⟩;rw[ay,ae,aL,ay,ae,EH,Ty.1];have Vk:(aj (eU (r.headD 0))).length=512:=by simpa using hlen
  refine jw Vk (bz _) ?_;have Ki:=xW.dA (aj (eU (r.headD 0)));have VP:(St.set (St.new iw (.cells (zr 512) 152 false)) iw.next (.cells (aj (eU (r.headD 0))) 152 false)).mem.get iw.next=some (.cells (aj (eU (r.headD 0))) 152 false):=az _ _ _;have n18:(St.set (St.new iw (.cells (zr 512) 152 false)) iw.next (.cells (aj (eU (r.headD 0))) 152 false)).next=iw.next+1:=rfl;generalize St.set (St.new iw (.cells (zr 512) 152 false)) iw.next (.cells (aj (eU (r.headD 0))) 152 false)=iv at*;have El:bM 512 1 (.ptr iw.next 0) none (some (.int .i64 4)) iv= .ok (.slice iw.next 0 4 512 0) iv:=rfl;rw[e2,ae,ah,agf (by decide),El,ae];have wR:aj ((eU (r.headD 0)).take 4)=(aj (eU (r.headD 0))).take 4:=by simp[aj]
  have lO:Sl iv [] (.slice iw.next 0 4 512 0) 1 (aj ((eU (r.headD 0)).take 4)):= .inr ⟨iw.next,0,4,512,0,rfl,by rw[wR,agy];omega,⟨by omega, .inl rfl⟩, .inr ⟨by simp,by omega,_,_,_,VP,by omega,by rw[agC,wR]⟩⟩;have Ux:((eU (r.headD 0)).take 4).length<=4:=by rw[agy];omega
  refine(p6 lO (by omega) (qk _ Ux)).same ?_
  have hr2:r.headD 0<2147483648:=by
   cases r with
   |nil=>simp
   |cons x r=>have:=yd x (by rw[<-F7];simp);simp;omega
  rw[yg hr2];refine next r.length _ _ (by rw[Qs];simp) ⟨done++[n],r,by rw[<-F7];simp,rfl,rfl,oq.trans Ki (by simp),O9.keep Ki (by simp),Ty.2⟩
end
def mX (P:Nat->cp)(count:Nat):Nat->List (List UInt8)->Nat->Prop
 |s,[],e=>e=s
 |s,rec::rs,e=>(∀i,i<dD rec.length->P ((s+1+i)%count)=oT rec s (dD rec.length) i)/\mX P count (s+dD rec.length) rs e
theorem jZ (n:Nat):0<dD n:=by unfold dD;split<;>omega
theorem zu (n:Nat):n<=dD n*501:=by unfold dD;split<;>omega
theorem mX.le {P:Nat->cp}{count:Nat}:∀{rs:List (List UInt8)} {s e:Nat},mX P count s rs e->s<=e/\(rs≠[]->s<e):=by
 intro rs
 induction rs with
 |nil=>intro s e h;have h:e=s:=h;subst h;exact⟨aga _,fun h=>absurd rfl h⟩
 |cons rec rs ih=>
  intro s e h;have h1:=(ih h.2).1;have h2:=jZ rec.length;exact⟨by omega,fun _=>by omega⟩
theorem mX.ND {P:Nat->cp}{count:Nat}:∀{rs:List (List UInt8)} {s e:Nat},mX P count s rs e->rs≠[]->(P (e%count)).n=e:=by
 intro rs
 induction rs with
 |nil=>intro s e h h2;exact absurd rfl h2
 |cons rec rs ih=>
  intro s e h _;cases rs with
  |nil=>
   have he:e=s+dD rec.length:=h.2;have h2:=jZ rec.length;have:=h.1 (dD rec.length-1) (by omega);rw[show s+1+(dD rec.length-1)=e by omega]at this;rw[this];unfold oT;simp;omega
  |cons r rs=>exact ih h.2 (by simp)
theorem Dv {P:Nat->cp}{count:Nat}{rec:List UInt8}{s:Nat}(h:∀i,i<dD rec.length->P ((s+1+i)%count)=oT rec s (dD rec.length) i)(f last:Nat)(out:List (List UInt8)):
 ∀j i,i+j=dD rec.length->0<j->hQ P count (f+j) (s+i) (rec.take (i*501)) out last=hQ P count f (s+dD rec.length) [] (out++[rec]) (s+dD rec.length):=by
 intro j
 induction j with
 |zero=>intro i _ h0;omega
 |succ j ih=>
  intro i hi _;have hp:=h i (by omega);rw[show s+1+i=s+i+1 by omega]at hp;have hn:(P ((s+i+1)%count)).n=s+i+1:=by rw[hp];unfold oT;simp;omega
  have hd:(P ((s+i+1)%count)).data=(rec.drop (i*501)).take 501:=by rw[hp];rfl
  have hl:(P ((s+i+1)%count)).last=decide (i+1=dD rec.length):=by rw[hp];rfl
  have wR:rec.take (i*501)++(rec.drop (i*501)).take 501=rec.take ((i+1)*501):=by
   rw[show(i+1)*501=i*501+501 by omega,List.take_add]
  rw[show f+(j+1)=(f+j)+1 by omega,hQ,agl hn,hl,hd,wR]
  by_cases he:i+1=dD rec.length
  ·have hj:j=0:=by omega
   subst hj;have sw:=zu rec.length;rw[agl (by simpa using he),agk (by rw[he];exact sw),show s+i+1=s+dD rec.length by omega];rfl
  ·rw[agf (by simpa using he),show s+i+1=s+(i+1) by omega];exact ih (i+1) (by omega) (by omega)
theorem Dw {P:Nat->cp}{count:Nat}:∀{rs:List (List UInt8)} {s e:Nat},mX P count s rs e->(P ((e+1)%count)).n≠e+1->∀(fuel:Nat) (out:List (List UInt8)),e<=s+fuel->hQ P count fuel s [] out s=(out++rs,e):=by
 intro rs
 induction rs with
 |nil=>
  intro s e h iJ fuel out hf;have h:e=s:=h;subst h;cases fuel with
  |zero=>simp[hQ]
  |succ f=>rw[hQ,agf iJ];simp
 |cons rec rs ih=>
  intro s e h iJ fuel out hf;have h1:=(mX.le h.2).1;have h2:=jZ rec.length;have:=Dv h.1 (fuel-dD rec.length) s out (dD rec.length) 0 (by omega) h2;rw[show fuel-dD rec.length+dD rec.length=fuel by omega]at this;simp only[ahC,Nat.zero_mul,List.take_zero]at this;rw[this,ih h.2 iJ _ _ (by omega)];simp
theorem pP (P:Nat->cp)(count base:Nat):∀i k,i<=k->iz P count base i<=iz P count base k:=by
 intro i k
 induction k with
 |zero=>intro h;have:i=0:=by omega
        rw[this];exact aga _
 |succ k ih=>
  intro h
  by_cases he:i=k+1
  ·rw[he];exact aga _
  ·have:=ih (by omega);simp only[iz]
   split<;>omega
theorem Am {P:Nat->cp}{count base e:Nat}{rs:List (List UInt8)}(h:mX P count base rs e)(h0:0<count)(hle:∀j,j<count->(P j).n<=e):iz P count base count=e:=by
 have h1:=vi P count base e h.le.1 hle count (aga _);refine Nat.le_antisymm h1 ?_;cases rs with
 |nil=>
  have he:e=base:=h;rw[he];exact pP P count base 0 count (by omega)
 |cons r rs=>
  have hl:=h.ND (by simp);have hlt:=h.le.2 (by simp);have hj:e%count<count:=Nat.mod_lt _ h0;have h2:=pP P count base (e%count+1) count (by omega)
  have h3:e<=iz P count base (e%count+1):=by
   simp only[iz];rw[agl ⟨by rw[hl];omega,by rw[hl]⟩,hl];omega
  omega
theorem RK (C:aN)(j k:CV)(st:St)(Q:CV->St->Prop):aH P0 C (lvs 152) 152 [j,k] st Q=(upon (dd 303 [(.bool false), .aa, .aa] st) fun l m=>eN 0 j m fun x=>C 179 [x,k] m fun n c=>us (aB n 0 c) fun o=>us (aB n 1 c) fun p=>cN (fun b e=>us (ai .neq (some .int) true (ak 2 b) (I 0) e) fun y=>aD y (us (bf [(.bool false), .aa, .aa] [] e) fun z=>upon (aT 3 (ak 0 b) z e) fun _ q=>us (aP 3 (ak 0 b) q) fun A=>Q (.tuple [A,(ak 2 b)]) q) (C 180 [(ak 1 b)] e fun r h=>us (aB r 0 h) fun B=>us (aB r 1 h) fun s=>upon (dd 303 [(.bool false), .aa, .aa] h) fun d D=>upon (aT 3 d B D) fun _ a=>cN (fun f t=>us (aP 3 (ak 2 f) t) fun E=>upon (aT 3 (ak 0 f) E t) fun _ u=>us (aP 3 (ak 0 f) u) fun F=>Q (.tuple [F,(ak 1 f)]) u) fun v=>us (ai .eql (some .int) true s (I 0) a) fun i=>eu (ag true i) 0 d a fun G=>us (aS (ag true i) a (fA .not G a)) fun H=>us (aK i H (.bool false) a) fun g=>eu (ag true g) 1 d a fun J=>us (aS (ag true g) a (bO .slice J a)) fun K=>us (aS (ag true g) a (ai .eql (some .int) true K (I 0) a)) fun L=>us (aK g L (.bool false) a) fun M=>aD M (v [(ak 0 b),(I 4),d] a) (v [(ak 0 b),s,d] a))) fun w=>us (ai .eql (some .int) true p (I 1) c) fun N=>aD N (w [l,o,(I 4)] c) (w [l,o,p] c)):=by kernel_rfl
theorem Rm (C:aN)(d:CV)(st:St)(Q:CV->St->Prop):aH P0 C (lvs 204) 204 [d] st Q=(cN (fun c e=>cf (fun a b f=>us (ai .lss (none) false (ak 3 a) (ak 2 a) b) fun g=>aD g (idx 1 (ak 1 a) (ak 3 a) b fun h=>us (ai .shl (none) true (ak 0 a) (.int .u64 8) b) fun i=>us (bQ (.toInt .i64) h b) fun j=>us (ai .or (none) false i j b) fun k=>us (ai .add (none) true (ak 3 a) (I 1) b) fun l=>f [k,(ak 1 a),(ak 2 a),l] b) (Q (ak 0 a) b)) [(ak 0 c),(ak 1 c),(ak 2 c),(ak 3 c)] e) fun m=>us (bO .slice d st) fun n=>m [(I 0),d,n,(I 0)] st):=by kernel_rfl
theorem Rn (C:aN)(a:CV)(st:St)(Q:CV->St->Prop):aH P0 C (lvs 203) 203 [a] st Q=(us (ai .leq (none) true a (I 64) st) fun b=>aD b (Q (I 0) st) (us (ai .add (none) true a (I 480) st) fun c=>us (ai .sub (none) true c (I 1) st) fun d=>us (ai .quo (none) true d (I 480) st) fun e=>Q e st)):=by kernel_rfl
theorem Ry (C:aN)(j k l:CV)(st:St)(Q:CV->St->Prop):aH P0 C (lvs 181) 181 [j,k,l] st Q=(upon (eO 307 k st) fun f g=>fl 2 f g fun q=>cN (fun c r=>cf (fun a d s=>us (ai .lss (none) false (ak 5 a) (ak 4 a) d) fun t=>aD t (eN 0 (ak 0 a) d fun u=>C 179 [u,(ak 3 a)] d fun m b=>us (aB m 0 b) fun n=>us (aB m 1 b) fun h=>us (ai .eql (some .int) true h (I 1) b) fun i=>eu (ag false i) 3 (ak 2 a) b fun v=>us (aS (ag false i) b (ai .gtr (none) true v (I 8192) b)) fun w=>us (aK i (.bool true) w b) fun x=>aD x (Q (I 4) b) (us (ai .neq (some .int) true h (I 0) b) fun y=>aD y (Q h b) (us (cc 1 n none (some (I 4)) b) fun z=>C 204 [z] b fun A o=>us (cc 1 n (some (I 4)) (some (I 484)) o) fun B=>eG C (ak 1 a) [(ak 3 a),B] o fun p e=>us (ai .neq (some .int) true p (I 0) e) fun D=>aD D (Q p e) (us (ai .add (none) true (ak 5 a) (I 1) e) fun E=>s [(ak 0 a),(ak 1 a),(ak 2 a),A,(ak 4 a),E] e)))) (us (ai .neq (some .int) true (ak 3 a) (I 0) d) fun F=>aD F (Q (I 4) d) (Q (I 0) d))) [(ak 0 c),(ak 1 c),(ak 2 c),(ak 3 c),(ak 4 c),(ak 5 c)] r) fun G=>fl 3 f g fun H=>C 203 [H] g fun J K=>G [j,l,f,q,J,(I 0)] K):=by kernel_rfl
theorem Rx (C:aN)(c b a:CV)(st:St)(Q:CV->St->Prop):aH P0 C (lvs 182) 182 [c,b,a] st Q=(us (aw a st) fun d=>upon (cy 5 1 1 d (dJ .slice 1 [(.int .u8 0)] b st) st) fun e f=>upon (aT 1 a e f) fun _ g=>Q (I 0) g):=by kernel_rfl
theorem RJ (C:aN)(g h:CV)(st:St)(Q:CV->St->Prop):aH P0 C (lvs 153) 153 [g,h] st Q=(upon (eO 307 h st) fun b c=>fl 2 b c fun j=>us (ai .eql (some .int) true j (I 0) c) fun k=>aD k (fl 1 b c fun l=>Q (.tuple [l,(I 0)]) c) (upon (dd 139 [.aa] c) fun e f=>us (aP 4 b f) fun m=>us (mH (.func 182) [] [e] f) fun n=>C 181 [g,m,n] f fun i a=>us (ai .neq (some .int) true i (I 0) a) fun d=>us (aS (ag false d) a (aw e a)) fun o=>us (aS (ag false d) a (bO .slice o a)) fun p=>eu (ag false d) 3 b a fun q=>us (aS (ag false d) a (ai .lss (none) false p q a)) fun r=>us (aK d (.bool true) r a) fun s=>aD s (us (GG true i (I 4) a) fun t=>Q (.tuple [(.str []),t]) a) (us (aw e a) fun u=>fl 3 b a fun v=>us (cc 1 u none (some v) a) fun w=>us (bQ .strOf w a) fun x=>Q (.tuple [x,(I 0)]) a))):=by kernel_rfl
theorem R6 (C:aN)(o A t u w x:CV)(st:St)(Q:CV->St->Prop):aH P0 C (lvs 117) 117 [o,A,t,u,w,x] st Q=(C 152 [o,A] st fun B y=>us (aB B 0 y) fun U=>us (aB B 1 y) fun D=>upon (dd 303 [(.bool false), .aa, .aa] y) fun l V=>upon (aT 3 l U V) fun _ e=>us (ai .neq (some .int) true D (I 0) e) fun W=>aD W (Q D e) (fl 0 l e fun X=>aD X (cN (fun h Y=>cf (fun c p E=>us (ai .lss (none) false (ak 6 c) (ak 5 c) p) fun Z=>aD Z (jh 4 4 (ak 4 c) (ak 6 c) p fun a0=>upon (dd 307 [(.str []),(.str []),(I 0),(I 0)] p) fun m a1=>upon (aT 4 m a0 a1) fun _ d=>fl 0 m d fun a2=>us (ai .lss (none) false a2 (ak 1 c) d) fun n=>us (aS (ag false n) d (.ok (ak 2 c) d)) fun a3=>us (aS (ag false n) d (ai .neq (some .str) true a3 (.str []) d)) fun a4=>us (aS (ag false n) d (.ok a4 d)) fun q=>eu (ag true q) 0 m d fun a5=>us (aS (ag true q) d (.ok (ak 2 c) d)) fun a6=>us (aS (ag true q) d (ai .geq (none) false a5 a6 d)) fun a7=>us (aS (ag false n) d (aK q a7 (.bool false) d)) fun a8=>us (aK n (.bool true) a8 d) fun a9=>aD a9 (us (ai .add (none) true (ak 6 c) (I 1) d) fun b0=>E [(ak 0 c),(ak 1 c),(ak 2 c),(ak 3 c),(ak 4 c),(ak 5 c),b0] d) (us (aP 4 m d) fun b1=>C 153 [(ak 0 c),b1] d fun F f=>us (aB F 0 f) fun b2=>us (aB F 1 f) fun G=>us (ai .neq (some .int) true G (I 0) f) fun b3=>aD b3 (Q G f) (cd (us (cz (ak 3 c) (St.skip f)) fun H=>us (aw H (St.skip f)) fun J=>us (al 0 m (St.skip f)) fun K=>us (aw K (St.skip f)) fun L=>us (bf [(.str []),(.str [])] [(0,1,L),(1,1,b2)] (St.skip f)) fun b4=>
 upon (dW f.next 188 1 (cM 1 [(.str []),(.str [])]) [(0,2,b4)] (St.skip f)) fun b5 r=>upon (cy 188 2 32 J (dJ .slice 2 [(.str []),(.str [])] b5 r) r) fun b6 M=>us (cz (ak 3 c) M) fun b7=>upon (aT 1 b7 b6 M) fun f1 N=>(((us (aw H r) fun v=>v=J)/\True)/\((us (aw K r) fun v=>v=L)/\True)/\True)/\((True)/\True)/\us (ai .add (none) true (ak 6 c) (I 1) N) fun b8=>E [(ak 0 c),(ak 1 c),(ak 2 c),(ak 3 c),(ak 4 c),(ak 5 c),b8] N)))) (Q (I 0) p)) [(ak 0 h),(ak 1 h),(ak 2 h),(ak 3 h),(ak 4 h),(ak 5 h),(ak 6 h)] Y) fun b9=>fl 1 l e fun O=>us (bO .slice O e) fun c0=>b9 [o,u,w,x,O,c0,(I 0)] e) (us (ai .eql (some .int) true t (I 40) e) fun c1=>aD c1 (Q (I 4) e) (cN (fun g c2=>cf (fun b a P=>us (ai .lss (none) false (ak 8 b) (ak 7 b) a) fun c3=>aD c3 (idx 1 (ak 6 b) (ak 8 b) a fun c4=>fl 1 (ak 5 b) a fun c5=>us (bO .slice c5 a) fun c6=>us (ai .lss (none) false (ak 8 b) c6 a) fun k=>eu (ag true k) 1 (ak 5 b) a fun c7=>us (aS (ag true k) a (.ok (ak 8 b) a)) fun c8=>kP (ag true k) 4 0 c7 c8 a fun c9=>us (aS (ag true k) a (.ok (ak 2 b) a)) fun d0=>us (aS (ag true k) a (ai .leq (none) false c9 d0 a)) fun d1=>us (aK k d1 (.bool false) a) fun i=>us (aS (ag false i) a (.ok (ak 8 b) a)) fun d2=>us (aS (ag false i) a (ai .gtr (none) true d2 (I 0) a)) fun d3=>us (aS (ag false i) a (.ok d3 a)) fun z=>us (aS (ag true z) a (.ok (ak 3 b) a)) fun d4=>us (aS (ag true z) a (ai .neq (some .str) true d4 (.str []) a)) fun d5=>us (aS (ag false i) a (aK z d5 (.bool false) a)) fun d6=>
 us (aS (ag false i) a (.ok d6 a)) fun j=>eu (ag true j) 1 (ak 5 b) a fun d7=>us (aS (ag true j) a (.ok (ak 8 b) a)) fun d8=>us (aS (ag true j) a (ai .sub (none) true d8 (I 1) a)) fun d9=>kP (ag true j) 4 0 d7 d9 a fun e0=>us (aS (ag true j) a (.ok (ak 3 b) a)) fun e1=>us (aS (ag true j) a (ai .geq (none) false e0 e1 a)) fun e2=>us (aS (ag false i) a (aK j e2 (.bool false) a)) fun e3=>us (aK i (.bool true) e3 a) fun e4=>aD e4 (us (ai .add (none) true (ak 8 b) (I 1) a) fun e5=>P [(ak 0 b),(ak 1 b),(ak 2 b),(ak 3 b),(ak 4 b),(ak 5 b),(ak 6 b),(ak 7 b),e5] a) (us (ai .add (none) true (ak 1 b) (I 1) a) fun e6=>C 117 [(ak 0 b),c4,e6,(ak 2 b),(ak 3 b),(ak 4 b)] a fun S s=>us (ai .neq (some .int) true S (I 0) s) fun e7=>aD e7 (Q S s) (us (ai .add (none) true (ak 8 b) (I 1) s) fun e8=>P [(ak 0 b),(ak 1 b),(ak 2 b),(ak 3 b),(ak 4 b),(ak 5 b),(ak 6 b),(ak 7 b),e8] s))) (Q (I 0) a)) [(ak 0 g),(ak 1 g),(ak 2 g),(ak 3 g),(ak 4 g),(ak 5 g),(ak 6 g),(ak 7 g),(ak 8 g)] c2) fun e9=>fl 2 l e fun T=>us (bO .slice T e) fun f0=>e9 [o,t,u,w,x,l,T,f0,(I 0)] e)))):=by kernel_rfl
theorem Zf (C:aN)(a d e:CV)(st:St)(Q:CV->St->Prop):aH P0 C (lvs 75) 75 [a,d,e] st Q=(us (ai .eql (some .ptr) true a .aC st) fun i=>aD i (Q (.tuple [.aa,(I 2)]) st) (eN 0 a st fun j=>C 116 [j] st fun k c=>us (ai .eql (some .int) true k (I 0) c) fun l=>aD l (Q (.tuple [.aa,(I 0)]) c) (upon (dd 185 [.aa] c) fun f g=>eN 0 a g fun m=>C 116 [m] g fun n o=>C 117 [a,n,(I 0),d,e,f] o fun h b=>us (ai .neq (some .int) true h (I 0) b) fun p=>aD p (Q (.tuple [.aa,h]) b) (us (aw f b) fun q=>Q (.tuple [q,(I 0)]) b)))):=by kernel_rfl
theorem Zu (C:aN)(a:CV)(st:St)(Q:CV->St->Prop):aH P0 C (lvs 57) 57 [a] st Q=(us (ai .eql (some .ptr) true a .aC st) fun b=>aD b (Q .aC st) (us (bf [.aC] [(0,1,a)] st) fun c=>upon (eO 237 c st) fun d e=>Q d e)):=by kernel_rfl
structure Tg (τ:Nat)(π:PI)(st:St)(G:GM):Prop where
 pg:Pg π st G
 lt:τ<st.next
 not:τ∉π.all
 get:∃ty g,st.mem.get τ=some (.cells [.ptr π.p 0] ty g)
 fr:dw st
section
variable {τ:Nat} {π:PI} {st st':St} {G:GM}
theorem Tg.still (h:Tg τ π st G)(hk:Kp [] st st'):Tg τ π st' G:=by
 obtain⟨ty,g,hg⟩:=h.get;exact⟨h.pg.still hk,ago h.lt hk.next,h.not,⟨ty,g,(hk.keep τ h.lt (by simp)).trans hg⟩,hk.fresh h.fr⟩
theorem Tg.get' (h:Tg τ π st G){k:CV->Prop}(hk:k (.ptr π.p 0)):eN 0 (.ptr τ 0) st k:=by
 obtain⟨ty,g,hg⟩:=h.get;simp only[eN,aV,af,ae,av,hg,ao,afZ,afX,au];exact hk
theorem C2 (h:Tg τ π st G){dA:Nat}{n:ek}(hn:Ju G dA n):R 152 [.ptr τ 0,I dA] st (pJ n st):=by
 refine bp ?_;rw[RK];have k1:Kp [] st (St.new st (.cells [.bool false, .aa, .aa] 303 false)):=(Kp.refl [] st).new _;have g1:(St.new st (.cells [.bool false, .aa, .aa] 303 false)).mem.get st.next=some (.cells [.bool false, .aa, .aa] 303 false):=aG _ _;have n1:(St.new st (.cells [.bool false, .aa, .aa] 303 false)).next=st.next+1:=rfl;rw[cn,bj];generalize St.new st (.cells [.bool false, .aa, .aa] 303 false)=s1 at*;have h1:=h.still k1;refine h1.get' ?_;refine(DF h1.pg hn.js).mono ?_;rintro _ s2 ⟨k2,hl,b,rfl,g2,b1,b2⟩;rw[hn.cont]at hl g2;have n2:=k2.next;have e1:ai .eql (some .int) true (I 0) (.int .i64 1) s2= .ok (.bool false) s2:=rfl;have e2:ai .neq (some .int) true (I 0) (.int .i64 0) s2= .ok (.bool false) s2:=rfl;simp only[ay,aL,ae,bP,e1,ah,afY,agn,aI,aJ,e2];have Ev:(aj (nM (.node n))).length=512:=by simpa using hl
 have lO:Sl s2 [] (.slice b 0 512 512 1) 1 (aj (pc n++List.replicate (512-n.size) 0)):= .inr ⟨b,0,512,512,1,rfl,(show(aj (nM (.node n))).length=512*1 by rw[Ev]),⟨aga _, .inr rfl⟩, .inr ⟨by simp,b2,_,_,_,g2,by omega,by rw[agC,agk (by omega)];rfl⟩⟩;have hk2:=k1.trans k2 (by simp);have hs:=hn.size;refine(Cm (hk2.fresh h.fr) lO hn.ok (by omega)).mono ?_;rintro _ s5 ⟨x,rfl,k5,hx⟩;have n5:=k5.next;obtain⟨vc,vk,rfl,c1,c2⟩:=hx [st.next] (by simp;omega);obtain⟨x1,x2,x3⟩:=c1.jg;obtain⟨y1,y2,y3⟩:=c2.jg;simp only[ay,aL,ae];refine mL rfl rfl (by simp[x2,y2]) ?_;have k7:Kp [] s5 (St.new s5 (.cells [.bool n.leaf,vc,vk] 303 false)):=(Kp.refl _ s5).new _;have g7:(St.new s5 (.cells [.bool n.leaf,vc,vk] 303 false)).mem.get s5.next=some (.cells [.bool n.leaf,vc,vk] 303 false):=aG _ _;have n7:(St.new s5 (.cells [.bool n.leaf,vc,vk] 303 false)).next=s5.next+1:=rfl;generalize St.new s5 (.cells [.bool n.leaf,vc,vk] 303 false)=s7 at*;have UG:=(hk2.trans k5 (by simp)).trans k7 (by simp);have MD:=(k7.keep st.next (by omega) (by simp)).trans ((k5.keep st.next (by omega) (by simp)).trans ((k2.keep st.next (by omega) (by simp)).trans g1));have e3:ai .eql (some .int) true (I 0) (.int .i64 0) s7= .ok (.bool true) s7:=rfl;have hlen:=(c1.mono (k7.mono (by simp))).len n.cells.length (gQ _) (by omega) s7
 have fin:us (aP 3 (.ptr s5.next 0) s7) fun dp=>upon (aT 3 (.ptr st.next 0) dp s7) fun _ s9=>us (aP 3 (.ptr st.next 0) s9) fun db=>pJ n st (.tuple [db,I 0]) s9:=by
  have nj:bB [.bool false, .aa, .aa] 0 [.bool n.leaf,vc,vk]=[.bool n.leaf,vc,vk]:=rfl;rw[aR (n:=3) g7 rfl,ae,aQ,MD,bg,ba,nj];refine⟨⟨rfl,by simp[x2,y2],by simp⟩, ?_⟩;rw[aR (n:=3) (az _ _ _) rfl,ae];have k9:Kp [st.next] s7 (St.set s7 st.next (.cells [.bool n.leaf,vc,vk] 303 false)):=(Kp.refl _ s7).set _ (.inl (by simp)) (by omega);refine⟨_,rfl,UG.set _ (.inr (aga _)) (by omega),fun X hX=> ?_⟩;have:=(hx (X++[st.next]) (by intro b hb;simp at hb;rcases hb with h|h;have:=hX b h;omega;omega)).mono (k7.mono (by simp));exact(this.mono (k9.mono (by simp))).oE (by intro q hq;simp[hq])
 have IZ:=hn.full;cases pv:n.leaf with
 |true=>
  rw[pv]at g7;simp only[e3,ae,aE,ags,eu,aM,af,av,g7,ao,afZ,afX,au,bt,agm,aF,afY,agn,bT,ah];exact fin
 |false=>
  rw[pv]at g7 IZ;have iJ:n.cells≠[]:=by rcases IZ with h|h;cases h;exact h
  have Ep:=ahQ.2 iJ;have e4:ai .eql (some .int) true (I n.cells.length) (.int .i64 0) s7= .ok (.bool false) s7:=by rw[aA,eT,agc (by omega)]
  simp only[e3,ae,aE,ags,eu,aM,af,av,g7,ao,afZ,agb,afX,au,bt,agj,aF,hlen,e4,ah,afY,agn];exact fin
theorem JA (m:Nat):cM m [.int .u8 0]=aj (List.replicate m 0):=by
 induction m with
 |zero=>rfl
 |succ m ih=>
  have:cM (m+1) [CV.int .u8 0]= .int .u8 0::cM m [.int .u8 0]:=by simp[cM,agQ]
  rw[this,ih];rfl
end
section
variable {st st':St}
theorem zd {X:List Nat}{v:CV}{l:List UInt8}(h:Sl st X v 1 (aj l))(hl:l.length<=1000)(hb:∀i,l8 (l.take i)<=4611686018427387904):R 204 [v] st fun x st'=>x=I (l8 l)/\st'=st:=by
 refine bp ?_;rw[Rm];have hlen:=h.len l.length (by simp) (by omega) st;show us _ _;rw[hlen,ae];show cf _ _ _;simp only[aI,aJ];refine bA (fun fu vs s=>∃i,fu+i=l.length/\vs=[I (l8 (l.take i)),v,I l.length,I i]/\s=st) ?_ (n:=l.length) ⟨0,rfl,rfl,rfl⟩;rintro fu vs s k ⟨i,hi,rfl,rfl⟩ next;simp only[aI,aJ]
 by_cases hc:i<l.length
 ·have a1:ai .lss none false (I i) (I l.length) s= .ok (.bool true) s:=by rw[aA,bK,agi (by omega)]
  have yR:=hb i;have hb2:=hb (i+1);have wR:l.take (i+1)=l.take i++[l[i]]:=by rw[agI hc]
  rw[wR,mV]at hb2;have hlt:(l[i]).toNat<256:=(l[i]).toNat_lt
  have a2:ai .shl none true (I (l8 (l.take i))) (.int .u64 8) s= .ok (I ((l8 (l.take i)*2^8:Nat):Int)) s:=by
   have e:ai .shl none true (I (l8 (l.take i))) (.int .u64 8) s= .ok (I (IntKind.i64.wrap ((l8 (l.take i):Int)*2^8))) s:=rfl;rw[e,bN (by omega)];simp
  have a3:bQ (.toInt .i64) (bo l[i]) s= .ok (I (l[i]).toNat) s:=xa _ (by omega) _ _;have a4:ai .or none false (I ((l8 (l.take i)*2^8:Nat):Int)) (I (l[i]).toNat) s= .ok (I ((l8 (l.take i)*2^8+(l[i]).toNat:Nat):Int)) s:=uD _ _ _ (by omega) (by omega) _ _ _;have a5:ai .add none true (I i) (.int .i64 1) s= .ok (I ((i+1:Nat):Int)) s:=by rw[aA,cR,bN (by omega)];rfl
  simp only[a1,ae,ah,ags,a2];refine h.idx (by simpa using hc) _ ?_;have hg:(aj l)[i]'(by simpa using hc)=bo l[i]:=by simp[aj]
  rw[hg,a3,ae,a4,ae,a5,ae];exact next (fu-1) _ _ (by omega) ⟨i+1,by omega,by rw[wR,mV],rfl⟩
 ·have a1:ai .lss none false (I i) (I l.length) s= .ok (.bool false) s:=by rw[aA,bK,agc (by omega)]
  simp only[a1,ae,ah,afY,agn];rw[agk (by omega)];exact⟨rfl,trivial⟩
end
def rO (n:Nat):Nat:=if n<=64 then 0 else (n+479)/480
theorem GF {st:St}{n:Nat}(hn:n<=4000000000):R 203 [I n] st fun v st'=>v=I (rO n)/\st'=st:=by
 refine bp ?_;rw[Rn];have e1:ai .leq none true (I n) (.int .i64 64) st= .ok (.bool (decide (n<=64))) st:=by rw[aA,il];congr 2;simp only[ahf];omega
 have e2:ai .add none true (I n) (.int .i64 480) st= .ok (I ((n+480:Nat):Int)) st:=by rw[aA,cR,bN (by omega)];rfl
 have e3:ai .sub none true (I ((n+480:Nat):Int)) (.int .i64 1) st= .ok (I ((n+479:Nat):Int)) st:=by rw[aA,fF,bN (by omega)];congr 2;omega
 have e4:ai .quo none true (I ((n+479:Nat):Int)) (.int .i64 480) st= .ok (I (((n+479)/480:Nat):Int)) st:=by
  have e0:ai .quo none true (I ((n+479:Nat):Int)) (.int .i64 480) st= .ok (I (IntKind.i64.wrap (Int.tdiv ((n+479:Nat):Int) 480))) st:=rfl;have e1:Int.tdiv ((n+479:Nat):Int) 480=(((n+479)/480:Nat):Int):=rfl;rw[e0,e1,bN (by omega)]
 unfold rO;simp only[e1,ae,ah,e2,e3,e4]
 by_cases h:n<=64
 ·rw[agi h,agl rfl,agl h];exact⟨rfl,trivial⟩
 ·rw[agc h,agf (by decide),agf h];exact⟨rfl,trivial⟩
theorem pL.len {G:GM}{ps:List Nat}{dA:Nat}{v:List UInt8}(h:pL G ps dA v):ps.length=(v.length+479)/480:=by
 induction ps generalizing dA v with
 |nil=>obtain⟨_,rfl⟩:=h;rfl
 |cons p ps ih=>
  obtain⟨_,h1,_,next,_,_,h5⟩:=h;have:=ih h5;rw[ahd]at this;have:=ahQ.2 h1;rw[agT];omega
section
variable {τ:Nat} {π:PI} {st st':St}
theorem Hd {f:CV}{c:fw}(Inv:Nat->GM->List Nat->Nat->List UInt8->St->Prop)
 (hT:∀q G ps dA v s,Inv q G ps dA v s->Tg τ π s G/\pL G ps dA v/\s.mem.get q=some (.cells (cr c) 307 false)/\q<s.next)
 (hS:∀q G p ps v s next,Inv q G (p::ps) p v s->G.cont p= .ej next (v.take 480)->pL G ps next (v.drop 480)->∀s' b,Kp [] s s'->(∀X,(∀b∈X,b<s.next)->Sl s' X b 1 (aj (v.take 480++List.replicate (480-(v.take 480).length) 0)))->eG R f [I p,b] s' fun x Ma=>x=I 0/\∃G',Inv q G' ps next (v.drop 480) Ma)
 {G:GM} {ps:List Nat} {v:List UInt8} (h0:∀s1 q,Kp [] st s1->st.next<=q->q<s1.next->s1.mem.get q=some (.cells (cr c) 307 false)->Inv q G ps c.ej v s1) (hl:ps.length=rO c.size) (hsz:c.size<=8192):
 R 181 [.ptr τ 0, .agg (cr c),f] st fun x st'=>x=I 0/\∃q G',st.next<=q/\Inv q G' [] 0 [] st':=by
 refine bp ?_;rw[Ry];rw[br,ba];refine⟨rfl, ?_⟩;have k1:Kp [] st (St.new st (.cells (cr c) 307 false)):=(Kp.refl [] st).new _;have g1:(St.new st (.cells (cr c) 307 false)).mem.get st.next=some (.cells (cr c) 307 false):=aG _ _;have n1:(St.new st (.cells (cr c) 307 false)).next=st.next+1:=rfl;generalize St.new st (.cells (cr c) 307 false)=s1 at*;have i1:=h0 s1 st.next k1 (aga _) (by omega) g1
 have zU:∀o x,(cr c)[o]?=some x->∀s,s.mem.get st.next=some (.cells (cr c) 307 false)->∀K:CV->Prop,fl o (.ptr st.next 0) s K=K x:=by
  intro o x hx s hs K;simp only[fl,af,ae,av,hs,ao,afZ,hx,au]
 rw[zU 2 (I c.ej) rfl s1 g1,bP,zU 3 (I c.size) rfl s1 g1];refine(GF (n:=c.size) (by omega)).same ?_;simp only[aI,aJ]
 have U9:ps.length<=1000000:=by
  rw[hl];unfold rO;split<;>omega
 rw[<-hl];refine bA (fun fu vs s=>∃(G':GM) (i dA:Nat) (pr:List Nat) (vr:List UInt8),fu+i=ps.length/\pr.length=fu/\vs=[.ptr τ 0,f, .ptr st.next 0,I dA,I ps.length,I i]/\Inv st.next G' pr dA vr s) ?_ (n:=ps.length) ⟨G,0,c.ej,ps,v,rfl,rfl,rfl,i1⟩;rintro fu vs s k ⟨G',i,dA,pr,vr,hi,Xs,rfl,KM⟩ next;obtain⟨X7,hC,hg,hlt⟩:=hT _ _ _ _ _ _ KM;simp only[aI,aJ,de,ae,ah]
 by_cases hc:i<ps.length
 ·rw[agi hc,agl rfl]
  obtain⟨p,Mb,rfl⟩:∃p Mb,pr=p::Mb:=by
   cases pr with
   |nil=>simp at Xs;omega
   |cons p Mb=>exact⟨p,Mb,rfl⟩
  obtain⟨rfl,iJ,hu,nx,uR,hnx,Jh⟩:=hC;refine X7.get' ?_;refine(DF X7.pg hu).mono ?_;rintro _ s4 ⟨k4,wk,b,rfl,g4,b1,b2⟩;rw[uR]at wk g4;have n4:=k4.next;have gq4:=(k4.keep st.next hlt (by simp)).trans hg;have e1:ai .eql (some .int) true (I 0) (.int .i64 1) s4= .ok (.bool false) s4:=rfl;have e2:ai .gtr none true (I c.size) (.int .i64 8192) s4= .ok (.bool false) s4:=by rw[aA,cC,agc (by omega)]
  have e3:ai .neq (some .int) true (I 0) (.int .i64 0) s4= .ok (.bool false) s4:=rfl;have hcz:(cr c)[3]?=some (I c.size):=rfl;have Ev:(aj (nM (.ej nx (vr.take 480)))).length=512:=by simpa using wk
  have lO:∀X,(∀b∈X,b<s.next)->Sl s4 X (.slice b 0 512 512 1) 1 (aj (nM (.ej nx (vr.take 480)))):=fun X hX=> .inr ⟨b,0,512,512,1,rfl,by rw[Ev],⟨aga _, .inr rfl⟩, .inr ⟨fun h=>by have:=hX b h;omega,b2,_,_,_,g4,by omega,by rw[agC,agk (by omega)]⟩⟩;obtain⟨q8,p1,p2⟩:=(lO [] (by simp)).hi (n:=512) (by omega) (by rw[Ev]) (h:=4) (by omega) s4
  have wR:(aj (nM (.ej nx (vr.take 480)))).take (4*1)=aj (be 4 nx):=by
   unfold nM;rw[bq,aht (by rw[bJ,gV])]
  rw[wR]at p2;have SE:cc 1 (.slice b 0 512 512 1) none (some (.int .i64 4)) s4= .ok q8 s4:=p1;simp only[ay,aL,ae,e1,aE,afY,agn,agj,eu,aM,af,av,gq4,ao,afZ,hcz,au,e2,aF,ah,e3,SE];refine(zd p2 (by rw[gV];omega) (qk _ (by rw[gV];omega))).same ?_;rw[oD 4 nx (by have:nx<=2147483647:=hnx;omega)];have Qn:(vr.take 480).length<=480:=by rw[agy];omega
  have Uf:((aj (nM (.ej nx (vr.take 480)))).drop (4*1)).take ((484-4)*1)=aj (vr.take 480++List.replicate (480-(vr.take 480).length) 0):=by
   unfold nM;rw[bq,List.drop_left' (by rw[bJ,gV]),bq,ahR,agk (by rw[bJ];omega),bq]
   congr 1
   unfold aj;rw[<-List.map_take,List.take_replicate,agM]
   congr 2;omega
  obtain⟨Wj,p3,_⟩:=(lO [] (by simp)).both (n:=512) (by omega) (by rw[Ev]) (l:=4) (h:=484) (by omega) (by omega) s4;have p3':cc 1 (.slice b 0 512 512 1) (some (.int .i64 4)) (some (.int .i64 484)) s4= .ok Wj s4:=p3;rw[p3',ae];refine mT (hS st.next G' dA Mb vr s nx KM uR Jh s4 Wj k4 fun X hX=> ?_) ?_
  ·obtain⟨aac,q3,q4⟩:=(lO X hX).both (n:=512) (by omega) (by rw[Ev]) (l:=4) (h:=484) (by omega) (by omega) s4;rw[p3]at q3;cases q3;rw[Uf]at q4;exact q4
  ·rintro _ s6 ⟨rfl,G2,CJ⟩;have e4:ai .neq (some .int) true (I 0) (.int .i64 0) s6= .ok (.bool false) s6:=rfl;rw[e4,ae,ah,agf (by decide),gW i (by omega),ae];exact next (fu-1) _ _ (by omega) ⟨G2,i+1,nx,Mb,_,by omega,by simp at Xs;omega,rfl,CJ⟩
 ·rw[agc hc,agf (by decide)];have:pr=[]:=agu.1 (by omega);subst this;obtain⟨rfl,rfl⟩:=hC;have e5:ai .neq (some .int) true (I ((0:Nat):Int)) (.int .i64 0) s= .ok (.bool false) s:=rfl;rw[e5,ae,ah,agf (by decide)];exact⟨trivial,st.next,G',aga _,KM⟩
end
section
variable {τ:Nat} {π:PI} {st st':St} {G:GM}
theorem Tg.AL (h:Tg τ π st G){X:List Nat}(hk:Kp X st st')(hx:∀b∈X,b∉π.all/\b≠τ):Tg τ π st' G:=by
 obtain⟨ty,g,hg⟩:=h.get;exact⟨h.pg.keep hk fun b hb hh=>(hx b hh).1 hb,ago h.lt hk.next,h.not,⟨ty,g,(hk.keep τ h.lt fun hh=>(hx τ hh).2 rfl).trans hg⟩,hk.fresh h.fr⟩
structure LP (τ:Nat)(π:PI)(st:St)(G:GM)(c:fw)(bx:Nat)(Sh:List UInt8)(q:Nat)(ps:List Nat)(dA:Nat)(v:List UInt8)(s:St)(x:CV)(F:List Nat)(taken pad:List UInt8):Prop where
 tg:Tg τ π s G
 chain:pL G ps dA v
 box:s.mem.get q=some (.cells (cr c) 307 false)
 lt:q<s.next
 ne:q≠bx
 Pm:s.mem.get bx=some (.cells [x] 139 false)
 bl:bx<s.next
 own:Own s x 1 5 (aj (taken++pad)) F
 F:∀b∈F,bx<b/\b<s.next/\b≠q
 Sk:Sh=taken++v
 SC:v≠[]->pad=[]
 aaz:pad.length<=480
 kp:Kp [] st s
theorem CS (h:Tg τ π st G){c:fw}{v:List UInt8}{ps:List Nat}(hc:c.ok true)(hv:Jq G c v ps):R 153 [.ptr τ 0, .agg (cr c)] st fun x st'=>x= .tuple [.str v,I 0]/\Kp [] st st':=by
 refine bp ?_;rw[RJ];rw[br,ba];refine⟨rfl, ?_⟩;have k1:Kp [] st (St.new st (.cells (cr c) 307 false)):=(Kp.refl [] st).new _;have g1:(St.new st (.cells (cr c) 307 false)).mem.get st.next=some (.cells (cr c) 307 false):=aG _ _;have n1:(St.new st (.cells (cr c) 307 false)).next=st.next+1:=rfl;generalize St.new st (.cells (cr c) 307 false)=s1 at*
 have zU:∀o x,(cr c)[o]?=some x->∀s,s.mem.get st.next=some (.cells (cr c) 307 false)->∀K:CV->Prop,fl o (.ptr st.next 0) s K=K x:=by
  intro o x hx s hs K;simp only[fl,af,ae,av,hs,ao,afZ,hx,au]
 rw[zU 2 (I c.ej) rfl s1 g1,zU 1 (.str c.value) rfl s1 g1];rcases hv with⟨h0,rfl,rfl⟩|⟨h0,hsz,IT,IX,hC⟩
 ·have e1:ai .eql (some .int) true (I c.ej) (.int .i64 0) s1= .ok (.bool true) s1:=by rw[h0];rfl
  rw[e1,ae,ah,agl rfl];exact⟨rfl,k1⟩
 ·have e1:ai .eql (some .int) true (I c.ej) (.int .i64 0) s1= .ok (.bool false) s1:=by rw[aA,eT,agc (by omega)]
  rw[e1,ae,ah,agf (by decide),cn,bj];have k2:Kp [] s1 (St.new s1 (.cells [.aa] 139 false)):=(Kp.refl [] s1).new _;have g2:(St.new s1 (.cells [.aa] 139 false)).mem.get s1.next=some (.cells [.aa] 139 false):=aG _ _;have n2:(St.new s1 (.cells [.aa] 139 false)).next=s1.next+1:=rfl;generalize St.new s1 (.cells [.aa] 139 false)=s2 at*;have Jl:=(k2.keep st.next (by omega) (by simp)).trans g1;have hk2:=k1.trans k2 (by simp);have t2:=h.still hk2;rw[aR (n:=4) Jl rfl,ae,oX,ae];refine(Hd (st:=s2) (τ:=τ) (π:=π) (c:=c) (G:=G) (ps:=ps) (v:=v) (fun q G' ps dA v' s=>G'=G/\∃x F taken pad,LP τ π st G c s1.next v q ps dA v' s x F taken pad/\st.next<q/\s.mem.get st.next=some (.cells (cr c) 307 false)) ?_ ?_ ?_ ?_ ?_).mono ?_
  ·rintro q G' ps dA v' s ⟨rfl,x,F,taken,pad,hI,_⟩;exact⟨hI.tg,hI.chain,hI.box,hI.lt⟩
  ·rintro q G' p WE v' s nx ⟨rfl,x,F,taken,pad,hI,hq,kQ⟩ uR Jh s' b hk lO;have TK:v'≠[]:=by obtain⟨_,h,_⟩:=hI.chain;exact h
   have TO:=hI.SC TK;subst TO;have TZ:=hk.next;rw[dR];simp only[agE,List.cons_append];refine bp ?_;rw[Rx];have Pm:=(hk.keep _ hI.bl (by simp)).trans hI.Pm;have zI:=hI.own.keep hk fun b hb=>⟨(hI.F b hb).2.1,by simp⟩;obtain⟨m,q1,q2⟩:=(lO [] (by simp)).src [(.int .u8 0)]
   have B6:(v'.take 480++List.replicate (480-(v'.take 480).length) 0).length=480:=by
    have:(v'.take 480).length<=480:=by rw[agy];omega
    rw[agq,agr];omega
   have hm:m=480:=by rw[bJ,B6]at q1;omega
   subst hm;have htl:taken.length<=8192:=by have:=congrArg List.length hI.Sk;rw[agq]at this;omega
   obtain⟨x',Ma,F',a1,a2,a3,a4⟩:=zI.append (n:=480) (bytes:=1) (T:=aj (v'.take 480++List.replicate (480-(v'.take 480).length) 0)) (by omega) (by rw[bJ,B6]) (bz _) (fun b hb=>by have:=(hI.F b hb).2.1;omega) (by rw[bJ,bJ,B6,agq];simp;omega);have Vd:s1.next∉F:=fun h=>by have:=(hI.F _ h).1;omega
   have VC:=(a3.keep _ (by have:=hI.bl;omega) Vd).trans Pm;obtain⟨o1,o2⟩:=a2.bW;have nj:bB [x] 0 [x']=[x']:=rfl;simp only[av,Pm,ao,afX,au,q2,a1,bj,aQ,VC,bg,o2,nj];refine⟨⟨rfl,by simp[o1],by simp⟩,trivial,G',rfl,x',F',taken++v'.take 480,List.replicate (480-(v'.take 480).length) 0, ?_,hq, ?_⟩
   ·have oz:∀b∈F',(b∈F\/s'.next<=b)/\b<Ma.next:=fun b hb=>⟨(a4 b hb).1.imp id fun h=>by omega,(a4 b hb).2⟩;have acg:=a3.next;have UB:=(hI.kp.trans hk (by simp)).trans a3 fun b hb=> .inr (by have:=(hI.F b hb).1;omega);have oy:∀b,st.next<=b->b∉π.all/\b≠τ:=fun b hb=>⟨fun hh=>by have:=h.pg.lt b hh;omega,fun e=>by have:=h.lt;omega⟩;have iA:Kp [s1.next] Ma (St.set Ma s1.next (.cells [x'] 139 false)):=(Kp.refl _ Ma).set _ (.inl (by simp)) (by have:=hI.bl;omega);refine⟨?_,Jh, ?_,by have:=hI.lt;simp;omega,hI.ne,az _ _ _,by have:=hI.bl;simp;omega, ?_,fun b hb=> ?_, ?_, ?_, ?_, ?_⟩
    ·exact(((hI.tg.still hk).AL a3 fun b hb=>oy b (by have:=(hI.F b hb).1;omega)).AL iA fun b hb=>oy b (by simp at hb;omega))
    ·rw[aq _ _ _ _ hI.ne,a3.keep q (by have:=hI.lt;omega) (fun h=>(hI.F q h).2.2 rfl),hk.keep q hI.lt (by simp)];exact hI.box
    ·have e:aj (taken++v'.take 480++List.replicate (480-(v'.take 480).length) 0)=aj (taken++[])++aj (v'.take 480++List.replicate (480-(v'.take 480).length) 0):=by
      rw[<-bq];simp
     rw[e]
     exact a2.mono fun b hb=>aq _ _ _ _ fun e=>by
      rcases(oz b hb).1 with h|h
      ·have:=(hI.F b h).1;omega
      ·have:=hI.bl;omega
    ·refine⟨?_,(oz b hb).2, ?_⟩
     ·rcases(oz b hb).1 with h|h
      ·exact(hI.F b h).1
      ·have:=hI.bl;omega
     ·rcases(oz b hb).1 with h|h
      ·exact(hI.F b h).2.2
      ·have:=hI.lt;omega
    ·rw[agv,List.take_append_drop];exact hI.Sk
    ·intro iJ
     have:480<v'.length:=by
      rcases ahD 480 v'.length with h|h
      ·exact h
      ·exact absurd (agR h) iJ
     rw[agy,agD (by omega)];rfl
    ·rw[agr];omega
    ·exact UB.set _ (.inr (by omega)) (by have:=hI.bl;omega)
   ·have h3:st.next<s.next:=by have:=hI.bl;omega
    rw[aq _ _ _ _ (by omega),a3.keep st.next (by omega) (fun h=>by have:=(hI.F _ h).1;omega),hk.keep st.next h3 (by simp)];exact kQ
  ·intro s3 q k3 Xr Qd hq3;refine⟨rfl, .aa,[],[],[],⟨t2.still k3,hC,hq3,Qd,by omega,(k3.keep _ (by omega) (by simp)).trans g2,by have:=k3.next;omega, .inl ⟨rfl,rfl,rfl⟩,by simp,by simp,fun _=>rfl,by simp,hk2.trans k3 (by simp)⟩,by omega,(k3.keep _ (by omega) (by simp)).trans Jl⟩
  ·rw[hC.len,hsz];unfold rO;rw[agf (by omega)]
  ·omega
  ·rintro _ s3 ⟨rfl,q,G',hq,rfl,x,F,taken,pad,hI,Qd,kQ⟩;have Hr:=hI.Sk;rw[ahc]at Hr;have lO:Sl s3 [] x 1 (aj (taken++pad)):=hI.own.sl fun b hb=>⟨by simp,(hI.F b hb).2.1⟩;have e2:ai .neq (some .int) true (I 0) (.int .i64 0) s3= .ok (.bool false) s3:=rfl;have hlen:=lO.len (taken++pad).length (by simp) (by omega) s3;have e3:ai .lss none false (I (taken++pad).length) (I c.size) s3= .ok (.bool false) s3:=by rw[de,agc (by rw[hsz,Hr,agq];omega)]
   obtain⟨v',p1,p2⟩:=lO.hi (n:=(taken++pad).length) (by omega) (by simp) (h:=c.size) (by rw[hsz,Hr,agq];omega) s3
   have wR:(aj (taken++pad)).take (c.size*1)=aj v:=by
    rw[bq,ahJ,hsz,Hr,aht (by simp)]
   rw[wR]at p2
   have US:∀K:CV->Prop,eu (some true) 3 (.ptr st.next 0) s3 K=K (I c.size):=fun K=>by
    simp only[eu,aM];exact zU 3 (I c.size) rfl s3 kQ K
   simp only[e2,ae,aE,afY,agn,agj,aM,av,hI.Pm,ao,afX,au,hlen,US,e3,aF,ah,zU 3 (I c.size) rfl s3 kQ,p1,p2.str];exact⟨trivial,hI.kp⟩
end
section
variable {τ:Nat} {π:PI} {st st':St} {G:GM}
theorem DJ {n:Nat}(hn:n<=100000)(s:St):jD 5 1 [.int .u8 0] (I n) (I n) s= .ok (.slice s.next 0 n n 0) (St.new s (.cells (aj (List.replicate n 0)) 5 false)):=by
 have e:jD 5 1 [.int .u8 0] (I n) (I n) s=bk (Bool.and (Nat.ble n n) (Bool.and (Nat.ble (Nat.mul 1 n) 281474976710656) (Nat.ble n 9223372036854775807)))
  (.ok (.slice s.next 0 n n 0) ⟨s.mem.put s.next (some (.cells (cM n [.int .u8 0]) 5 false)),s.next+1⟩) .bad:=rfl
 have e1:Nat.mul 1 n=n:=ahW n;rw[e,JA,aO,agl (by simp only[agp,agw,e1];omega)];rfl
theorem DL {b off n cap:Nat}{d:List UInt8}{L:List CV}{t:TypeId}{g:Bool}{s:St}(hb:s.mem.get b=some (.cells L t g))(hn:d.length<=n)(hl:off+d.length<=L.length):
 ∃s',jF true 1 (.slice b off n cap 0) (.str d) s= .ok (I d.length) s'/\s'.next=s.next/\s'.mem.get b=some (.cells (bB L off (aj d)) t g)/\∀q,q≠b->s'.mem.get q=s.mem.get q:=by
 have e:jF true 1 (.slice b off n cap 0) (.str d) s=(match cellsOf true 1 (min d.length n) (.str d) s with
  |some t=>bk (Nat.beq (min d.length n) 0) (ri .i64 s 0)
   (bk (Bool.and (bu t) (Bool.or (Nat.beq 0 0) (Nat.ble 1 cap)))
    (match s.mem.get b with
    |some (.cells l ty g)=>Option.rec (Option.rec .bad (fun s'=>ri .i64 ⟨s.mem.put b (some (.cells s' ty g)),s.next⟩ (min d.length n)) (yq l off t (off+cap*0))) (fun s'=>ri .i64 ⟨s.mem.put b (some (.cells s' ty g)),s.next⟩ (min d.length n)) (dM l off t)
    |_=> .bad) .bad)
  |none=> .bad):=rfl
 have ec:cellsOf true 1 d.length (.str d) s=some (aj d):=by
  have:cellsOf true 1 d.length (.str d) s=if d.length<=d.length then some ((d.take d.length).map bo)else none:=rfl
  rw[this,agl (aga _),List.take_length];rfl
 rw[e,agD hn,ec];dsimp only
 by_cases h0:d.length=0
 ·have:=agu.1 h0;subst this;refine⟨s,rfl,rfl, ?_,fun _ _=>rfl⟩;rw[hb];have:bB L off (aj [])=L:=xN L off;rw[this]
 ·have HI:Nat.beq d.length 0=false:=by cases h:Nat.beq d.length 0 with|false=>rfl|true=>rw[agA]at h;omega
  have e3:dM L off (aj d)=some (bB L off (aj d)):=by unfold dM;rw[agl (by rw[bJ];exact hl)];rfl
  rw[HI,bz,hb];dsimp only;rw[e3];exact⟨St.set s b (.cells (bB L off (aj d)) t g),rfl,rfl,az _ _ _,fun q hq=>aq _ _ _ _ hq⟩
end
