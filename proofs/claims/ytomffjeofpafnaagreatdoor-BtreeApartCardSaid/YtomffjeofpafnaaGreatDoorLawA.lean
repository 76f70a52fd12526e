import Derived.Test.YtomffjeofpafnaaGreatDoorPagG
namespace Lim
open Go
noncomputable section
set_option maxRecDepth 100000
section
variable {st st':St}
def lK (L:List bB)(key:bZ):Nat:=(L.takeWhile fun x=>decide (dW x.1 key)).length
theorem RO (L:List bB):∀x∈L.map mC,x.length=2:=by
 intro x hx;obtain⟨c,_,rfl⟩:=aBv.1 hx;rfl
end
theorem Gn {L:List bB}(hs:kP L)(key:bZ):L.filter (fun x=>decide (dW x.1 key))=L.take (lK L key)/\L.filter (fun x=>decide (dW key x.1))=L.drop (if∃p,L[lK L key]?=some p/\p.1=key then lK L key+1 else lK L key):=by
 induction L with
 |nil=>simp[lK]
 |cons p r ih=>
  have tD:=hs;unfold kP at hs;rw[aDi]at hs;obtain⟨i1,i2⟩:=ih hs.2
  by_cases hp:dW p.1 key
  ·have e:lK (p::r) key=lK r key+1:=by unfold lK;rw[List.takeWhile_cons,aBb (by simpa using hp)];simp
   rw[aCe,aBb (by simpa using hp),aCe,aAZ (by simpa using iK hp),e,i1,i2];refine⟨by simp, ?_⟩;have:(∃q,(p::r)[lK r key+1]?=some q/\q.1=key)↔∃q,r[lK r key]?=some q/\q.1=key:=by simp
   by_cases h:∃q,r[lK r key]?=some q/\q.1=key
   ·rw[aBb h,aBb (this.2 h)];simp
   ·rw[aAZ h,aAZ (fun hh=>h (this.1 hh))];simp
  ·have e:lK (p::r) key=0:=by unfold lK;rw[List.takeWhile_cons,aAZ (by simpa using hp)];rfl
   have UA:r.filter (fun x=>decide (dW x.1 key))=[]:=l6 fun x hx=>by
    have h1:=hs.1 x hx;have h2:ju key p.1:=hp
    simpa using iK (h2.nf h1)
   have Aj:r.filter (fun x=>decide (dW key x.1))=r:=nI fun x hx=>by
    have h1:=hs.1 x hx;have h2:ju key p.1:=hp
    simpa using h2.nf h1
   rw[aCe,aAZ (by simpa using hp),UA,aCe,Aj,e];refine⟨rfl, ?_⟩
   by_cases hk:p.1=key
   ·rw[aAZ (by rw[hk];simpa using gS key),aBb ⟨p,rfl,hk⟩];rfl
   ·have h2:ju key p.1:=hp
    have h3:dW key p.1:=by
     rcases oD.1 h2 with h|h
     ·exact h
     ·exact absurd h.symm hk
    rw[aBb (by simpa using h3),aAZ (by rintro⟨q,h4,h5⟩;cases h4;exact hk h5)];rfl
section
variable {st st':St}
end
section
variable {st st':St}
end
section
variable {st st':St}
theorem zO (fr to:bZ)(p:bB):xu fr to p=(decide (ju fr p.1)&&(decide (to=[])||decide (dW p.1 to))):=by
 unfold xu ju
 by_cases h:dW p.1 fr<;>simp[h]
end
section
variable {st st':St}
theorem Tk {n:Nat}(h1:64<=n)(h2:n<=8000)(hf:cT st):R 10 [I n] st fun v st'=>∃π τ fr,v= .tuple [.ptr π.a 0, .ptr π.p 0, .ptr τ 0]/\Kp [] st st'/\(∀b∈own τ π,st.next<=b)/\ln τ π st' [] [] 0 n fr:=by
 refine bO ?_;rw[w10];refine(Oc (by omega) (by omega)).mono ?_;rintro _ s1 ⟨k1,a,F,rfl,hd,hF⟩;rw[aD,af,aJ,aD,af];have e2:∀s,aj .neq (some .int) true (I 0) (.int .i64 0) s= .ok (.bool false) s:=fun s=>rfl;rw[e2,af,ag,aAZ (by decide)];have hl:(nJ (List.replicate n iN)).ay.length=n:=by show(List.replicate n iN).length=n;simp
 have hz:∀i,i<(nJ (List.replicate n iN)).ay.length->(nJ (List.replicate n iN)).cur i=iN:=fun i hi=>by
  rw[hl]at hi;unfold aV.cur;rw[show(nJ (List.replicate n iN)).waits=[]from rfl,ug];show(List.replicate n iN).getD i []=iN;simp[aCO,hi]
 refine(BI hd (k1.fresh hf) ⟨rfl,rfl⟩ rfl (by omega) hz).mono ?_;rintro _ s2 ⟨π,rfl,rfl,hp,hk,k2,fP,Sx,hc,hlen,r,hlr,hr⟩;rw[aD,af,aJ,aD,af];rw[e2,af,ag,aAZ (by decide)];rw[hl]at hp hk;have K2:Kp [] st s2:=k1.trans k2 fun q hq=> .inr (hF q hq);refine(aal (N:=n) (Lk:=[]) hp (K2.fresh hf) hk (TP _ (by omega) (by omega)) hc (hlen.trans hl)).mono ?_;rintro _ s3 ⟨τ,rfl,hτ,k3,ht⟩;have n1:=k1.next;have n2:=K2.next;refine⟨π,τ,_,rfl,K2.trans k3 (by simp),fun b hb=> ?_,ht⟩;unfold own at hb;rw[hlr]at hb;rcases aAX.1 hb with h|h
 ·omega
 ·rcases aBe.1 h with h|h
  ·have h:b=r:=by simpa using h
   omega
  ·rcases fP b h with h2|h2
   ·exact hF b h2
   ·omega
end
