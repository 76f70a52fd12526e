import Derived.Test.YtomffjeofpafnaaGreatDoorPagG
namespace Lim
open Go
noncomputable section
set_option maxRecDepth 100000
section
variable {st st':St}
theorem QG {n:Nat}(hn:n<=100000):R 56 [I n] st fun v st'=>v=I (dK n)/\st'=st:=by
 refine bN ?_;rw[w56];rw[cN];simp only[aJ,aK];refine bK (fun fu vs s=>∃k,fu+k=dK n/\vs=[I n,I k]/\s=st) ?_ (n:=dK n) ⟨0,rfl,rfl,rfl⟩;rintro fu vs s K ⟨k,hk,rfl,rfl⟩ next;simp only[aJ,aK];have e1:aj .gtr none true (I n) (.int .i64 64) s= .ok (.bool (decide (64<n))) s:=by rw[aw,dq];congr 2;simp only[aBc];omega
 have hp:dK n<=300:=by unfold dK;split<;>omega
 have e2:aj .mul none true (I k) (.int .i64 480) s= .ok (I ((k*480:Nat):Int)) s:=by
  have:aj .mul none true (I k) (I ((480:Nat):Int)) s= .ok (I (IntKind.i64.wrap ((k:Int)*((480:Nat):Int)))) s:=rfl;rw[show(CV.int .i64 480)=I ((480:Nat):Int)from rfl,this,bz (by omega)]
  congr 2
 rw[e1,af]
 by_cases Gx:64<n
 ·have hpe:dK n=(n+479)/480:=by unfold dK;rw[aAH (by omega)]
  simp only[aAJ Gx,aH,aAY,bo,af,e2,dv,aG,ag]
  by_cases hlt:k*480<n
  ·rw[aAJ hlt,aAI rfl,gF k (by omega),af];exact next (fu-1) _ _ (by omega) ⟨k+1,by omega,rfl,rfl⟩
  ·rw[aAB hlt,aAH (by decide)];have:k=dK n:=by omega
   exact⟨by rw[this],trivial⟩
 ·have hpe:dK n=0:=by unfold dK;rw[aAI (by omega)]
  have LH:k=0:=by omega
  simp only[aAB Gx,aH,aAY,cB,af,aG,ag,aAz,aAO];exact⟨by rw[LH,hpe],trivial⟩
def bH (L:List bA)(key:cc):Nat:=(L.takeWhile fun x=>decide (eC x.1 key)).length
theorem wu (L:List bA)(key:cc):bH L key<=L.length:=(List.takeWhile_sublist _).length_le
theorem Lc {L:List bA}{key:cc}{i:Nat}(h:i<bH L key):∃hi:i<L.length,eC L[i].1 key:=by
 induction L generalizing i with
 |nil=>simp[bH]at h
 |cons p r ih=>
  unfold bH at h;rw[aDa]at h
  split at h
  ·rename_i hp;cases i with
   |zero=>exact⟨by simp,by simpa using hp⟩
   |succ i=>
    obtain⟨a,b⟩:=ih (i:=i) (by simpa[bH]using h);exact⟨by simp;omega,by simpa using b⟩
  ·simp at h
theorem Le {L:List bA}{key:cc}(h:bH L key<L.length):¬eC L[bH L key].1 key:=by
 induction L with
 |nil=>simp at h
 |cons p r ih=>
  by_cases hp:eC p.1 key
  ·have e:bH (p::r) key=bH r key+1:=by unfold bH;rw[aDa,aAI (by simpa using hp)];simp
   have h2:bH r key<r.length:=by rw[e]at h;simpa using h
   have:=ih h2;intro hh;apply this;have e3:(p::r)[bH (p::r) key]?=r[bH r key]?:=by rw[e];rfl
   have e4:(p::r)[bH (p::r) key]=r[bH r key]:=by
    have a1:=aAC h;have a2:=aAC h2;rw[a1,a2]at e3;exact aCd e3
   rwa [e4]at hh
  ·have e:bH (p::r) key=0:=by unfold bH;rw[aDa,aAH (by simpa using hp)];rfl
   intro hh;have e3:(p::r)[bH (p::r) key]?=some p:=by rw[e];rfl
   rw[aAC h]at e3;rw[aCd e3]at hh;exact hp hh
theorem kP (L:List bA):∀x∈L.map gV,x.length=2:=by
 intro x hx;obtain⟨c,_,rfl⟩:=aBd.1 hx;rfl
theorem QF {X:List Nat}{s:St}{v:CV}{L:List bA}(c:Sl s X v 2 (bZ L)){i:Nat}(hi:i<L.length){K:CV->Prop}(hK:K (.str L[i].1)):ft (some true) 2 0 v (I i) s K:=by
 obtain⟨b,p,l,t,g,q1,q2,q3,q4,q5⟩:=c.cellAt (L:=L.map gV) (by omega) (kP _) (i:=i) (by simpa using hi);have q6:=q5 0 (.str L[i].1) (by simp[gV]);rw[aBl]at q6;simp only[bo,af,ft,ah,aA,aq,aBl,q1,q2,q6,av];exact hK
theorem CZ {X:List Nat}{v:CV}{L:List bA}(h:Sl st X v 2 (bZ L))(hl:L.length<=1000000)(key:cc):R 60 [v, .str key] st fun x st'=>x= .tuple [I (bH L key), .bool (decide (∃p,L[bH L key]?=some p/\p.1=key))]/\st'=st:=by
 refine bN ?_;rw[w60];rw[cN];simp only[aJ,aK];refine bK (fun fu vs s=>∃i,fu+i=bH L key/\vs=[v, .str key,I i]/\s=st) ?_ (n:=bH L key) ⟨0,rfl,rfl,rfl⟩;rintro fu vs s K ⟨i,hi,rfl,rfl⟩ next;have hle:=wu L key;have hlen:=h.len L.length (dA _) (by omega) s;simp only[aJ,aK];rw[hlen,af,dv,af]
 by_cases hc:i<L.length
 ·simp only[aAJ hc,aH,aAY,bo,af];refine QF h hc ?_;simp only[dX,yo,af,aG,aAY,ag]
  by_cases hb:i<bH L key
  ·obtain⟨_,hlt⟩:=Lc hb;rw[aAJ hlt,aAI rfl,gF i (by omega),af];exact next (fu-1) _ _ (by omega) ⟨i+1,by omega,rfl,rfl⟩
  ·have he:i=bH L key:=by omega
   subst he;rw[aAB (Le hc),aAH (by decide),bt,dv,af];simp only[aAJ hc,aH,aAY,bo,af];obtain⟨b,p,l,t,g,q1,q2,q3,q4,q5⟩:=h.cellAt (L:=L.map gV) (by omega) (kP _) (i:=bH L key) (by simpa using hc);have q6:=q5 0 (.str L[bH L key].1) (by simp[gV]);rw[aBl]at q6;simp only[q1,af,ah,aBl,aA,q2,aq,q6,av,dX,qX,aG,aAY];refine⟨⟨trivial,trivial⟩,trivial, ?_,trivial⟩
   have e:decide (L[bH L key].1=key)=decide (∃p,L[bH L key]?=some p/\p.1=key):=by
    simp only[aBc];constructor
    ·intro h1;exact⟨_,aAC hc,h1⟩
    ·rintro⟨p,h1,h2⟩;rw[aAC hc]at h1;cases h1;exact h2
   rw[e]
 ·have he:i=bH L key:=by omega
  subst he;simp only[aAB hc,aH,aAY,cB,af,ft,aG,ag,aAz,aAO,bt,hlen,dv];refine⟨⟨trivial,trivial⟩,trivial, ?_,trivial⟩
  have e:decide (∃p,L[bH L key]?=some p/\p.1=key)=false:=by
   rw[aAB];rintro⟨p,h1,_⟩;rw[aBs (by omega)]at h1;cases h1
  rw[e]
end
theorem ml {L:List bA}(hs:iP L)(key:cc):L.filter (fun x=>decide (eC x.1 key))=L.take (bH L key)/\L.filter (fun x=>decide (eC key x.1))=L.drop (if∃p,L[bH L key]?=some p/\p.1=key then bH L key+1 else bH L key):=by
 induction L with
 |nil=>simp[bH]
 |cons p r ih=>
  have tr:=hs;unfold iP at hs;rw[aDf]at hs;obtain⟨i1,i2⟩:=ih hs.2
  by_cases hp:eC p.1 key
  ·have e:bH (p::r) key=bH r key+1:=by unfold bH;rw[aDa,aAI (by simpa using hp)];simp
   rw[aBV,aAI (by simpa using hp),aBV,aAH (by simpa using kq hp),e,i1,i2];refine⟨by simp, ?_⟩;have:(∃q,(p::r)[bH r key+1]?=some q/\q.1=key)↔∃q,r[bH r key]?=some q/\q.1=key:=by simp
   by_cases h:∃q,r[bH r key]?=some q/\q.1=key
   ·rw[aAI h,aAI (this.2 h)];simp
   ·rw[aAH h,aAH (fun hh=>h (this.1 hh))];simp
  ·have e:bH (p::r) key=0:=by unfold bH;rw[aDa,aAH (by simpa using hp)];rfl
   have Tt:r.filter (fun x=>decide (eC x.1 key))=[]:=om fun x hx=>by
    have h1:=hs.1 x hx;have h2:jY key p.1:=hp
    simpa using kq (h2.qO h1)
   have Be:r.filter (fun x=>decide (eC key x.1))=r:=ug fun x hx=>by
    have h1:=hs.1 x hx;have h2:jY key p.1:=hp
    simpa using h2.qO h1
   rw[aBV,aAH (by simpa using hp),Tt,aBV,Be,e];refine⟨rfl, ?_⟩
   by_cases hk:p.1=key
   ·rw[aAH (by rw[hk];simpa using gq key),aAI ⟨p,rfl,hk⟩];rfl
   ·have h2:jY key p.1:=hp
    have h3:eC key p.1:=by
     rcases pX.1 h2 with h|h
     ·exact h
     ·exact absurd h.symm hk
    rw[aAI (by simpa using h3),aAH (by rintro⟨q,h4,h5⟩;cases h4;exact hk h5)];rfl
section
variable {st st':St}
theorem Z9 {X:List Nat}{v:CV}{L:List bA}(h:Sl st X v 2 (bZ L))(hl:L.length<=100000)(hs:iP L)(key val:List UInt8):R 57 [v, .str key, .str val] st (Made 2 130 (bZ (uN L key val)) st):=by
 refine bN ?_;rw[w57];refine(CZ h (by omega) key).same ?_;rw[aD,af,aN,aD,af];have hb:=wu L key;obtain⟨v4,q1,q2⟩:=h.hi (by omega) (dA L) (h:=bH L key) hb st;rw[q1,af];obtain⟨n4,m1,m2⟩:=q2.src [(.str []),(.str [])];rw[m2]
 have jh:∀l:List bA,aV (bZ l)=true:=fun l=>by
  simp only[aV,aCO,bZ,List.mem_flatten,aBd];rintro x ⟨c,⟨p,_,rfl⟩,hx⟩;simp[gV]at hx;rcases hx with rfl|rfl<;>rfl
 have yO:(bZ L).take (bH L key*2)=bZ (L.take (bH L key)):=by
  unfold bZ;rw[mY (kP L) _ (by simpa using hb),aCk]
 rw[yO]at m1 m2⊢;have Dy:(bH L key:Nat)<=100000:=by omega
 have YX:n4=bH L key:=by rw[dA,aAN]at m1;omega
 subst YX;obtain⟨x5,s2,F5,a1,a2,a3,a4⟩:=(show Own st .ae 2 130 (bZ []) []from .inl ⟨rfl,rfl,rfl⟩).append (n:=bH L key) (bytes:=32) (T:=bZ (L.take (bH L key))) (by omega) m1 (jh _) (by simp) (by rw[dA,dA,aAN];simp;omega);rw[a1,aS];have mC:bD [.str [], .str []] [(0,1, .str key),(1,1, .str val)] s2= .ok (.agg (gV (key,val))) s2:=rfl;rw[mC,af];have K2:Kp [] st s2:=a3.mono (by simp)
 have XD:∀b∈F5,st.next<=b/\b<s2.next:=fun b hb=>by
  obtain⟨p1,p2⟩:=a4 b hb;refine⟨?_,p2⟩;rcases p1 with h1|h1
  ·cases h1
  ·omega
 refine O5 32 a2 (by omega) (fun b hb=>(XD b hb).2) rfl rfl rfl rfl (by simp only[dA,aAG,aAN,aCb];omega) ?_;intro x8 s4 F4 o4 k4 Uc;have K4:Kp [] st s4:=K2.trans k4 fun q hq=> .inr (XD q hq).1;have n2:=K2.next
 have XE:∀b∈F4,st.next<=b/\b<s4.next:=fun b hb=>by
  obtain⟨p1,p2⟩:=Uc b hb;refine⟨?_,p2⟩;rcases p1 with h1|h1
  ·exact(XD b h1).1
  ·omega
 have e4:(bZ []++bZ (L.take (bH L key)))++(CV.agg (gV (key,val))).cD=bZ (L.take (bH L key)++[(key,val)]):=by rw[jQ];rfl
 rw[e4]at o4;obtain⟨Tx,Dt⟩:=ml hs key;have acm:uN L key val=(L.take (bH L key)++[(key,val)])++L.drop (if∃p,L[bH L key]?=some p/\p.1=key then bH L key+1 else bH L key):=by unfold uN;rw[Tx,Dt];simp
 generalize hj:(if∃p,L[bH L key]?=some p/\p.1=key then bH L key+1 else bH L key)=j at*
 have WX:j<=L.length:=by
  rw[<-hj]
  split
  ·rename_i hh;obtain⟨p,h1,_⟩:=hh;obtain⟨h2,_⟩:=aAP.1 h1;omega
  ·exact hb
 refine kX (fun vs s=>vs=[v,I j,x8]/\s=s4) ?_ ?_
 ·intro k9 PH;rw[ag]
  by_cases hf:∃p,L[bH L key]?=some p/\p.1=key
  ·rw[aAI hf]at hj;rw[aAJ hf,aAI rfl,gF _ (by omega),af,hj];exact PH _ _ ⟨rfl,rfl⟩
  ·rw[aAH hf]at hj;rw[aAB hf,aAH (by decide),hj];exact PH _ _ ⟨rfl,rfl⟩
 ·rintro _ _ ⟨rfl,rfl⟩;rename_i s4;simp only[aJ,aK];obtain⟨v11,r1,r2⟩:=((h.dM (Y:=[]) (by simp)).mono K4).lo (by omega) (dA L) (l:=j) WX s4;rw[r1,af];obtain⟨M4,t1,t2⟩:=r2.src [(.str []),(.str [])];rw[t2]
  have NS:(bZ L).drop (j*2)=bZ (L.drop j):=by
   unfold bZ;rw[lK (kP L) _ (by simpa using WX),aBZ]
  rw[NS]at t1⊢;obtain⟨dx,s6,F6,b1,b2,b3,b4⟩:=o4.append (n:=M4) (bytes:=32) (T:=bZ (L.drop j)) (by omega) t1 (jh _) (fun b hb=>(XE b hb).2) (by simp only[dA,aAG,aAN,aAX,aBb,aCb];omega);rw[b1,aS];rw[<-jQ,<-acm]at b2;have n4:=K4.next
  exact⟨F6,K4.trans b3 fun q hq=> .inr (XE q hq).1,b2,fun b hb=>⟨by
   rcases(b4 b hb).1 with h1|h1
   ·exact(XE b h1).1
   ·omega,(b4 b hb).2⟩⟩
end
section
variable {st st':St}
theorem rb (l:List bA):aV (bZ l)=true:=by
 simp only[aV,aCO,bZ,List.mem_flatten,aBd];rintro x ⟨c,⟨p,_,rfl⟩,hx⟩;simp[gV]at hx;rcases hx with rfl|rfl<;>rfl
theorem Hi {L:List bA}{i:Nat}(h:i<=L.length):(bZ L).take (i*2)=bZ (L.take i):=by unfold bZ;rw[mY (kP L) _ (by simpa using h),aCk]
theorem Hj {L:List bA}{i:Nat}(h:i<=L.length):(bZ L).drop (i*2)=bZ (L.drop i):=by unfold bZ;rw[lK (kP L) _ (by simpa using h),aBZ]
theorem wh {L:List bA}(hs:iP L)(key:cc):(kJ L key).isSome=decide (∃p,L[bH L key]?=some p/\p.1=key):=by
 by_cases h:∃p,L[bH L key]?=some p/\p.1=key
 ·rw[aAJ h];obtain⟨p,h1,h2⟩:=h;unfold kJ;cases hf:L.find? (fun x=>decide (x.1=key))with
  |some q=>rfl
  |none=>
   rw[List.find?_eq_none]at hf;exact absurd h2 (by simpa using hf p (aBx h1))
 ·rw[aAB h];unfold kJ;cases hf:L.find? (fun x=>decide (x.1=key))with
  |none=>rfl
  |some q=>
   exfalso;have h1:=List.find?_some hf;have h2:=List.mem_of_find?_eq_some hf;have h1:q.1=key:=by simpa using h1
   obtain⟨p1,p2⟩:=ml hs key;rw[aAH h]at p2;rw[<-aBm (bH L key) L,aAM]at h2;rcases h2 with h2|h2
   ·rw[<-p1,aCs]at h2;have:=h2.2;rw[h1]at this;exact gq key (by simpa using this)
   ·rw[<-p2,aCs]at h2;have:=h2.2;rw[h1]at this;exact gq key (by simpa using this)
theorem KU {L:List bA}(hs:iP L)(key:cc)(h:¬∃p,L[bH L key]?=some p/\p.1=key):pj L key=L:=by
 obtain⟨p1,p2⟩:=ml hs key;rw[aAH h]at p2;unfold pj;rw[p1,p2,aBm]
theorem adY {X:List Nat}{v:CV}{L:List bA}(h:Sl st X v 2 (bZ L))(hl:L.length<=100000)(hs:iP L)(key:List UInt8):R 58 [v, .str key] st fun y st'=>∃x,y= .tuple [x, .bool (kJ L key).isSome]/\Kp [] st st'/\Sl st' X x 2 (bZ (pj L key))\/∃x,y= .tuple [x, .bool (kJ L key).isSome]/\Made 2 130 (bZ (pj L key)) st x st':=by
 refine bN ?_;rw[w58];refine(CZ h (by omega) key).same ?_;rw[aD,af,aN,aD,af,wh hs,dm,af,ag];have hb:=wu L key
 by_cases hf:∃p,L[bH L key]?=some p/\p.1=key
 ·rw[aAJ hf,aAU,aAH (by decide)]
  have hlt:bH L key<L.length:=by
   obtain⟨p,h1,_⟩:=hf;exact(aAP.1 h1).1
  obtain⟨v4,q1,q2⟩:=h.hi (by omega) (dA L) (h:=bH L key) hb st;rw[q1,af];obtain⟨n4,m1,m2⟩:=q2.src [(.str []),(.str [])];rw[m2];rw[Hi hb]at m1 m2⊢;have YX:n4=bH L key:=by rw[dA,aAN]at m1;omega
  subst YX;obtain⟨x5,s2,F5,a1,a2,a3,a4⟩:=(show Own st .ae 2 130 (bZ []) []from .inl ⟨rfl,rfl,rfl⟩).append (n:=bH L key) (bytes:=32) (T:=bZ (L.take (bH L key))) (by omega) m1 (rb _) (by simp) (by rw[dA,dA,aAN];simp;omega);rw[a1,aS,gF _ (by omega),af];have K2:Kp [] st s2:=a3.mono (by simp)
  have XD:∀b∈F5,st.next<=b/\b<s2.next:=fun b hb=>by
   obtain⟨p1,p2⟩:=a4 b hb;refine⟨?_,p2⟩;rcases p1 with h1|h1
   ·cases h1
   ·omega
  obtain⟨v8,r1,r2⟩:=((h.dM (Y:=[]) (by simp)).mono K2).lo (by omega) (dA L) (l:=bH L key+1) (by omega) s2;rw[r1,af];obtain⟨n8,t1,t2⟩:=r2.src [(.str []),(.str [])];rw[t2];rw[Hj (by omega)]at t1⊢;obtain⟨x9,s3,F9,b1,b2,b3,b4⟩:=a2.append (n:=n8) (bytes:=32) (T:=bZ (L.drop (bH L key+1))) (by omega) t1 (rb _) (fun b hb=>(XD b hb).2) (by simp only[dA,aAG,aAN,aAX,aCb];omega);rw[b1,aS];obtain⟨Tx,Dt⟩:=ml hs key;rw[aAI hf]at Dt
  have e:(bZ []++bZ (L.take (bH L key)))++bZ (L.drop (bH L key+1))=bZ (pj L key):=by
   unfold pj;rw[Tx,Dt,jQ];rfl
  rw[e]at b2;have n2:=K2.next;refine⟨x9, .inr ⟨x9,rfl,F9,K2.trans b3 fun q hq=> .inr (XD q hq).1,b2,fun b hb=>⟨?_,(b4 b hb).2⟩⟩⟩;rcases(b4 b hb).1 with h1|h1
  ·exact(XD b h1).1
  ·omega
 ·rw[aAB hf,aAT,aAI rfl];refine⟨v, .inl ⟨rfl,Kp.refl _ _, ?_⟩⟩;rw[KU hs key hf];exact h
end
section
variable {st st':St}
theorem X7 (fr to:cc)(p:bA):sI fr to p=(decide (jY fr p.1)&&(decide (to=[])||decide (eC p.1 to))):=by
 unfold sI jY
 by_cases h:eC p.1 fr<;>simp[h]
theorem IC {X:List Nat}{v:CV}{L:List bA}(h:Sl st X v 2 (bZ L))(hl:L.length<=100000)(fr to:List UInt8):R 61 [v, .str fr, .str to] st (Made 2 130 (bZ (L.filter (sI fr to))) st):=by
 refine bN ?_;rw[w61];rw[cN];simp only[aJ,aK];refine bK (fun fu vs s=>∃i x F,fu+i=L.length/\vs=[v, .str fr, .str to,x,I i]/\Kp [] st s/\Own s x 2 130 (bZ ((L.take i).filter (sI fr to))) F/\∀b∈F,st.next<=b/\b<s.next) ?_ (n:=L.length) ⟨0, .ae,[],rfl,rfl,Kp.refl _ _, .inl ⟨rfl,rfl,rfl⟩,by simp⟩;rintro fu vs s K ⟨i,x,F,hi,rfl,hk,own,hF⟩ next;have hs:=(h.dM (Y:=[]) (by simp)).mono hk;have hlen:=hs.len L.length (dA _) (by omega) s;have lI:=hk.next;simp only[aJ,aK];rw[hlen,af,dv,af,ag]
 by_cases hc:i<L.length
 ·rw[aAJ hc,aAI rfl];obtain⟨b,p,l,t,g,q1,q2,q3,q4,q5⟩:=hs.cellAt (L:=L.map gV) (by omega) (kP _) (i:=i) (by simpa using hc);have q6:=q5 0 (.str L[i].1) (by simp[gV]);rw[aBl]at q6
  have PU:(L.take (i+1)).filter (sI fr to)=if sI fr to L[i]=true then (L.take i).filter (sI fr to)++[L[i]]else (L.take i).filter (sI fr to):=by
   rw[aAR hc,aCl,aBV]
   split<;>simp
  have cond:∀K:CV->Prop,K (.bool (sI fr to L[i]))->Rk 2 0 v (I i) s fun x7=>us (aj .geq none false x7 (.str fr) s) fun x8=>us (aY (ak true x8) s (.ok (.str to) s)) fun x9=>us (aY (ak true x8) s (aj .eql (some .str) true x9 (.str []) s)) fun db=>us (aY (ak true x8) s (.ok db s)) fun cW=>
   us (aY (ak false cW) s (.ok v s)) fun dx=>us (aY (ak false cW) s (.ok (I i) s)) fun cZ=>ft (ak false cW) 2 0 dx cZ s fun ew=>us (aY (ak false cW) s (.ok (.str to) s)) fun ef=>us (aY (ak false cW) s (aj .lss none false ew ef s)) fun dI=>
   us (aY (ak true x8) s (ba cW (.bool true) dI s)) fun eB=>us (ba x8 eB (.bool false) s) K:=by
   intro K hK;rw[X7]at hK;simp only[Rk,q1,af,ah,aBl,aA,q2,aq,q6,av,dX,qW]
   by_cases h1:jY fr L[i].1
   ·simp only[aAJ h1,Bool.true_and]at hK;simp only[aAJ h1,aH,aAY,bo,af,dX,qX]
    by_cases h2:to=[]
    ·simp only[h2,aBA,Bool.true_or]at hK;simp only[h2,aBA,aH,aAz,aAO,aAU,cB,af,ft,aG,aAY];exact hK
    ·simp only[aAB h2,Bool.false_or]at hK;simp only[aAB h2,aH,aAz,aAO,aAT,bo,af,ft,q1,ah,aBl,aA,q2,aq,q6,av,dX,yo,aG,aAY];exact hK
   ·simp only[aAB h1,Bool.false_and]at hK;simp only[aAB h1,aH,aAY,cB,af,ft,nP,aG,aAz,aAO];exact hK
  refine cond _ ?_;rw[ag];cases hb:sI fr to L[i]with
  |true=>
   rw[aAI rfl];rw[hb,aAI rfl]at PU;refine hs.iT (L:=L.map gV) (by omega) (kP _) (i:=i) (by simpa using hc) _ ?_;have e9:(L.map gV)[i]'(by simpa using hc)=gV L[i]:=by simp
   rw[e9];have hfl:=aDk (sI fr to) (L.take i);rw[aAN]at hfl;refine O5 32 own (by omega) (fun b hb=>(hF b hb).2) rfl rfl rfl rfl (by rw[dA];omega) ?_;intro v' s4 F4 o4 k4 Uc;have e4:bZ ((L.take i).filter (sI fr to))++(CV.agg (gV L[i])).cD=bZ ((L.take (i+1)).filter (sI fr to)):=by rw[PU,jQ];rfl
   rw[e4]at o4;rw[gF i (by omega),af];refine next (fu-1) _ _ (by omega) ⟨i+1,v',F4,by omega,rfl,hk.trans k4 (fun q hq=> .inr (hF q hq).1),o4,fun b hb=>⟨?_,(Uc b hb).2⟩⟩;rcases(Uc b hb).1 with h1|h1
   ·exact(hF b h1).1
   ·omega
  |false=>
   rw[aAH (by decide)];rw[hb,aAH (by decide)]at PU;rw[gF i (by omega),af];exact next (fu-1) _ _ (by omega) ⟨i+1,x,F,by omega,rfl,hk,by rw[PU];exact own,hF⟩
 ·rw[aAB hc,aAH (by decide)];rw[aAK (by omega)]at own;exact⟨F,hk,own,hF⟩
theorem JA {X Y:List Nat}{v w:CV}{A B:List bA}(h1:Sl st X v 2 (bZ A))(h2:Sl st Y w 2 (bZ B))(hA:A.length<=100000)(hB:B.length<=100000):R 25 [v,w] st fun x st'=>x= .bool (decide (A=B))/\st'=st:=by
 refine bN ?_;rw[w25];have wb:=h1.len A.length (dA _) (by omega) st;have Dv:=h2.len B.length (dA _) (by omega) st;have e0:aj .neq (some .int) false (I A.length) (I B.length) st= .ok (.bool (decide (A.length≠B.length))) st:=by rw[aw,ff];congr 2;by_cases h:A.length=B.length<;>simp[h];omega
 rw[wb,af,Dv,af,e0,af,ag]
 by_cases gL:A.length≠B.length
 ·rw[aAJ gL,aAI rfl,aAB (fun e=>gL (by rw[e]))];exact⟨rfl,rfl⟩
 rw[aAB gL,aAH (by decide)];have NQ:A.length=B.length:=by omega
 rw[cN];simp only[aJ,aK];refine bK (fun fu vs s=>∃i,fu+i=A.length/\vs=[v,w,I i]/\A.take i=B.take i/\s=st) ?_ (n:=A.length) ⟨0,rfl,rfl,rfl,rfl⟩;rintro fu vs s K ⟨i,hi,rfl,dn,rfl⟩ next;simp only[aJ,aK];rw[wb,af,dv,af,ag]
 by_cases hc:i<A.length
 ·rw[aAJ hc,aAI rfl,bt];have LJ:i<B.length:=by omega
  obtain⟨b,p,l,t,g,q1,q2,q3,q4,q5⟩:=h1.cellAt (L:=A.map gV) (by omega) (kP _) (i:=i) (by simpa using hc);have q6:=q5 0 (.str A[i].1) (by simp[gV]);have q7:=q5 1 (.str A[i].2) (by simp[gV]);rw[aBl]at q6;obtain⟨b2,p2,l2,t2,g2,r1,r2,r3,r4,r5⟩:=h2.cellAt (L:=B.map gV) (by omega) (kP _) (i:=i) (by simpa using LJ);have r6:=r5 0 (.str B[i].1) (by simp[gV]);have r7:=r5 1 (.str B[i].2) (by simp[gV]);rw[aBl]at r6;simp only[q1,af,ah,aBl,aA,q2,aq,q6,av,r1,r2,r6,dX,kQ];have Rx:A[i]≠B[i]->decide (A=B)=false:=fun h=>aAB fun e=>h (by subst e;rfl)
  by_cases hk:A[i].1=B[i].1
  ·simp only[aAJ hk,aAU,aH,aAz,aAO,aAT,bo,af,q1,ah,aA,q2,aq,q7,av,r1,r2,r7,dX,kQ,aG,ag];refine⟨⟨trivial,trivial,trivial,trivial,trivial⟩,trivial, ?_⟩
   by_cases hv:A[i].2=B[i].2
   ·rw[aAJ hv,aAU,aAH (by decide),gF i (by omega),af];refine next (fu-1) _ _ (by omega) ⟨i+1,by omega,rfl, ?_,rfl⟩;rw[aAR hc,aAR LJ,dn,show A[i]=B[i]from Prod.ext hk hv]
   ·rw[aAB hv,aAT,aAI rfl,Rx fun e=>hv (by rw[e])];exact⟨rfl,trivial⟩
  ·simp only[aAB hk,aAT,aH,aAz,aAO,aAU,cB,af,aG,aAY,ag];refine⟨⟨trivial,trivial,trivial,trivial,trivial⟩,trivial, ?_⟩;rw[Rx fun e=>hk (by rw[e])];exact⟨rfl,trivial⟩
 ·rw[aAB hc,aAH (by decide)];rw[aAK (by omega),aAK (by omega)]at dn;rw[aAJ dn];exact⟨rfl,trivial⟩
end
section
variable {st st':St}
theorem Sd {n:Nat}(h1:64<=n)(h2:n<=8000)(hf:cY st):R 10 [I n] st fun v st'=>∃π τ fr,v= .tuple [.ptr π.a 0, .ptr π.p 0, .ptr τ 0]/\Kp [] st st'/\(∀b∈own τ π,st.next<=b)/\gO τ π st' [] [] 0 n fr:=by
 refine bN ?_;rw[w10];refine(VD (by omega) (by omega)).mono ?_;rintro _ s1 ⟨k1,a,F,rfl,hd,hF⟩;rw[aD,af,aN,aD,af];have e2:∀s,aj .neq (some .int) true (I 0) (.int .i64 0) s= .ok (.bool false) s:=fun s=>rfl;rw[e2,af,ag,aAH (by decide)];have hl:(uh (List.replicate n kN)).ay.length=n:=by show(List.replicate n kN).length=n;simp
 have hz:∀i,i<(uh (List.replicate n kN)).ay.length->(uh (List.replicate n kN)).cur i=kN:=fun i hi=>by
  rw[hl]at hi;unfold aT.cur;rw[show(uh (List.replicate n kN)).waits=[]from rfl,yE];show(List.replicate n kN).getD i []=kN;simp[aCN,hi]
 refine(KL hd (k1.fresh hf) ⟨rfl,rfl⟩ rfl (by omega) hz).mono ?_;rintro _ s2 ⟨π,rfl,rfl,hp,hk,k2,fP,Tu,hc,hlen,r,hlr,hr⟩;rw[aD,af,aN,aD,af];rw[e2,af,ag,aAH (by decide)];rw[hl]at hp hk;have K2:Kp [] st s2:=k1.trans k2 fun q hq=> .inr (hF q hq);refine(SK (N:=n) (Lk:=[]) hp (K2.fresh hf) hk (ZL _ (by omega) (by omega)) hc (hlen.trans hl)).mono ?_;rintro _ s3 ⟨τ,rfl,hτ,k3,ht⟩;have n1:=k1.next;have n2:=K2.next;refine⟨π,τ,_,rfl,K2.trans k3 (by simp),fun b hb=> ?_,ht⟩;unfold own at hb;rw[hlr]at hb;rcases aAD.1 hb with h|h
 ·omega
 ·rcases aAM.1 h with h|h
  ·have h:b=r:=by simpa using h
   omega
  ·rcases fP b h with h2|h2
   ·exact hF b h2
   ·omega
end
