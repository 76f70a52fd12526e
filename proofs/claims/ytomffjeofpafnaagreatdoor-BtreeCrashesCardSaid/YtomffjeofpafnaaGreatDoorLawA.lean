import Derived.Test.YtomffjeofpafnaaGreatDoorPagG
namespace Lim
open Go
noncomputable section
set_option linter.defProp false
set_option maxRecDepth 100000
section
variable {L:List bt}{i:Nat}{X:List Nat}{v:CV}
section
variable {st st':St}
def SK {n:Nat}(hn:n<=100000):R 56 [I n] st λv st'=>v=I (dQ n)/\st'=st:=by
 refine bN ?_;rw[w56];rw[cK];simp only[aH,aI];refine bK (λfu vs s=>∃k,fu+k=dQ n/\vs=[I n,I k]/\s=st) ?_ (n:=dQ n) ⟨0,rfl,rfl,rfl⟩;rintro fu vs s K ⟨k,hk,rfl,rfl⟩ next;simp only[aH,aI];have e1:ai .gtr none true (I n) (.int .i64 64) s=.ok (.bool (decide (64<n))) s:=AS
 have hp:dQ n<=300:=abU
 have e2:ai .mul none true (I k) (.int .i64 480) s=.ok (I ((k*480:Nat):Int)) s:=by
  have:ai .mul none true (I k) (I ((480:Nat):Int)) s=.ok (I (IntKind.i64.wrap ((k:Int)*((480:Nat):Int)))) s:=rfl;rw[show(CV.int .i64 480)=I ((480:Nat):Int)from rfl,this,bB pX]
  congr 2
 rw[e1,af]
 by_cases Cj:64<n
 .have hpe:dQ n=(n+479)/480:=by unfold dQ;rw[aDv pX]
  simp only[aDz Cj,aL,aDQ,bp,af,e2,dq,aJ,ag]
  by_cases hlt:k*480<n
  .rw[aDz hlt,aDy rfl,gT k pX,af];exact next (fu-1) _ _ pX ⟨k+1,pX,rfl,rfl⟩
  .rw[aDr hlt,aDv wI];have:k=dQ n:=by omega
   exact⟨by rw[this],adu⟩
 .have hpe:dQ n=0:=by unfold dQ;rw[aDy pX]
  have M8:k=0:=pX
  simp only[aDr Cj,aL,aDQ,cH,af,aJ,ag,aDp,aDE];exact⟨by rw[M8,hpe],adu⟩
def bH (L:List bt)(key:cn):Nat:=(L.takeWhile λx=>decide (eD x.1 key)).length
def xx (L:List bt)(key:cn):bH L key<=L.length:=(List.takeWhile_sublist _).length_le
def MK {key:cn}(h:i<bH L key):∃hi:i<L.length,eD L[i].1 key:=by
 induction L generalizing i with
 |nil=>simp[bH]at h
 |cons p r ih=>
  unfold bH at h;rw[aFQ]at h
  split at h
  .rename_i hp;cases i with
   |zero=>exact⟨rq,WM⟩
   |succ i=>
    obtain⟨a,b⟩:=ih (i:=i) (by simpa[bH]using h);exact⟨AI,abw⟩
  .simp at h
def ML {key:cn}(h:bH L key<L.length):¬eD L[bH L key].1 key:=by
 induction L with
 |nil=>simp at h
 |cons p r ih=>
  by_cases hp:eD p.1 key
  .have e:bH (p::r) key=bH r key+1:=by unfold bH;rw[aFQ,aDy WM];simp
   have h2:bH r key<r.length:=by rw[e]at h;simpa using h
   have:=ih h2;intro hh;apply this;have e3:(p::r)[bH (p::r) key]?=r[bH r key]?:=by rw[e];rfl
   have e4:(p::r)[bH (p::r) key]=r[bH r key]:=by
    have a1:=aDu h;have a2:=aDu h2;rw[a1,a2]at e3;exact aFr e3
   rwa [e4]at hh
  .have e:bH (p::r) key=0:=by unfold bH;rw[aFQ,aDv WM];rfl
   intro hh;have e3:(p::r)[bH (p::r) key]?=some p:=by rw[e];rfl
   rw[aDu h]at e3;rw[aFr e3]at hh;exact hp hh
def lG (L:List bt):∀x∈L.map hU,x.length=2:=by
 intro x hx;obtain⟨c,_,rfl⟩:=aDR.1 hx;rfl
def SJ {s:St}(c:Sl s X v 2 (bV L))(hi:i<L.length){K:CV->Prop}(hK:K (.str L[i].1)):fA (some true) 2 0 v (I i) s K:=by
 obtain⟨b,p,l,t,g,q1,q2,q3,q4,q5⟩:=c.cellAt (L:=L.map hU) pX (lG _) (i:=i) Wv;have q6:=q5 0 (.str L[i].1) abi;rw[aEb]at q6;simp only[bp,af,fA,ah,aC,ar,aEb,q1,q2,q6,az];exact hK
def D9 (h:Sl st X v 2 (bV L))(hl:L.length<=1000000)(key:cn):R 60 [v,.str key] st λx st'=>x=.tuple [I (bH L key),.bool (decide (∃p,L[bH L key]?=some p/\p.1=key))]/\st'=st:=by
 refine bN ?_;rw[w60];rw[cK];simp only[aH,aI];refine bK (λfu vs s=>∃i,fu+i=bH L key/\vs=[v,.str key,I i]/\s=st) ?_ (n:=bH L key) ⟨0,rfl,rfl,rfl⟩;rintro fu vs s K ⟨i,hi,rfl,rfl⟩ next;have hle:=xx L key;have hlen:=h.len L.length (dF _) pX s;simp only[aH,aI];rw[hlen,af,dq,af]
 by_cases hc:i<L.length
 .simp only[aDz hc,aL,aDQ,bp,af];refine SJ h hc ?_;simp only[dY,zs,af,aJ,aDQ,ag]
  by_cases hb:i<bH L key
  .obtain⟨_,hlt⟩:=MK hb;rw[aDz hlt,aDy rfl,gT i pX,af];exact next (fu-1) _ _ pX ⟨i+1,pX,rfl,rfl⟩
  .have he:i=bH L key:=by omega
   subst he;rw[aDr (ML hc),aDv wI,bA,dq,af];simp only[aDz hc,aL,aDQ,bp,af];obtain⟨b,p,l,t,g,q1,q2,q3,q4,q5⟩:=h.cellAt (L:=L.map hU) pX (lG _) (i:=bH L key) Hw;have q6:=q5 0 (.str L[bH L key].1) abi;rw[aEb]at q6;simp only[q1,af,ah,aEb,aC,q2,ar,q6,az,dY,rJ,aJ,aDQ];refine⟨⟨adu,adu⟩,adu,?_,adu⟩
   have e:decide (L[bH L key].1=key)=decide (∃p,L[bH L key]?=some p/\p.1=key):=by
    simp only[aDU];constructor
    .intro h1;exact⟨_,aDu hc,h1⟩
    .rintro⟨p,h1,h2⟩;rw[aDu hc]at h1;cases h1;exact h2
   rw[e]
 .have he:i=bH L key:=by omega
  subst he;simp only[aDr hc,aL,aDQ,cH,af,fA,aJ,ag,aDp,aDE,bA,dq];refine⟨⟨adu,adu⟩,adu,?_,adu⟩
  have e:decide (∃p,L[bH L key]?=some p/\p.1=key)=false:=by
   rw[aDr];rintro⟨p,h1,_⟩;rw[aEl pX]at h1;cases h1
  rw[e]
end
end
def mJ {L:List bt}(hs:jc L)(key:cn):L.filter (λx=>decide (eD x.1 key))=L.take (bH L key)/\L.filter (λx=>decide (eD key x.1))=L.drop (if∃p,L[bH L key]?=some p/\p.1=key then bH L key+1 else bH L key):=by
 induction L with
 |nil=>simp[bH]
 |cons p r ih=>
  have uh:=hs;unfold jc at hs;rw[aFU]at hs;obtain⟨i1,i2⟩:=ih hs.2
  by_cases hp:eD p.1 key
  .have e:bH (p::r) key=bH r key+1:=by unfold bH;rw[aFQ,aDy WM];simp
   rw[aEK,aDy WM,aEK,aDv (by simpa using kU hp),e,i1,i2];refine⟨rq,?_⟩;have:(∃q,(p::r)[bH r key+1]?=some q/\q.1=key)↔∃q,r[bH r key]?=some q/\q.1=key:=rq
   by_cases h:∃q,r[bH r key]?=some q/\q.1=key
   .rw[aDy h,aDy (this.2 h)];simp
   .rw[aDv h,aDv (λhh=>h (this.1 hh))];simp
  .have e:bH (p::r) key=0:=by unfold bH;rw[aFQ,aDv WM];rfl
   have Vn:r.filter (λx=>decide (eD x.1 key))=[]:=oP λx hx=>by
    have h1:=hs.1 x hx;have h2:kh key p.1:=hp
    simpa using kU (h2.rA h1)
   have Cb:r.filter (λx=>decide (eD key x.1))=r:=uS λx hx=>by
    have h1:=hs.1 x hx;have h2:kh key p.1:=hp
    simpa using h2.rA h1
   rw[aEK,aDv WM,Vn,aEK,Cb,e];refine⟨rfl,?_⟩
   by_cases hk:p.1=key
   .rw[aDv (by rw[hk];simpa using gC key),aDy ⟨p,rfl,hk⟩];rfl
   .have h2:kh key p.1:=hp
    have h3:eD key p.1:=by
     rcases qx.1 h2 with h|h
     .exact h
     .exact absurd h.symm hk
    rw[aDy (by simpa using h3),aDv (by rintro⟨q,h4,h5⟩;cases h4;exact hk h5)];rfl
section
variable {st st':St}
def acr {X:List Nat}{v:CV}{L:List bt}(h:Sl st X v 2 (bV L))(hl:L.length<=100000)(hs:jc L)(key val:List UInt8):R 57 [v,.str key,.str val] st (Made 2 130 (bV (vD L key val)) st):=by
 refine bN ?_;rw[w57];refine(D9 h pX key).same ?_;rw[aD,af,aG,aD,af];have hb:=xx L key;obtain⟨v4,q1,q2⟩:=h.hi pX (dF L) (h:=bH L key) hb st;rw[q1,af];obtain⟨n4,m1,m2⟩:=q2.src [(.str []),(.str [])];rw[m2]
 have iY:∀l:List bt,aU (bV l)=true:=λl=>by
  simp only[aU,aFu,bV,List.mem_flatten,aDR];rintro x ⟨c,⟨p,_,rfl⟩,hx⟩;simp[hU]at hx;rcases hx with rfl|rfl<;>rfl
 have zP:(bV L).take (bH L key*2)=bV (L.take (bH L key)):=by
  unfold bV;rw[nD (lG L) _ aaN,aFc]
 rw[zP]at m1 m2⊢;have Ey:(bH L key:Nat)<=100000:=pX
 have hn4:n4=bH L key:=by rw[dF,aDF]at m1;omega
 subst hn4;obtain⟨x5,s2,F5,a1,a2,a3,a4⟩:=(show Own st .ae 2 130 (bV []) []from .inl ⟨rfl,rfl,rfl⟩).append (n:=bH L key) (bytes:=32) (T:=bV (L.take (bH L key))) pX m1 (iY _) rq (by rw[dF,dF,aDF];simp;omega);rw[a1,aT];have mR:bu [.str [],.str []] [(0,1,.str key),(1,1,.str val)] s2=.ok (.agg (hU (key,val))) s2:=rfl;rw[mR,af];have K2:Kp [] st s2:=a3.mono rq
 have Zr:∀b∈F5,st.nx<=b/\b<s2.nx:=λb hb=>by
  obtain⟨p1,p2⟩:=a4 b hb;refine⟨?_,p2⟩;rcases p1 with h1|h1
  .cases h1
  .omega
 refine QX 32 a2 pX (λb hb=>(Zr b hb).2) rfl rfl rfl rfl (by simp only[dF,aDw,aDF,aEO];omega) ?_;intro x8 s4 F4 o4 k4 Qa;have K4:=K2.trans k4 λq hq=>.inr (Zr q hq).1;have n2:=K2.nx
 have Zs:∀b∈F4,st.nx<=b/\b<s4.nx:=λb hb=>by
  obtain⟨p1,p2⟩:=Qa b hb;refine⟨?_,p2⟩;rcases p1 with h1|h1
  .exact(Zr b h1).1
  .omega
 have e4:(bV []++bV (L.take (bH L key)))++(CV.agg (hU (key,val))).cA=bV (L.take (bH L key)++[(key,val)]):=by rw[j9];rfl
 rw[e4]at o4;obtain⟨Vr,Et⟩:=mJ hs key;have aeC:vD L key val=(L.take (bH L key)++[(key,val)])++L.drop (if∃p,L[bH L key]?=some p/\p.1=key then bH L key+1 else bH L key):=by unfold vD;rw[Vr,Et];simp
 generalize hj:(if∃p,L[bH L key]?=some p/\p.1=key then bH L key+1 else bH L key)=j at*
 have YV:j<=L.length:=by
  rw[<-hj]
  split
  .rename_i hh;obtain⟨p,h1,_⟩:=hh;obtain⟨h2,_⟩:=aDD.1 h1;omega
  .exact hb
 refine iN (λvs s=>vs=[v,I j,x8]/\s=s4) ?_ ?_
 .intro k9 RH;rw[ag]
  by_cases hf:∃p,L[bH L key]?=some p/\p.1=key
  .rw[aDy hf]at hj;rw[aDz hf,aDy rfl,gT _ pX,af,hj];exact RH _ _ ⟨rfl,rfl⟩
  .rw[aDv hf]at hj;rw[aDr hf,aDv wI,hj];exact RH _ _ ⟨rfl,rfl⟩
 .rintro _ _ ⟨rfl,rfl⟩;rename_i s4;simp only[aH,aI];obtain⟨v11,r1,r2⟩:=((h.dz (Y:=[]) rq).mono K4).lo pX (dF L) (l:=j) YV s4;rw[r1,af];obtain⟨MX,t1,t2⟩:=r2.src [(.str []),(.str [])];rw[t2]
  have PM:(bV L).drop (j*2)=bV (L.drop j):=by
   unfold bV;rw[nE (lG L) _ (by simpa using YV),aEN]
  rw[PM]at t1⊢;obtain⟨dv,s6,F6,b1,b2,b3,b4⟩:=o4.append (n:=MX) (bytes:=32) (T:=bV (L.drop j)) pX t1 (iY _) (λb hb=>(Zs b hb).2) (by simp only[dF,aDw,aDF,aDO,aDT,aEO];omega);rw[b1,aT];rw[<-j9,<-aeC]at b2;have n4:=K4.nx
  exact⟨F6,K4.trans b3 λq hq=>.inr (Zs q hq).1,b2,λb hb=>⟨by
   rcases(b4 b hb).1 with h1|h1
   .exact(Zs b h1).1
   .omega,(b4 b hb).2⟩⟩
end
section
variable {L:List bt}{i:Nat}
section
variable {st st':St}
def rO (l:List bt):aU (bV l)=true:=by
 simp only[aU,aFu,bV,List.mem_flatten,aDR];rintro x ⟨c,⟨p,_,rfl⟩,hx⟩;simp[hU]at hx;rcases hx with rfl|rfl<;>rfl
def Ix (h:i<=L.length):(bV L).take (i*2)=bV (L.take i):=by unfold bV;rw[nD (lG L) _ R5,aFc]
def Iy (h:i<=L.length):(bV L).drop (i*2)=bV (L.drop i):=by unfold bV;rw[nE (lG L) _ R5,aEN]
def xl (hs:jc L)(key:cn):(lA L key).isSome=decide (∃p,L[bH L key]?=some p/\p.1=key):=by
 by_cases h:∃p,L[bH L key]?=some p/\p.1=key
 .rw[aDz h];obtain⟨p,h1,h2⟩:=h;unfold lA;cases hf:L.find? (λx=>decide (x.1=key))with
  |some q=>rfl
  |none=>
   rw[List.find?_eq_none]at hf;exact absurd h2 (by simpa using hf p (aEm h1))
 .rw[aDr h];unfold lA;cases hf:L.find? (λx=>decide (x.1=key))with
  |none=>rfl
  |some q=>
   exfalso;have h1:=List.find?_some hf;have h2:=List.mem_of_find?_eq_some hf;have h1:q.1=key:=Wx
   obtain⟨p1,p2⟩:=mJ hs key;rw[aDv h]at p2;rw[<-aEd (bH L key) L,aDB]at h2;rcases h2 with h2|h2
   .rw[<-p1,aFk]at h2;have:=h2.2;rw[h1]at this;exact gC key (by simpa using this)
   .rw[<-p2,aFk]at h2;have:=h2.2;rw[h1]at this;exact gC key (by simpa using this)
def MB (hs:jc L)(key:cn)(h:¬∃p,L[bH L key]?=some p/\p.1=key):pO L key=L:=by
 obtain⟨p1,p2⟩:=mJ hs key;rw[aDv h]at p2;unfold pO;rw[p1,p2,aEd]
def agx {X:List Nat}{v:CV}(h:Sl st X v 2 (bV L))(hl:L.length<=100000)(hs:jc L)(key:List UInt8):R 58 [v,.str key] st λy st'=>∃x,y=.tuple [x,.bool (lA L key).isSome]/\Kp [] st st'/\Sl st' X x 2 (bV (pO L key))\/∃x,y=.tuple [x,.bool (lA L key).isSome]/\Made 2 130 (bV (pO L key)) st x st':=by
 refine bN ?_;rw[w58];refine(D9 h pX key).same ?_;rw[aD,af,aG,aD,af,xl hs,cN,af,ag];have hb:=xx L key
 by_cases hf:∃p,L[bH L key]?=some p/\p.1=key
 .rw[aDz hf,aDJ,aDv wI]
  have hlt:bH L key<L.length:=by
   obtain⟨p,h1,_⟩:=hf;exact(aDD.1 h1).1
  obtain⟨v4,q1,q2⟩:=h.hi pX (dF L) (h:=bH L key) hb st;rw[q1,af];obtain⟨n4,m1,m2⟩:=q2.src [(.str []),(.str [])];rw[m2];rw[Ix hb]at m1 m2⊢;have hn4:n4=bH L key:=by rw[dF,aDF]at m1;omega
  subst hn4;obtain⟨x5,s2,F5,a1,a2,a3,a4⟩:=(show Own st .ae 2 130 (bV []) []from .inl ⟨rfl,rfl,rfl⟩).append (n:=bH L key) (bytes:=32) (T:=bV (L.take (bH L key))) pX m1 (rO _) rq (by rw[dF,dF,aDF];simp;omega);rw[a1,aT,gT _ pX,af];have K2:Kp [] st s2:=a3.mono rq
  have Zr:∀b∈F5,st.nx<=b/\b<s2.nx:=λb hb=>by
   obtain⟨p1,p2⟩:=a4 b hb;refine⟨?_,p2⟩;rcases p1 with h1|h1
   .cases h1
   .omega
  obtain⟨v8,r1,r2⟩:=((h.dz (Y:=[]) rq).mono K2).lo pX (dF L) (l:=bH L key+1) pX s2;rw[r1,af];obtain⟨n8,t1,t2⟩:=r2.src [(.str []),(.str [])];rw[t2];rw[Iy pX]at t1⊢;obtain⟨x9,s3,F9,b1,b2,b3,b4⟩:=a2.append (n:=n8) (bytes:=32) (T:=bV (L.drop (bH L key+1))) pX t1 (rO _) (λb hb=>(Zr b hb).2) (by simp only[dF,aDw,aDF,aDO,aEO];omega);rw[b1,aT];obtain⟨Vr,Et⟩:=mJ hs key;rw[aDy hf]at Et
  have e:(bV []++bV (L.take (bH L key)))++bV (L.drop (bH L key+1))=bV (pO L key):=by
   unfold pO;rw[Vr,Et,j9];rfl
  rw[e]at b2;have n2:=K2.nx;refine⟨x9,.inr ⟨x9,rfl,F9,K2.trans b3 λq hq=>.inr (Zr q hq).1,b2,λb hb=>⟨?_,(b4 b hb).2⟩⟩⟩;rcases(b4 b hb).1 with h1|h1
  .exact(Zr b h1).1
  .omega
 .rw[aDr hf,aDI,aDy rfl];refine⟨v,.inl ⟨rfl,Kp.refl _ _,?_⟩⟩;rw[MB hs key hf];exact h
end
end
section
variable {st st':St}
def QR (fr to:cn)(p:bt):tT fr to p=(decide (kh fr p.1)&&(decide (to=[])||decide (eD p.1 to))):=by
 unfold tT kh
 by_cases h:eD p.1 fr<;>simp[h]
def JN {X:List Nat}{v:CV}{L:List bt}(h:Sl st X v 2 (bV L))(hl:L.length<=100000)(fr to:List UInt8):R 61 [v,.str fr,.str to] st (Made 2 130 (bV (L.filter (tT fr to))) st):=by
 refine bN ?_;rw[w61];rw[cK];simp only[aH,aI];refine bK (λfu vs s=>∃i x F,fu+i=L.length/\vs=[v,.str fr,.str to,x,I i]/\Kp [] st s/\Own s x 2 130 (bV ((L.take i).filter (tT fr to))) F/\∀b∈F,st.nx<=b/\b<s.nx) ?_ (n:=L.length) ⟨0,.ae,[],rfl,rfl,Kp.refl _ _,.inl ⟨rfl,rfl,rfl⟩,rq⟩;rintro fu vs s K ⟨i,x,F,hi,rfl,hk,own,hF⟩ next;have hs:=(h.dz (Y:=[]) rq).mono hk;have hlen:=hs.len L.length (dF _) pX s;have mc:=hk.nx;simp only[aH,aI];rw[hlen,af,dq,af,ag]
 by_cases hc:i<L.length
 .rw[aDz hc,aDy rfl];obtain⟨b,p,l,t,g,q1,q2,q3,q4,q5⟩:=hs.cellAt (L:=L.map hU) pX (lG _) (i:=i) Hw;have q6:=q5 0 (.str L[i].1) abi;rw[aEb]at q6
  have Wa:(L.take (i+1)).filter (tT fr to)=if tT fr to L[i]=true then (L.take i).filter (tT fr to)++[L[i]]else (L.take i).filter (tT fr to):=by
   rw[aDH hc,aFf,aEK]
   split<;>simp
  have cond:∀K:CV->Prop,K (.bool (tT fr to L[i]))->L7 2 0 v (I i) s λx7=>us (ai .geq none false x7 (.str fr) s) λx8=>us (aX (ak true x8) s (.ok (.str to) s)) λx9=>us (aX (ak true x8) s (ai .eql (some .str) true x9 (.str []) s)) λdf=>us (aX (ak true x8) s (.ok df s)) λda=>
   us (aX (ak false da) s (.ok v s)) λdv=>us (aX (ak false da) s (.ok (I i) s)) λdd=>fA (ak false da) 2 0 dv dd s λeu=>us (aX (ak false da) s (.ok (.str to) s)) λef=>us (aX (ak false da) s (ai .lss none false eu ef s)) λdO=>
   us (aX (ak true x8) s (bf da (.bool true) dO s)) λew=>us (bf x8 ew (.bool false) s) K:=by
   intro K hK;rw[QR]at hK;simp only[L7,q1,af,ah,aEb,aC,q2,ar,q6,az,dY,rI]
   by_cases h1:kh fr L[i].1
   .simp only[aDz h1,Bool.true_and]at hK;simp only[aDz h1,aL,aDQ,bp,af,dY,rJ]
    by_cases h2:to=[]
    .simp only[h2,aEq,Bool.true_or]at hK;simp only[h2,aEq,aDp,aDE,aDJ,cH,af,fA,aJ,aDQ];exact hK
    .simp only[aDr h2,Bool.false_or]at hK;simp only[aDr h2,aDp,aDE,aDI,bp,af,fA,q1,ah,aEb,aC,q2,ar,q6,az,dY,zs,aJ,aDQ];exact hK
   .simp only[aDr h1,Bool.false_and]at hK;simp only[aDr h1,aL,aDQ,cH,af,fA,ry,aJ,aDp,aDE];exact hK
  refine cond _ ?_;rw[ag];cases hb:tT fr to L[i]with
  |true=>
   rw[aDy rfl];rw[hb,aDy rfl]at Wa;refine hs.iH (L:=L.map hU) pX (lG _) (i:=i) Hw _ ?_;have e9:(L.map hU)[i]'(by simpa using hc)=hU L[i]:=rq
   rw[e9];have hfl:=aGa (tT fr to) (L.take i);rw[aDF]at hfl;refine QX 32 own pX (λb hb=>(hF b hb).2) rfl rfl rfl rfl (by rw[dF];omega) ?_;intro v' s4 F4 o4 k4 Qa;have e4:bV ((L.take i).filter (tT fr to))++(CV.agg (hU L[i])).cA=bV ((L.take (i+1)).filter (tT fr to)):=by rw[Wa,j9];rfl
   rw[e4]at o4;rw[gT i pX,af];refine next (fu-1) _ _ pX ⟨i+1,v',F4,pX,rfl,hk.trans k4 (λq hq=>.inr (hF q hq).1),o4,λb hb=>⟨?_,(Qa b hb).2⟩⟩;rcases(Qa b hb).1 with h1|h1
   .exact(hF b h1).1
   .omega
  |false=>
   rw[aDv wI];rw[hb,aDv wI]at Wa;rw[gT i pX,af];exact next (fu-1) _ _ pX ⟨i+1,x,F,pX,rfl,hk,by rw[Wa];exact own,hF⟩
 .rw[aDr hc,aDv wI];rw[aDA pX]at own;exact⟨F,hk,own,hF⟩
def yF {X Y:List Nat}{v w:CV}{A B:List bt}(h1:Sl st X v 2 (bV A))(h2:Sl st Y w 2 (bV B))(hA:A.length<=100000)(hB:B.length<=100000):R 25 [v,w] st λx st'=>x=.bool (decide (A=B))/\st'=st:=by
 refine bN ?_;rw[w25];have xh:=h1.len A.length (dF _) pX st;have Ev:=h2.len B.length (dF _) pX st;have e0:ai .neq (some .int) false (I A.length) (I B.length) st=.ok (.bool (decide (A.length≠B.length))) st:=by rw[ay,fq];congr 2;by_cases h:A.length=B.length<;>simp[h];omega
 rw[xh,af,Ev,af,e0,af,ag]
 by_cases gq:A.length≠B.length
 .rw[aDz gq,aDy rfl,aDr (λe=>gq (by rw[e]))];exact⟨rfl,rfl⟩
 rw[aDr gq,aDv wI];have PK:A.length=B.length:=pX
 rw[cK];simp only[aH,aI];refine bK (λfu vs s=>∃i,fu+i=A.length/\vs=[v,w,I i]/\A.take i=B.take i/\s=st) ?_ (n:=A.length) ⟨0,rfl,rfl,rfl,rfl⟩;rintro fu vs s K ⟨i,hi,rfl,dm,rfl⟩ next;simp only[aH,aI];rw[xh,af,dq,af,ag]
 by_cases hc:i<A.length
 .rw[aDz hc,aDy rfl,bA];have Nb:i<B.length:=by omega
  obtain⟨b,p,l,t,g,q1,q2,q3,q4,q5⟩:=h1.cellAt (L:=A.map hU) pX (lG _) (i:=i) Hw;have q6:=q5 0 (.str A[i].1) abi;have q7:=q5 1 (.str A[i].2) abi;rw[aEb]at q6;obtain⟨b2,p2,l2,t2,g2,r1,r2,r3,r4,r5⟩:=h2.cellAt (L:=B.map hU) pX (lG _) (i:=i) (by simpa using Nb);have r6:=r5 0 (.str B[i].1) abi;have r7:=r5 1 (.str B[i].2) abi;rw[aEb]at r6;simp only[q1,af,ah,aEb,aC,q2,ar,q6,az,r1,r2,r6,dY,lH];have Ty:A[i]≠B[i]->decide (A=B)=false:=λh=>aDr λe=>h (by subst e;rfl)
  by_cases hk:A[i].1=B[i].1
  .simp only[aDz hk,aDJ,aL,aDp,aDE,aDI,bp,af,q1,ah,aC,q2,ar,q7,az,r1,r2,r7,dY,lH,aJ,ag];refine⟨⟨adu,adu,adu,adu,adu⟩,adu,?_⟩
   by_cases hv:A[i].2=B[i].2
   .rw[aDz hv,aDJ,aDv wI,gT i pX,af];refine next (fu-1) _ _ pX ⟨i+1,pX,rfl,?_,rfl⟩;rw[aDH hc,aDH Nb,dm,show A[i]=B[i]from Prod.ext hk hv]
   .rw[aDr hv,aDI,aDy rfl,Ty λe=>hv (by rw[e])];exact⟨rfl,adu⟩
  .simp only[aDr hk,aDI,aL,aDp,aDE,aDJ,cH,af,aJ,aDQ,ag];refine⟨⟨adu,adu,adu,adu,adu⟩,adu,?_⟩;rw[Ty λe=>hk (by rw[e])];exact⟨rfl,adu⟩
 .rw[aDr hc,aDv wI];rw[aDA pX,aDA pX]at dm;rw[aDz dm];exact⟨rfl,adu⟩
end
section
variable {st st':St}
def Uj {n:Nat}(h1:64<=n)(h2:n<=8000)(hf:eM st):R 10 [I n] st λv st'=>∃π τ fr,v=.tuple [.ptr π.a 0,.ptr π.p 0,.ptr τ 0]/\Kp [] st st'/\(∀b∈own τ π,st.nx<=b)/\fg τ π st' [] [] 0 n fr/\π.D.set=false:=by
 refine bN ?_;rw[w10];refine(XC pX pX).mono ?_;rintro _ s1 ⟨k1,a,F,rfl,hd,hF⟩;rw[aD,af,aG,aD,af];have e2:∀s,ai .neq (some .int) true (I 0) (.int .i64 0) s=.ok (.bool false) s:=λs=>rfl;rw[e2,af,ag,aDv wI];have hl:(mT (List.replicate n lE)).ao.length=n:=by show(List.replicate n lE).length=n;simp
 have hz:∀i,i<(mT (List.replicate n lE)).ao.length->(mT (List.replicate n lE)).cur i=lE:=λi hi=>by
  rw[hl]at hi;unfold aP.cur;rw[show(mT (List.replicate n lE)).waits=[]from rfl,uH];show(List.replicate n lE).getD i []=lE;simp[aFd,hi]
 refine(Ms hd (k1.fresh hf) ⟨rfl⟩ rfl rfl pX hz).mono ?_;rintro _ s2 ⟨π,rfl,rfl,hp,hk,k2,fk,Vo,hc,hlen,⟨r,hlr,hr⟩,eS⟩;rw[aD,af,aG,aD,af];rw[e2,af,ag,aDv wI];rw[hl]at hp hk;have K2:=k1.trans k2 λq hq=>.inr (hF q hq);refine(NK (N:=n) (Lk:=[]) hp (K2.fresh hf) hk (abM _ pX pX) hc (hlen.trans hl)).mono ?_;rintro _ s3 ⟨τ,rfl,hτ,k3,ht⟩;have n1:=k1.nx;have n2:=K2.nx;refine⟨π,τ,_,rfl,K2.trans k3 rq,λb hb=>?_,ht,eS⟩;unfold own at hb;rw[hlr]at hb;rcases aDs.1 hb with h|h
 .omega
 .rcases aDB.1 h with h|h
  .have h:b=r:=by simpa using h
   omega
  .rcases fk b h with h2|h2
   .exact hF b h2
   .omega
end
