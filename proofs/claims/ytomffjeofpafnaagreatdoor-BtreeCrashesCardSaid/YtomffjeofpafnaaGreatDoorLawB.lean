import Derived.Test.YtomffjeofpafnaaGreatDoorLawA
namespace Lim
open Go
noncomputable section
set_option linter.defProp false
set_option maxRecDepth 100000
section
variable {st st':St}
def aco (a:Int)(m:Nat)(hm:0<m)(M6:m<=100000):∃n:Nat,n<m/\∀(s:St) (K:CV->Prop),K (I n)->us (dy (.toInt .u64) (I a) s) λx7=>us (ai .rem none true x7 (.int .u64 m) s) λx8=>us (dy (.toInt .i64) x8 s) K:=by
 have h1:0<=IntKind.u64.wrap a:=by rw[IntKind.wrap_u64];omega
 have h2:(IntKind.u64.wrap a).tmod m=(IntKind.u64.wrap a)%m:=Int.tmod_eq_emod_of_nonneg h1;have h3:0<=(IntKind.u64.wrap a)%m:=Int.emod_nonneg _ pX;have h4:(IntKind.u64.wrap a)%m<m:=Int.emod_lt_of_pos _ pX;refine⟨((IntKind.u64.wrap a)%m).toNat,pX,λst K hK=>?_⟩;have e1:dy (.toInt .u64) (I a) st=.ok (.int .u64 (IntKind.u64.wrap a)) st:=rfl;rw[e1,af,ay,OG,aDv pX,af];have e2:dy (.toInt .i64) (.int .u64 ((IntKind.u64.wrap a).tmod m)) st=.ok (.int .i64 (IntKind.i64.wrap ((IntKind.u64.wrap a).tmod m))) st:=rfl;rw[e2,af,h2,bB pX];rw[Int.toNat_of_nonneg h3]at hK;exact hK
def R9 {k many:Int}{key val:List UInt8}(hv:val.length<=100000):R 12 [.agg [I k,.str key,.str val,I many]] st λv st'=>Kp [] st st'/\∃s:List UInt8,v=.str s/\s.length<=200000:=by
 refine bN ?_;rw[w12];rw[bW];refine⟨rfl,?_⟩;rw[aV,cK];simp only[aH,aI];obtain⟨m,hm,hK⟩:=aco many 600 pX pX;generalize HB:St.new st (.cells [I k,.str key,.str val,I many] 31 false)=s1;have k1:Kp [] st s1:=by rw[<-HB];exact(Kp.refl [] st).new _
 have g1:s1.m.g st.nx=some (.cells [I k,.str key,.str val,I many] 31 false):=by rw[<-HB];simp
 refine bK (λfu vs s=>∃(i:Nat) (x:List UInt8),fu+i=600/\vs=[.ptr st.nx 0,.str x,I i]/\x.length<=200000/\s=s1) ?_ (n:=600) ⟨0,[],rfl,rfl,rq,rfl⟩;rintro fu vs s K ⟨i,x,hi,rfl,hx,rfl⟩ next;simp only[aH,aI]
 have f3:∀K:CV->Prop,K (I many)->fl 3 (.ptr st.nx 0) s K:=λK h=>by
  simp only[fl,ah,af,aC,g1,ar];exact h
 have f2:∀K:CV->Prop,K (.str val)->fl 2 (.ptr st.nx 0) s K:=λK h=>by
  simp only[fl,ah,af,aC,g1,ar];exact h
 refine f3 _ ?_;refine hK s _ ?_;rw[dq,af];have fin:Kp [] st s/\∃t:List UInt8,CV.str x=.str t/\t.length<=200000:=⟨k1,x,rfl,hx⟩
 by_cases hc:i<m
 .have e9:ai .lss none true (I x.length) (.int .i64 9000) s=.ok (.bool (decide (x.length<9000))) s:=by rw[ay,cY];congr 2;simp only[aDU];omega
  simp only[aDz hc,aL,aDQ,bp,af,fp,e9,aJ,ag]
  by_cases h9:x.length<9000
  .rw[aDz h9,aDy rfl];refine f2 _ ?_;have Qz:ai .add none false (.str x) (.str val) s=.ok (.str (x++val)) s:=by rw[dY];unfold rK;rw[aDy pX]
   rw[Qz,af,gT i pX,af];exact next (fu-1) _ _ pX ⟨i+1,x++val,pX,rfl,aby,rfl⟩
  .rw[aDr h9,aDv wI];exact fin
 .simp only[aDr hc,aL,aDp,aDE,af,aJ,ag];exact fin
end
section
variable {L:List bt}{s:St}{τ:Nat}{π:PI}{Lk:List bt}{T N fr:Nat}{v:CV}
section
variable {st st':St}
def Mp (hs:jc L)(key:cn){p:bt}(h:L[bH L key]?=some p)(hk:p.1=key):lA L key=some p.2:=by
 obtain⟨p1,p2⟩:=mJ hs key;unfold lA;obtain⟨hlt,he⟩:=aDD.1 h
 have hf:L.find? (λx=>decide (x.1=key))=some p:=by
  rw[List.find?_eq_some_iff_append];refine⟨by simpa using hk,L.take (bH L key),L.drop (bH L key+1),?_,?_⟩
  .rw[<-he,List.getElem_cons_drop,aEd]
  .intro a ha;rw[<-p1,aFk]at ha;have h2:=ha.2;simp only[aEJ]at h2;simp only[Bool.not_eq_eq_eq_not,aDJ,decide_eq_false_iff_not];intro e;rw[e]at h2;exact gC key h2
 rw[hf];rfl
def SL {x:CV}{L':List CV}{F:List Nat}{i:Nat}(ho:Own s x 2 41 L' F)(hF:∀b∈F,b<s.nx)(hi:i*2<L'.length){K:St->Prop}(hK:∀s' L'',L''.length=L'.length->Own s' x 2 41 L'' F->Kp F s s'->K s'):
 Tn 2 0 x (I i) s λsM=>upon (aQ 1 sM (.str [63]) s) λ_ s8=>K s8:=by
 rcases ho with⟨_,rfl,_⟩|⟨b,l,t,g,_,rfl,_⟩|⟨b,n,rfl,h2,h3,rfl,h5⟩
 .simp at hi
 .simp at hi
 .unfold Tn;rw[fU pX (.inr (aDt _)),af,ah,af,aF,h5,aS];refine⟨⟨rfl,rfl,pX⟩,?_⟩;have hlt:=hF b rq
  have hlen:(bo L' (0+i*2+0) (CV.cA (.str [63]))).length=L'.length:=by
   unfold bo;simp only[yX,aDw,aDF,aDO,aDT,aEO];omega
  refine hK _ _ hlen (.inr (.inr ⟨b,n,rfl,h2,by rw[hlen];exact h3,rfl,aq _ _ _⟩)) ((Kp.refl [b] s).set _ rq hlt)
def gK.sorted {G:GM}(h:gK G L):jc L:=by
 rcases h.tree with⟨_,rfl⟩|⟨hh,ps,_,hs⟩
 .exact List.Pairwise.nil
 .exact hs.facts.sorted
def Ql (hs:jc L){key:cn}(h:(lA L key).isSome=true):∃hi:bH L key<L.length,(lA L key).getD []=L[bH L key].2:=by
 rw[xl hs]at h;have h:∃p,L[bH L key]?=some p/\p.1=key:=R5
 obtain⟨p,h1,h2⟩:=h;obtain⟨hlt,he⟩:=aDD.1 h1;exact⟨hlt,by rw[Mp hs key h1 h2,he];rfl⟩
def FH {key:cn}(h:(lA L key).isSome=false):(lA L key).getD []=[]:=by
 cases hg:lA L key with
 |none=>rfl
 |some x=>rw[hg]at h;cases h
def xz (st:St)(y:CV)(st':St):Prop:=y=.bool true/\Kp [] st st'
def xC (h:fg τ π s L Lk T N fr)(hv:Sl s [] v 2 (bV L))(hl:L.length<=100000)(key:List UInt8)(Q:CV->St->Prop)(hQ:∀s',Kp [] s s'->Q (.bool true) s'):
 R 14 [(.ptr τ 0),(.str key),(.str [])] s λjg s3=>
 us (av jg 0 s3) λjR=>
 us (av jg 1 s3) λjQ=>
 us (ai .neq (some .int) true jQ (.int .i64 0) s3) λjj=>
 us (aX (ak false jj) s3 (.ok jR s3)) λlY=>
 us (aX (ak false jj) s3 (.ok v s3)) λmK=>
 us (aX (ak false jj) s3 (.ok (.str key) s3)) λow=>
 eR (ak false jj) s3 (λk=>R 61 [mK,ow,(.str [])] s3 k) λlX s4=>
 eR (ak false jj) s4 (λk=>R 25 [lY,lX] s4 k) λoq s5=>
 us (aX (ak false jj) s5 (kF .not oq s5)) λqP=>
 us (bf jj (.bool true) qP s5) λpv=>
 aA pv (
 Q (.bool false) s5) (
 dL (λEI s6=>
 db (λpw s7 k51=>
 us (bj .slice (au 3 pw) s7) λre=>
 us (ai .lss (none) false (au 4 pw) re s7) λqO=>
 aA qO (
 Tn 2 0 (au 3 pw) (au 4 pw) s7 λsM=>
 upon (aQ 1 sM (.str [63]) s7) λ_ s8=>
 us (ai .add (none) true (au 4 pw) (.int .i64 1) s8) λtH=>
 k51 [(au 0 pw),(au 1 pw),(au 2 pw),(au 3 pw),tH] s8) (
 R 14 [(au 0 pw),(.str []),(au 2 pw)] s7 λov s9=>
 us (av ov 0 s9) λtV=>
 us (av ov 1 s9) λmN=>
 us (ai .eql (some .int) true mN (.int .i64 0) s9) λlS=>
 us (aX (ak true lS) s9 (.ok tV s9)) λtG=>
 us (aX (ak true lS) s9 (.ok (au 1 pw) s9)) λoz=>
 us (aX (ak true lS) s9 (.ok (au 2 pw) s9)) λvf=>
 eR (ak true lS) s9 (λk=>R 61 [oz,(.str []),vf] s9 k) λlW dp=>
 eR (ak true lS) dp (λk=>R 25 [tG,lW] dp k) λwE c9=>
 us (bf lS wE (.bool false) c9) λwD=>
 Q wD c9)) [(au 0 EI),(au 1 EI),(au 2 EI),(au 3 EI),(au 4 EI)] s6) λk49=>
 k49 [(.ptr τ 0),v,(.str key),jR,(.int .i64 0)] s5):=by
 have h0:=h;obtain⟨⟨G,Gk,ht,hL,_⟩,_⟩:=h;have e17:∀s,ai .neq (some .int) true (I 0) (.int .i64 0) s=.ok (.bool false) s:=λs=>rfl;have RR:∀s,ai .eql (some .int) true (I 0) (.int .i64 0) s=.ok (.bool true) s:=λs=>rfl;refine(zi ht hL key []).mono ?_;rintro _ s3 ⟨jR,rfl,F3,k3,o3,yn⟩;rw[aD,af,aG,aD,af,e17,af,aL];simp only[aDp,aDE,aDI,bp,af,eE];refine(JN (hv.mono k3) hl key []).mono ?_;rintro lX s4 ⟨F4,k4,o4,Qa⟩;have n3:=k3.nx;have n4:=k4.nx;have o3':=o3.mono λb hb=>k4.keep b (yn b hb).2 rq;have fY:(L.filter (tT key [])).length<=100000:=aEB (aGa _ _) hl;refine(yF (X:=[]) (Y:=[]) (o3'.sl λb hb=>⟨rq,by have:=(yn b hb).2;omega⟩) (o4.sl λb hb=>⟨rq,(Qa b hb).2⟩) fY fY).same ?_;rw[aDz rfl,cN,af,aJ,aDv wI,af,ag,aDJ,aDv wI,cK];simp only[aH,aI];have K4:=k3.trans k4 rq;refine bK (λfu vs s7=>∃(i:Nat) (L':List CV),fu+i=(L.filter (tT key [])).length/\vs=[.ptr τ 0,v,.str key,jR,I i]/\Kp [] s s7/\Own s7 jR 2 41 L' F3/\L'.length=(L.filter (tT key [])).length*2/\(∀b∈F3,s.nx<=b/\b<s7.nx)) ?_ (n:=(L.filter (tT key [])).length) ⟨0,_,rfl,rfl,K4,o3',by rw[dF],λb hb=>⟨(yn b hb).1,by have:=(yn b hb).2;omega⟩⟩;rintro fu vs s7 K ⟨i,L',hi,rfl,hk,own,hlen,hF⟩ next;have OM:Sl s7 [] jR 2 L':=own.sl λb hb=>⟨rq,(hF b hb).2⟩;simp only[aH,aI];rw[OM.len _ hlen pX s7,af,dq,af,ag]
 by_cases hc:i<(L.filter (tT key [])).length
 .rw[aDz hc,aDy rfl];refine SL own (λb hb=>(hF b hb).2) pX ?_;intro s8 L8 hl8 o8 k8;rw[gT i pX,af];have n8:=k8.nx;exact next (fu-1) _ _ pX ⟨i+1,L8,pX,rfl,hk.trans k8 (λq hq=>.inr (hF q hq).1),o8,pX,λb hb=>⟨(hF b hb).1,aaM⟩⟩
 .rw[aDr hc,aDv wI];refine(zi (ht.still hk) hL [] key).mono ?_;rintro _ s9 ⟨tV,rfl,F9,k9,o9,hF9⟩;rw[aD,af,aG,aD,af,RR,af,aL];simp only[aDQ,bp,af,eE];have K9:=hk.trans k9 rq;refine(JN (hv.mono K9) hl [] key).mono ?_;rintro lW dp ⟨F10,rn,o10,apl⟩;have LR:=rn.nx;have o9':=o9.mono λb hb=>rn.keep b (hF9 b hb).2 rq;have fY:(L.filter (tT [] key)).length<=100000:=aEB (aGa _ _) hl;refine(yF (X:=[]) (Y:=[]) (o9'.sl λb hb=>⟨rq,by have:=(hF9 b hb).2;omega⟩) (o10.sl λb hb=>⟨rq,(apl b hb).2⟩) fY fY).same ?_;rw[aDz rfl,aJ,aDy rfl,af];exact hQ _ (K9.trans rn rq)
def NU (h:fg τ π st L Lk T N fr){X:List Nat}(hv:Sl st X v 2 (bV L))(hl:L.length<=100000)(key:List UInt8):R 16 [.ptr τ 0,v,.str key] st (xz st):=by
 have h0:=h;obtain⟨⟨G,Gk,ht,hL,_⟩,_⟩:=h;have hs:=hL.sorted;have hv0:=hv.dz (Y:=[]) rq;refine bN ?_;rw[w16];refine(ZA ht hL key).mono ?_;rintro x1 s1 ⟨k1,M4⟩;have t1:=ht.still k1;have v1:=hv0.mono k1;have ZP:ai .gtr none true (I key.length) (.int .i64 48) s1=.ok (.bool (decide (48<key.length))) s1:=AS
 by_cases yC:48<key.length
 .rw[aDy yC]at M4;subst M4;simp only[aD,aG,af];refine(D9 v1 pX key).same ?_;simp only[aD,aG,af,fp,ZP,aDz yC,ag,aDQ];exact⟨rfl,k1⟩
 .rw[aDv yC]at M4;subst M4;simp only[aD,aG,af];refine(D9 v1 pX key).same ?_;simp only[aD,aG,af,fp,ZP,aDr yC,ag,aDp,aDE];have e17:∀s,ai .neq (some .int) true (I 0) (.int .i64 0) s=.ok (.bool false) s:=λs=>rfl;have e18:∀s,ai .neq (some .bool) false (.bool true) (.bool true) s=.ok (.bool false) s:=λs=>rfl;have e19:∀s,ai .neq (some .bool) false (.bool false) (.bool false) s=.ok (.bool false) s:=λs=>rfl;have RR:∀s,ai .eql (some .int) true (I 0) (.int .i64 0) s=.ok (.bool true) s:=λs=>rfl;rw[<-xl hs key];cases hb:(lA L key).isSome with
  |true=>
   obtain⟨hi,hg⟩:=Ql hs hb;rw[hg];obtain⟨b,p,l,t,g,q1,q2,q3,q4,q5⟩:=v1.cellAt (L:=L.map hU) pX (lG _) (i:=bH L key) Wv;have q6:=q5 1 (.str L[bH L key].2) abi;simp only[e17,e18,af,aL,aDI,aDJ,bp,cH,aDp,aDE,aDQ,aJ,fA,q1,ah,aC,q2,ar,q6,az,dY,lH,aEq,cN,ag];exact xC (h0.still k1) v1 hl key (xz st) λs' hk=>⟨rfl,k1.trans hk rq⟩
  |false=>
   rw[FH hb];simp only[e17,e19,af,aL,aDI,aDJ,bp,cH,aDp,aDE,aDQ,aJ,fA,dY,lH,aEq,cN,ag];exact xC (h0.still k1) v1 hl key (xz st) λs' hk=>⟨rfl,k1.trans hk rq⟩
end
end
section
variable {X:List Nat}{v:CV}{l:List CV}{m:Nat}{π':PI}{τ':Nat}{x:CV}{L':List bt}{K:St->Prop}
def fe (st:St)(m:Nat)(X:List Nat)(L Lk:List bt):Prop:=∃v1 v2,st.m.g m=some (.cells [v1,v2] 47 false)/\ck v1=true/\v1.cA=[v1]/\ck v2=true/\v2.cA=[v2]/\m<st.nx/\m∉X/\Sl st (m::X) v1 2 (bV L)/\Sl st (m::X) v2 2 (bV Lk)
def Jx (m a N n T:Nat)(X:List Nat)(jO:St)(τ:Nat)(st:St)(q:Bool):Prop:=∃π L Lk T' fr,π.a=a/\π.D.set=q/\fg τ π st L Lk T' N fr/\fe st m (own τ π) L Lk/\L.length<=n/\Lk.length<=n/\T'<=T/\Kp X jO st/\∀b∈own τ π,b∈X\/jO.nx<=b
def Rk (m a:Nat)(X:List Nat)(S:aP->Prop)(jO st:St):Prop:=Kp X jO st/\(∃v1 v2,st.m.g m=some (.cells [v1,v2] 47 false))/\∃F D,cG st a F D/\(∀b∈F,(b∈X\/jO.nx<=b)/\b≠m)/\D.dead=true/\S D
def ld.more {L:List bt}{N T T':Nat}{D:aP}(h:ld L N T D)(hT:T<=T'):ld L N T' D:=by
 obtain⟨G,h1,h2,h3,a,b,c,d,e,f,h4,h5⟩:=h;exact⟨G,h1,h2,h3,a,b,c,d,e,f,h4,pX⟩
section
variable {τ:Nat} {π:PI} {st st':St} {L Lk:List bt} {T N fr:Nat}
def fg.rM (h:fg τ π st L Lk T N fr):∀b∈own τ π,b<st.nx:=by
 obtain⟨⟨G,Gk,ht,hL,hk,tQ,qz,iw⟩,hc,hl⟩:=h;intro b hb;obtain⟨r,h1,h2,h3⟩:=hk.log;unfold own at hb;rw[h1]at hb;rcases aDs.1 hb with h|h
 .rw[h];exact ht.lt
 .rcases aDB.1 h with h|h
  .have h:b=r:=by simpa using h
   omega
  .exact ht.pg.lt b h
def NN (h:fg τ π st L Lk T N fr):R 17 [.ptr τ 0] st λv st'=>v=I fr/\st'=st:=by
 obtain⟨⟨G,Gk,ht,hL,hk,tQ,qz,rfl⟩,hc,hl⟩:=h;exact NM ht
def Sl.one {k:Nat}(h:Sl st X v k l):ck v=true/\v.cA=[v]:=by
 rcases h with⟨rfl,_⟩|⟨b,o,l,c,g,rfl,_⟩<;>exact⟨rfl,rfl⟩
def fe.kp (h:fe st m X L Lk)(hk:Kp [] st st'):fe st' m X L Lk:=by
 obtain⟨v1,v2,h1,h2,h3,h4,h5,h6,h7,h8,h9⟩:=h;exact⟨v1,v2,(hk.keep m h6 rq).trans h1,h2,h3,h4,h5,aDM h6 hk.nx,h7,h8.mono (hk.mono rq),h9.mono (hk.mono rq)⟩
def Sl.uR (h:Sl st (m::own τ π) v 2 l)(hk:Kp (own τ π) st st')(hn:∀b∈own τ' π',b∈own τ π\/st.nx<=b):Sl st' (m::own τ' π') v 2 l:=by
 have h1:Sl st (m::(own τ π++own τ' π')) v 2 l:=h.dz λq hq=>by
  rcases aDs.1 hq with h1|h1
  .exact .inl abV
  .rcases aDB.1 h1 with h2|h2
   .exact .inl (aDS _ h2)
   .exact(hn q h2).imp (λh=>aDS _ h) id
 have h2:=h1.mono (st':=st') (hk.mono λq hq=>.inl WD)
 exact h2.dz λq hq=>by
  rcases aDs.1 hq with h3|h3
  .exact .inl (by simp[h3])
  .exact .inl (by simp[h3])
def fe.uR (h:fe st m (own τ π) L Lk)(hk:Kp (own τ π) st st')(hn:∀b∈own τ' π',b∈own τ π\/st.nx<=b):fe st' m (own τ' π') L Lk:=by
 obtain⟨v1,v2,h1,h2,h3,h4,h5,h6,h7,h8,h9⟩:=h;refine⟨v1,v2,(hk.keep m h6 h7).trans h1,h2,h3,h4,h5,aDM h6 hk.nx,λhh=>?_,h8.uR hk hn,h9.uR hk hn⟩;rcases hn m hh with h|h
 .exact h7 h
 .omega
def fe.Of (h:fe st m X L Lk)(hx:Sl st (m::X) x 2 (bV L'))(hK:∀s,Kp [m] st s->fe s m X L' Lk->K s):lD 1 0 (.ptr m 0) x st K:=by
 obtain⟨v1,v2,h1,h2,h3,h4,h5,h6,h7,h8,h9⟩:=h;obtain⟨o1,o2⟩:=hx.one;unfold lD;rw[br,af,ah,af,aF,h1,aS,o2];refine⟨⟨rfl,aap,rq⟩,?_⟩;have k:Kp [m] st (St.set st m (.cells (bo [v1,v2] (0+0) [x]) 47 false)):=(Kp.refl [m] st).set _ rq h6;refine hK _ k ⟨x,v2,by rw[aq];rfl,o1,o2,h4,h5,h6,h7,hx.mono (k.mono rq),h9.mono (k.mono rq)⟩
def fe.akJ (h:fe st m X L Lk)(hx:Sl st (m::X) x 2 (bV L'))(hK:∀s,Kp [m] st s->fe s m X L L'->K s):lD 1 1 (.ptr m 0) x st K:=by
 obtain⟨v1,v2,h1,h2,h3,h4,h5,h6,h7,h8,h9⟩:=h;obtain⟨o1,o2⟩:=hx.one;unfold lD;rw[br,af,ah,af,aF,h1,aS,o2];refine⟨⟨rfl,aap,rq⟩,?_⟩;have k:Kp [m] st (St.set st m (.cells (bo [v1,v2] (0+1) [x]) 47 false)):=(Kp.refl [m] st).set _ rq h6;refine hK _ k ⟨v1,x,by rw[aq];rfl,h2,h3,o1,o2,h6,h7,h8.mono (k.mono rq),hx.mono (k.mono rq)⟩
def fe.get (h:fe st m X L Lk):∃v1 v2,Sl st (m::X) v1 2 (bV L)/\Sl st (m::X) v2 2 (bV Lk)/\(∀K:CV->Prop,K v1->eW 0 (.ptr m 0) st K)/\∀K:CV->Prop,K v2->eW 1 (.ptr m 0) st K:=by
 obtain⟨v1,v2,h1,h2,h3,h4,h5,h6,h7,h8,h9⟩:=h;refine⟨v1,v2,h8,h9,λK hK=>?_,λK hK=>?_⟩
 all_goals
  unfold eW;rw[br,af,ah,af,aC,h1,ar];exact hK
def fg.off (h:fg τ π st L Lk T N fr)(hk:Kp X st st')(hx:∀b∈own τ π,b∉X):fg τ π st' L Lk T N fr:=by
 have hlt:=h.rM;have M8:=λb hb=>hk.keep b (hlt b hb) (hx b hb);obtain⟨⟨G,Gk,ht,hL,vY,tQ,qz,iw⟩,hc,hl⟩:=h;obtain⟨ty,g,hg⟩:=ht.get;obtain⟨r,h1,h2,h3⟩:=vY.log;refine⟨⟨G,Gk,⟨ht.pg.keep hk λb hb=>hx b (iF hb),aDM ht.lt hk.nx,ht.not,⟨ty,g,(hk.keep τ ht.lt (hx τ (by simp[own]))).trans hg⟩,hk.fresh ht.fr⟩,hL,vY.keep hk λr' e=>hx r' (by unfold own;rw[e];simp),tQ,qz,iw⟩,hc,hl⟩
end
end
def Cl {α:Type}(L:List α)(p q:α->Bool)(h:∀x,p x=true->q x=true->False):(L.filter p).length+(L.filter q).length<=L.length:=by
 induction L with
 |nil=>simp
 |cons x r ih=>
  rw[aEK,aEK];cases hp:p x<;>cases hq:q x
  .simp;omega
  .simp;omega
  .simp;omega
  .exact(h x hp hq).elim
def OB (L:List bt)(key:cn)(v:List UInt8):(vD L key v).length<=L.length+1:=by
 have:=Cl L (λx=>decide (eD x.1 key)) (λx=>decide (eD key x.1)) λx h1 h2=>kU Wx WJ;have e:vD L key v=L.filter (λx=>decide (eD x.1 key))++(key,v)::L.filter (λx=>decide (eD key x.1)):=rfl;rw[e,aDw,aDT];exact Nat.succ_le_succ this
def QG (L:List bt)(key:cn):(pO L key).length<=L.length:=by
 have:=Cl L (λx=>decide (eD x.1 key)) (λx=>decide (eD key x.1)) λx h1 h2=>kU Wx WJ;have e:pO L key=L.filter (λx=>decide (eD x.1 key))++L.filter (λx=>decide (eD key x.1)):=rfl;rw[e,aDw];exact this
section
variable {τ:Nat} {π:PI} {st st':St} {L Lk:List bt} {T N fr:Nat}
def fe.dz {m:Nat}{X Y:List Nat}(h:fe st m X L Lk)(hy:∀q∈Y,q∈X\/st.nx<=q):fe st m Y L Lk:=by
 obtain⟨v1,v2,h1,h2,h3,h4,h5,h6,h7,h8,h9⟩:=h
 have hy':∀q∈m::Y,q∈m::X\/st.nx<=q:=λq hq=>by
  rcases aDs.1 hq with h|h
  .exact .inl WE
  .exact(hy q h).imp (λh=>aDS _ h) id
 refine⟨v1,v2,h1,h2,h3,h4,h5,h6,λhh=>?_,h8.dz hy',h9.dz hy'⟩;rcases hy m hh with h|h
 .exact h7 h
 .omega
def fe.mono {m:Nat}{X F:List Nat}(h:fe st m X L Lk)(hk:Kp F st st')(hF:∀q∈F,q∈X):fe st' m X L Lk:=by
 obtain⟨v1,v2,h1,h2,h3,h4,h5,h6,h7,h8,h9⟩:=h;have k:Kp (m::X) st st':=hk.mono λq hq=>.inl (aDS _ (hF q hq));exact⟨v1,v2,(hk.keep m h6 λhh=>h7 (hF m hh)).trans h1,h2,h3,h4,h5,aDM h6 hk.nx,h7,h8.mono k,h9.mono k⟩
def fe.not {m:Nat}{X:List Nat}(h:fe st m X L Lk):m∉X/\m<st.nx:=by obtain⟨v1,v2,_,_,_,_,_,h6,h7,_⟩:=h;exact⟨h7,h6⟩
def Made.dz {x:CV}{ty:Nat}{l:List CV}{s s':St}(h:Made 2 ty l s x s'){X:List Nat}(hX:∀q∈X,q<s.nx):Kp [] s s'/\Sl s' X x 2 l:=by
 obtain⟨F,h1,h2,h3⟩:=h;exact⟨h1,h2.sl λb hb=>⟨λhh=>by have:=hX b hh;have:=(h3 b hb).1;omega,(h3 b hb).2⟩⟩
def JH (h:fg τ π st L Lk T N fr):jc L:=by
 obtain⟨⟨G,Gk,ht,hL,_⟩,_⟩:=h;exact hL.sorted
set_option maxHeartbeats 2000000 in
def agv {m n:Nat}{kd many:Int}{key val:List UInt8}(h:fg τ π st L Lk T N fr)(hm:fe st m (own τ π) L Lk)(hL:L.length<=n)(tQ:Lk.length<=n)(hn:n<=1000)(hT:T<=900000000)(hN:N<=8000)(hv:val.length<=100000):
 R 15 [.ptr π.a 0,.ptr τ 0,.ptr m 0,.agg [I kd,.str key,.str val,I many]] st λy st'=>(∃τ',y=.tuple [.ptr τ' 0,.bool true,.bool false]/\Jx m π.a N (n+1) (T+10000) (m::own τ π) st τ' st' π.D.set)\/(y=.tuple [.ptr τ 0,.bool false,.bool true]/\π.D.set=true/\Rk m π.a (m::own τ π) (λD=>ld Lk N (T+10000) D\/(kd=4/\ld L N (T+10000) D)) st st'):=by
 refine bN ?_;rw[w15,bW];refine⟨rfl,?_⟩;rw[aV];generalize HB:St.new st (.cells [I kd,.str key,.str val,I many] 31 false)=s1;have k1:Kp [] st s1:=by rw[<-HB];exact(Kp.refl [] st).new _
 have g1:s1.m.g st.nx=some (.cells [I kd,.str key,.str val,I many] 31 false):=by rw[<-HB];simp
 have n1:s1.nx=st.nx+1:=by rw[<-HB];rfl
 have t1:=h.still k1;have m1:=hm.kp k1;have hbx:st.nx∉own τ π:=λhh=>by have:=h.rM _ hh;omega
 have box:∀s,Kp (own τ π) s1 s->s.m.g st.nx=some (.cells [I kd,.str key,.str val,I many] 31 false):=λs hk=>(hk.keep _ pX hbx).trans g1
 have f:∀(o:Nat) (x:CV) (s:St),Kp (own τ π) s1 s->[I kd,.str key,.str val,I many][o]?=some x->∀K:CV->Prop,K x->fl o (.ptr st.nx 0) s K:=λo x s hk hx K hK=>by
  unfold fl;rw[ah,af,aC,box s hk,ar,aDx,hx,az];exact hK
 have kx:∀{s:St},Kp (own τ π) s1 s->Kp (m::own τ π) st s:=λhk=>(k1.mono rq).trans hk λq hq=>.inl (aDS _ hq);have same:∀b∈own τ π,b∈m::own τ π\/st.nx<=b:=λb hb=>.inl (aDS _ hb);have km:∀{s s':St},Kp (m::own τ π) st s->Kp [m] s s'->Kp (m::own τ π) st s':=λh k=>h.trans k λq hq=>.inl ado
 have news:∀{π':PI} {s:St},Kp [] s1 s->(∀b∈own τ π',b∈own τ π\/s.nx<=b)->∀b∈own τ π',b∈m::own τ π\/st.nx<=b:=λhk hn b hb=>by
  rcases hn b hb with h|h
  .exact .inl (aDS _ h)
  .have:=hk.nx;right;omega
 have ek:∀(c:Int) (s:St),ai .eql (some .int) true (I kd) (.int .i64 c) s=.ok (.bool (decide (kd=c))) s:=λc s=>by rw[ay,cz]
 have ZP:∀s,ai .gtr none true (I key.length) (.int .i64 48) s=.ok (.bool (decide (48<key.length))) s:=λs=>AS
 have e00:∀s,ai .eql (some .int) true (I 0) (.int .i64 0) s=.ok (.bool true) s:=λs=>rfl;refine iN (λvs s=>(∃τ' e,vs=[.ptr π.a 0,.ptr τ' 0,I e,I e]/\e≠20/\Jx m π.a N (n+1) (T+10000) (m::own τ π) st τ' s π.D.set)\/(vs=[.ptr π.a 0,.ptr τ 0,I 20,.int .i64 0]/\π.D.set=true/\Rk m π.a (m::own τ π) (λD=>ld Lk N (T+10000) D\/(kd=4/\ld L N (T+10000) D)) st s)) ?_ ?_
 .intro k2 kW;refine f 0 _ s1 (Kp.refl _ _) rfl _ ?_;rw[ek,af,ag]
  by_cases h0:kd=0
  .rw[aDz h0,aDy rfl,nJ,g1,ar,rR];refine⟨rq,?_⟩;rw[aDX,aDA rq];refine(R9 hv).mono ?_;rintro _ s4 ⟨k4,s,rfl,hs⟩;have t4:=t1.still k4;have m4:=m1.kp k4;refine(NN t4).same ?_;refine f 1 _ s4 (k4.mono rq) rfl _ ?_;refine(abN t4 key s).mono ?_;rintro y s6 hy;unfold Z6 at hy;obtain⟨⟨kf,Pq⟩,hy,fr',t6⟩:=hy;have m6:=m4.uR kf Pq;have kf1:=(k4.mono rq).trans kf adt;refine f 1 _ s6 kf1 rfl _ ?_;rw[fp,af,ZP,af]
   by_cases yC:48<key.length
   .rw[aDy (.inl yC)]at hy t6;subst hy;simp only[aDz yC,aL,aDJ,aDp,aDE,cH,af,aJ,aDQ,ag];exact kW _ _ (.inl ⟨τ,1,rfl,wI,π,_,_,_,_,rfl,rfl,t6,m6,pX,pX,pX,kx kf1,same⟩)
   have e8:∀s',ai .gtr none true (I s.length) (.int .i64 8192) s'=.ok (.bool (decide (8192<s.length))) s':=λs'=>AS
   simp only[aDr yC,aL,aDI,bp,af,fp,e8,aJ,aDE,aDp];rw[ag]
   by_cases h8:8192<s.length
   .rw[aDy (.inr h8)]at hy t6;subst hy;rw[aDz h8,aDy rfl];exact kW _ _ (.inl ⟨τ,1,rfl,wI,π,_,_,_,_,rfl,rfl,t6,m6,pX,pX,pX,kx kf1,same⟩)
   rw[aDr h8,aDv wI];rw[aDv pX]at hy t6;refine(SK pX).same ?_
   have e24:ai .add none true (.int .i64 24) (I (dQ s.length)) s6=.ok (I ((24+dQ s.length:Nat):Int)) s6:=by
    have hp:dQ s.length<=300:=abU
    rw[ay,cI,bB pX];congr 2
   rw[e24,af,dq,af,ag]
   by_cases iw:fr<24+dQ s.length
   .rw[aDy iw]at hy t6;subst hy;rw[aDz iw,aDy rfl];exact kW _ _ (.inl ⟨τ,3,rfl,wI,π,_,_,_,_,rfl,rfl,t6,m6,pX,pX,pX,kx kf1,same⟩)
   rw[aDv iw]at hy t6;subst hy;rw[aDr iw,aDv wI];have aqC:ai .eql (some .int) true (I ((0:Nat):Int)) (.int .i64 0) s6=.ok (.bool true) s6:=rfl;rw[aqC,af,ag,aDy rfl,bA];obtain⟨v1,v2,q1,q2,q3,q4⟩:=m6.get;refine q3 _ ?_;have g6:=box s6 kf1;rw[ah,af,aC,g6,ar];show UU (some (CV.str key)) _;rw[az];refine(acr q1 pX (JH h) key s).mono ?_;intro x s8 hx;have YJ:=t6.rM;have Pt:=m6.not
   obtain⟨k8,Sv⟩:=hx.dz (X:=m::own τ π) λq hq=>by
    rcases aDs.1 hq with h|h
    .rw[h];exact Pt.2
    .exact YJ q h
   refine fe.Of (m6.kp k8) Sv (K:=λs9=>((True/\True/\True)/\True/\k2 [.ptr π.a 0,.ptr τ 0,I ((0:Nat):Int),.int .i64 0] s9)) ?_;intro s9 k9 m9;refine⟨⟨adu,adu,adu⟩,adu,?_⟩
   have t9:=(t6.still k8).off k9 λb hb hh=>by
    have:b=m:=aaQ
    subst this;exact Pt.1 hb
   have hlen:=OB L key s;exact kW _ _ (.inl ⟨τ,0,rfl,wI,π,_,_,_,_,rfl,rfl,t9,m9,pX,pX,pX,km ((kx kf1).trans k8 rq) k9,same⟩)
  .rw[aDr h0,aDv wI,ek,af,ag]
   by_cases h1:kd=1
   .rw[aDz h1,aDy rfl];refine(NN t1).same ?_;refine f 1 _ s1 (Kp.refl _ _) rfl _ ?_;refine(abR t1 key).mono ?_;rintro y s6 hy;unfold aaj at hy;obtain⟨⟨kf,Pq⟩,hy,fr',t6⟩:=hy;have m6:=m1.uR kf Pq;have YJ:=t6.rM;have Pt:=m6.not;have e52:ai .lss none true (I fr) (.int .i64 24) s6=.ok (.bool (decide (fr<24))) s6:=by rw[ay,cY];congr 2;simp only[aDU];omega
    have GA:=QG L key
    have two:∀K:CV->St->Prop,(∀x s,Kp [] s6 s->Sl s (m::own τ π) x 2 (bV (pO L key))->K (.tuple [x,.bool (lA L key).isSome]) s)->bU (us (dC (.ptr m 0) s6) λjj=>us (an 0 jj s6) λlY=>us (aB lY s6) λmK=>us (an 1 (.ptr st.nx 0) s6) λow=>us (aB ow s6) λlX=>R 58 [mK,lX] s6 K):=by
     intro K hK;obtain⟨v1,v2,q1,q2,q3,q4⟩:=m6.get;rw[bA];refine q3 _ ?_;rw[ah,af,aC,box s6 kf,ar];show UU (some (CV.str key)) _;rw[az];refine(agx q1 pX (JH h) key).mono ?_;rintro y s8 ⟨x,⟨rfl,k8,Sv⟩|⟨x,rfl,hx⟩⟩
     .exact hK _ _ k8 Sv
     .obtain⟨k8,Sv⟩:=hx.dz (X:=m::own τ π) λq hq=>by
       rcases aDs.1 hq with h|h
       .rw[h];exact Pt.2
       .exact YJ q h
      exact hK _ _ k8 Sv
    by_cases yC:48<key.length
    .rw[aDy yC]at hy t6;subst hy;rw[aD,af,aG,aD,af];refine two _ ?_;intro x s8 k8 Sv;rw[aD,af,aG,aD,af];refine⟨⟨adu,adu,adu⟩,adu,?_⟩;refine f 1 _ s8 (kf.trans k8 rq) rfl _ ?_;rw[fp,af,ZP,af,ag,aDz yC,aDy rfl];exact kW _ _ (.inl ⟨τ,1,rfl,wI,π,_,_,_,_,rfl,rfl,t6.still k8,m6.kp k8,pX,pX,pX,(kx kf).trans k8 rq,same⟩)
    rw[aDv yC]at hy t6
    by_cases iw:fr<24
    .rw[aDy iw]at hy t6;subst hy;rw[aD,af,aG,aD,af];refine two _ ?_;intro x s8 k8 Sv;rw[aD,af,aG,aD,af];refine⟨⟨adu,adu,adu⟩,adu,?_⟩;refine f 1 _ s8 (kf.trans k8 rq) rfl _ ?_;have e52:ai .lss none true (I fr) (.int .i64 24) s8=.ok (.bool (decide (fr<24))) s8:=by rw[ay,cY];congr 2;simp only[aDU];omega
     rw[fp,af,ZP,af,ag,aDr yC,aDv wI,e52,af,ag,aDz iw,aDy rfl];exact kW _ _ (.inl ⟨τ,3,rfl,wI,π,_,_,_,_,rfl,rfl,t6.still k8,m6.kp k8,pX,pX,pX,(kx kf).trans k8 rq,same⟩)
    rw[aDv iw]at hy t6;subst hy;rw[aD,af,aG,aD,af];refine two _ ?_;intro x s8 k8 Sv;rw[aD,af,aG,aD,af];refine⟨⟨adu,adu,adu⟩,adu,?_⟩;refine f 1 _ s8 (kf.trans k8 rq) rfl _ ?_;have e52:ai .lss none true (I fr) (.int .i64 24) s8=.ok (.bool (decide (fr<24))) s8:=aan
    rw[fp,af,ZP,af,ag,aDr yC,aDv wI,e52,af,ag,aDr iw,aDv wI,e00,af,ag,aDy rfl];have e54:ai .neq (some .bool) false (.bool (lA L key).isSome) (.bool (lA L key).isSome) s8=.ok (.bool false) s8:=by cases (lA L key).isSome<;>rfl
    rw[e54,af,ag,aDv wI];refine(m6.kp k8).Of Sv ?_;intro s9 k9 m9
    have t9:=(t6.still k8).off k9 λb hb hh=>by
     have:b=m:=aaQ
     subst this;exact Pt.1 hb
    exact kW _ _ (.inl ⟨τ,0,rfl,wI,π,_,_,_,_,rfl,rfl,t9,m9,pX,pX,pX,km ((kx kf).trans k8 rq) k9,same⟩)
   .rw[aDr h1,aDv wI,ek,af,ag];have e03:∀s,ai .eql (some .int) true (I 0) (.int .i64 3) s=.ok (.bool false) s:=λs=>rfl;have e33:∀s,ai .eql (some .int) true (I 3) (.int .i64 3) s=.ok (.bool true) s:=λs=>rfl
    have ab:∀s,Kp [] s1 s->∀K:CV->St->Prop,(∀s',Jx m π.a N (n+1) (T+10000) (m::own τ π) st τ s' π.D.set->K (I 0) s')->R 59 [.ptr τ 0] s λx dj=>eW 1 (.ptr m 0) dj λlW=>lD 1 0 (.ptr m 0) lW dj λsS=>K x sS:=by
     intro s k4 K hK;refine(Lc (t1.still k4)).mono ?_;rintro _ s6 ⟨rfl,π',fr',ea,⟨kf,Pq⟩,t6,eS⟩;have m6:=(m1.kp k4).uR kf Pq;obtain⟨v1,v2,q1,q2,q3,q4⟩:=m6.get;refine q4 _ ?_;refine m6.Of q2 ?_;intro s9 k9 m9;have Pt:=m6.not
     have t9:=t6.off k9 λb hb hh=>by
      have:b=m:=aaQ
      subst this;exact Pt.1 hb
     exact hK _ ⟨π',_,_,_,_,ea,eS,t9,m9,pX,pX,pX,km (kx ((k4.mono rq).trans kf adt)) k9,news k4 Pq⟩
    have dead:∀(S:aP->Prop) s6,Rj τ π S s1 s6->(∀D,S D->ld Lk N (T+10000) D\/(kd=4/\ld L N (T+10000) D))->∀s7,Kp [m] s6 s7->(∃v1 v2,s7.m.g m=some (.cells [v1,v2] 47 false))->k2 [.ptr π.a 0,.ptr τ 0,I 20,.int .i64 0] s7:=by
     rintro S s6 ⟨k6,eS,F',D',uP,nz,nZ,hS⟩ hSS s7 k7 Vw;have hmn:=m1.not;have n1:=k1.nx
     have hFm:∀b∈F',b≠m:=λb hb e=>by
      subst e;rcases nz b hb with h1|h1
      .exact hmn.1 h1
      .have:=hmn.2;omega
     exact kW _ _ (.inr ⟨rfl,eS,km (kx k6) k7,Vw,F',D',uP.keep k7 (λb hb=>by simpa using hFm b hb),λb hb=>⟨(nz b hb).imp (λh=>aDS _ h) (λh=>pX),hFm b hb⟩,nZ,hSS _ hS⟩)
    by_cases h4:kd=4
    .rw[aDz h4,aDy rfl];refine(HS t1 hT hN).mono ?_;rintro y s6 (⟨rfl,k6⟩|⟨rfl,π',ea,⟨kf,Pq⟩,t6,eS⟩|⟨rfl,hdt⟩)
     rotate_right
     .have ZQ:ai .eql (some .int) true (I 20) (.int .i64 3) s6=.ok (.bool false) s6:=rfl;have Mz:ai .eql (some .int) true (I 20) (.int .i64 0) s6=.ok (.bool false) s6:=rfl;rw[ZQ,af,ag,aDv wI,Mz,af,ag,aDv wI];refine dead _ s6 hdt (λD hD=>hD.imp id λh=>⟨h4,h⟩) s6 (Kp.refl _ _) ?_;obtain⟨v1,v2,q1,_⟩:=m1.mono hdt.1 λq hq=>hq;exact⟨v1,v2,q1⟩
     .rw[e33,af,ag,aDy rfl];refine ab s6 k6 (λx s=>k2 [.ptr π.a 0,.ptr τ 0,x,.int .i64 0] s) ?_;intro s' hd;exact kW _ _ (.inl ⟨τ,0,rfl,wI,hd⟩)
     .rw[e03,af,ag,aDv wI,e00,af,ag,aDy rfl];have m6:=m1.uR kf Pq;obtain⟨v1,v2,q1,q2,q3,q4⟩:=m6.get;refine q3 _ ?_;refine m6.akJ q1 ?_;intro s9 k9 m9;have Pt:=m6.not
      have t9:=t6.off k9 λb hb hh=>by
       have:b=m:=aaQ
       subst this;exact Pt.1 hb
      exact kW _ _ (.inl ⟨τ,0,rfl,wI,π',_,_,_,_,ea,eS,t9,m9,pX,pX,pX,km (kx kf) k9,news (Kp.refl _ _) Pq⟩)
    rw[aDr h4,aDv wI,ek,af,ag]
    by_cases h5:kd=5
    .rw[aDz h5,aDy rfl];refine ab s1 (Kp.refl _ _) (λx s=>k2 [.ptr π.a 0,.ptr τ 0,x,.int .i64 0] s) ?_;intro s' hd;exact kW _ _ (.inl ⟨τ,0,rfl,wI,hd⟩)
    rw[aDr h5,aDv wI,ek,af,ag]
    by_cases h6:kd=6
    .rw[aDz h6,aDy rfl];refine(Xc t1 hT).mono ?_;rintro _ jm (⟨π',Gk,rfl,ea,hp,iw,vY,Ub,TW,hlen,IP,fk,⟨r,zW,hr⟩,eS⟩|⟨rfl,hdt⟩)
     rotate_left
     .rw[aD,af,aG,aD,af];have my:=m1.mono hdt.1 λq hq=>hq;obtain⟨v1,v2,q1,q2,q3,q4⟩:=my.get;refine q4 _ ?_;refine my.Of q2 ?_;intro fD Hz m21;have Mz:ai .eql (some .int) true (I 20) (.int .i64 0) fD=.ok (.bool false) fD:=rfl;rw[Mz,af,ag,aDv wI];refine dead _ jm hdt (λD hD=>.inl (hD.more pX)) fD Hz ?_;obtain⟨v1,v2,q1,_⟩:=m21;exact⟨v1,v2,q1⟩
     rw[aD,af,aG,aD,af]
     have mx:fe s1 m (own τ π++(r::π'.all)) L Lk:=m1.dz λq hq=>by
      rcases aDB.1 hq with h|h
      .exact .inl h
      .rcases aDs.1 h with h|h
       .right;omega
       .rcases fk q h with h|h
        .left;exact iF acR
        .exact .inr h
     have my:=mx.mono IP λq hq=>aEV _ (iF (by unfold PI.all;simp[hq]));obtain⟨v1,v2,q1,q2,q3,q4⟩:=my.get;refine q4 _ ?_;refine my.Of q2 ?_;intro fD Hz m21;rw[e00,af,ag,aDy rfl];have hnm:=my.not.1;refine(NK (N:=N) (hp.keep Hz λb hb hh=>?_) (Hz.fresh iw) (vY.keep Hz λr' e hh=>?_) Ub TW hlen).mono ?_
     .have:b=m:=by simpa using hh
      subst this;exact hnm (aFt _ (aDS _ hb))
     .have:r'=m:=by simpa using hh
      subst this;rw[zW]at e;cases e;exact hnm rq
     rintro _ yf ⟨τ',rfl,hτ,M3,t22⟩
     have m22:=(m21.dz (Y:=own τ' π') λq hq=>by
      unfold own at hq;rw[zW]at hq;rcases aDs.1 hq with h|h
      .right;omega
      .left;rcases aDB.1 h with h|h
       .have:q=r:=by simpa using h
        simp[this]
       .exact aFt _ (aDS _ h)).kp M3
     refine kW _ _ (.inl ⟨τ',0,rfl,wI,π',_,_,_,_,ea,eS,t22,m22,pX,pX,pX,(km (kx (IP.mono λq hq=>.inl (iF (by unfold PI.all;simp[hq])))) Hz).trans M3 rq,λb hb=>?_⟩);have n20:=IP.nx;have n21:=Hz.nx;unfold own at hb;rw[zW]at hb;rcases aDs.1 hb with h|h
     .right;omega
     .rcases aDB.1 h with h|h
      .have:b=r:=by simpa using h
       right;omega
      .rcases fk b h with h|h
       .left;exact aDS _ (iF acR)
       .right;omega
    rw[aDr h6,aDv wI];exact kW _ _ (.inl ⟨τ,0,rfl,wI,π,_,_,_,_,rfl,rfl,t1,m1,pX,pX,pX,k1.mono rq,same⟩)
 .rintro _ s (⟨τ',e,rfl,he,hd⟩|⟨rfl,eS,hd⟩)
  .simp only[aH,aI];have e1:ai .eql (some .int) true (I e) (.int .i64 20) s=.ok (.bool false) s:=by rw[ay,cz,aDr he]
   have e2:ai .eql (some .int) false (I e) (I e) s=.ok (.bool true) s:=by rw[ay,cz,aDz rfl]
   rw[e1,af,ag,aDv wI,e2,af];exact .inl ⟨τ',rfl,hd⟩
  .simp only[aH,aI];have e1:ai .eql (some .int) true (I 20) (.int .i64 20) s=.ok (.bool true) s:=rfl;rw[e1,af,ag,aDy rfl];obtain⟨_,_,F,D,uP,_,nZ,_⟩:=id hd;refine(wi uP).same ?_;rw[nZ];exact .inr ⟨rfl,eS,hd⟩
end
structure oi where
 kind:Int
 key:List UInt8
 val:List UInt8
 many:Int
def QW (p:oi):List CV:=[I p.kind,.str p.key,.str p.val,I p.many]
def xA (st:St)(v:CV)(S:List oi):Prop:=(v=.ae/\S=[])\/∃b off cap,v=.slice b off S.length cap 0/\b<st.nx/\∀i (h:i<S.length),∃l o,st.m.g b=some (.ro l o)/\off+i*4+4<=l.length/\(l.drop (off+i*4)).take 4=QW S[i]
section
variable {st st':St}
def xA.len {v:CV}{S:List oi}(h:xA st v S)(s:St):bj .slice v s=.ok (I S.length) s:=by
 rcases h with⟨rfl,rfl⟩|⟨b,off,cap,rfl,_⟩<;>rfl
def xA.at' {v:CV}{S:List oi}(h:xA st v S){i:Nat}(hi:i<S.length):∃b p l o0,(∀s,cQ 4 v (I i) s=.ok (.ptr b p) s)/\b<st.nx/\st.m.g b=some (.ro l o0)/\ia l p 4=some (QW S[i])/\∀o x,(QW S[i])[o]?=some x->l[p+o]?=some x:=by
 rcases h with⟨rfl,rfl⟩|⟨b,off,cap,rfl,hb,mM⟩
 .simp at hi
 .obtain⟨l,o0,h1,h2,h3⟩:=mM i hi;refine⟨b,off+i*4,l,o0,λs=>fU hi (.inl rfl) s,hb,h1,?_,λo x hx=>?_⟩
  .unfold ia;rw[aDy h2,h3]
  .rw[<-h3,aFe]at hx
   split at hx
   .rw[aFD]at hx;exact hx
   .cases hx
def As (v:CV):List Nat:=match v with| .slice b _ _ _ _=>[b]|_=>[]
def xA.keep {v:CV}{S:List oi}(h:xA st v S){X:List Nat}(hk:Kp X st st')(hx:∀b∈As v,b∉X):xA st' v S:=by
 rcases h with h|⟨b,off,cap,rfl,hb,mM⟩
 .exact .inl h
 .refine .inr ⟨b,off,cap,rfl,aDM hb hk.nx,λi hi=>?_⟩;obtain⟨l,o0,h1,h2,h3⟩:=mM i hi;exact⟨l,o0,(hk.keep b hb (hx b (by simp[As]))).trans h1,h2,h3⟩
def xA.lt {v:CV}{S:List oi}(h:xA st v S):∀b∈As v,b<st.nx:=by
 rcases h with⟨rfl,rfl⟩|⟨b,off,cap,rfl,hb,mM⟩
 .simp[As]
 .intro q hq;simp[As]at hq;omega
def oi.size (p:oi):Nat:=p.key.length+p.val.length
def UB (S:List oi)(st:St)(y:CV)(st':St):Prop:=∃b,y=.bool b/\st'=st/\(b=false->S.length<=150/\∀p∈S,p.size<=40000)
def UY {v:CV}{S:List oi}(h:xA st v S)(hl:S.length<=9223372036854775807)(hb:∀p∈S,p.size<=281474976710656):R 9 [v] st (UB S st):=by
 refine bN ?_;rw[w9,cK];simp only[aH,aI];refine bK (λfu vs s=>∃(i:Nat) (n:Int),fu+i=S.length/\vs=[v,I n,I i]/\s=st/\(i<=150->0<=n/\n<=i*281474976710656/\∀p∈S.take i,(p.size:Int)<=n)) ?_ (n:=S.length) ⟨0,0,rfl,rfl,rfl,λ_=>⟨pX,pX,rq⟩⟩;rintro fu vs s K ⟨i,n,hi,rfl,rfl,hI⟩ next;simp only[aH,aI];have e5:ai .lss none false (I i) (I S.length) s=.ok (.bool (decide (i<S.length))) s:=aan
 rw[h.len,af,e5,af,ag]
 by_cases hc:i<S.length
 .rw[aDz hc,aDy rfl,bA];obtain⟨b,p,l,o0,q1,q2,q3,q4,q5⟩:=h.at' hc;have a1:=q5 1 (.str S[i].key) rfl;have a2:=q5 2 (.str S[i].val) rfl;rw[q1,af,ah,af,aC,q3,uC,a1,az,fp,af];have e11:ai .add none false (I n) (I S[i].key.length) s=.ok (I (IntKind.i64.wrap (n+S[i].key.length))) s:=by rw[ay,cI]
  rw[e11,af,af,ah,af,aC,q3,uC,a2,az,fp,af];have e16:ai .add none false (I (IntKind.i64.wrap (n+S[i].key.length))) (I S[i].val.length) s=.ok (I (IntKind.i64.wrap (IntKind.i64.wrap (n+S[i].key.length)+S[i].val.length))) s:=by rw[ay,cI]
  rw[e16,af];refine⟨⟨adu,adu,adu⟩,adu,?_⟩;have e17:ai .add none true (I i) (.int .i64 1) s=.ok (I ((i+1:Nat):Int)) s:=Sa
  rw[e17,af];refine next (fu-1) _ _ pX ⟨i+1,_,pX,rfl,rfl,λUd=>?_⟩;obtain⟨i1,i2,i3⟩:=hI pX;have hsz:S[i].key.length+S[i].val.length<=281474976710656:=hb _ (aDL hc);rw[bB (x:=n+S[i].key.length) pX,bB pX];refine⟨pX,pX,λp hp=>?_⟩;rw[aDH hc,aDB]at hp;rcases hp with hp|hp
  .have:=i3 p hp;omega
  .have:p=S[i]:=by simpa using hp
   subst this;unfold oi.size;omega
 .rw[aDr hc,aDv wI];have hie:i=S.length:=by omega
  subst hie;have e19:ai .gtr none true (I S.length) (.int .i64 150) s=.ok (.bool (decide (150<S.length))) s:=AS
  have e21:ai .gtr none true (I n) (.int .i64 40000) s=.ok (.bool (decide (40000<n))) s:=by rw[ay,dx]
  rw[af,e19,af,aL]
  by_cases Ud:150<S.length
  .simp only[aDz Ud,aDJ,aDp,aDE,cH,af,aJ,aDQ];exact⟨true,rfl,rfl,λh=>by cases h⟩
  .simp only[aDr Ud,aDI,aDp,aDE,bp,af,aJ,e21];refine⟨_,rfl,rfl,λh=>⟨pX,λp hp=>?_⟩⟩;obtain⟨i1,i2,i3⟩:=hI pX;rw[aDA pX]at i3;have:=i3 p hp;have h:¬40000<n:=by simpa using h
   omega
end
section
variable {τ:Nat} {π:PI} {st st':St} {L Lk:List bt} {T N fr:Nat}
def XI (k:cn):kh [] k:=by
 unfold kh eD;cases k<;>(rw[Bool.not_eq_true];rfl)
def Ox {τ:Nat}{π:PI}{L Lk:List bt}{T N fr:Nat}(h:fg τ π st L Lk T N fr):R 14 [.ptr τ 0,.str [],.str []] st λy st'=>∃x,y=.tuple [x,I 0]/\Kp [] st st'/\Sl st' [] x 2 (bV L):=by
 obtain⟨⟨G,Gk,ht,hL,_⟩,_⟩:=h;refine(zi ht hL [] []).mono ?_;rintro y s ⟨x,rfl,hx⟩;obtain⟨k,hs⟩:=hx.dz (X:=[]) rq
 have e:L.filter (tT [] [])=L:=List.filter_eq_self.2 λx _=>by
  rw[QR];simp[XI]
 rw[e]at hs;exact⟨x,rfl,k,hs⟩
def agH (jO:St)(w:CV)(T:Nat)(vs:List CV)(s:St):Prop:=∃(τ m:Nat) (π:PI) (L:List bt) (fr:Nat),vs=[w,.ptr π.a 0,.ptr τ 0,.ptr m 0]/\fg τ π s L L T 500 fr/\π.D.set=false/\fe s m (own τ π) L L/\L.length<=151/\Kp [] jO s/\∀b∈m::own τ π,jO.nx<=b
def Wn (jO:St)(w:CV)(T:Nat)(vs:List CV)(s:St):Prop:=∃(a m:Nat) (F:List Nat) (D:aP) (Lk LU:List bt) (u v1 v2:CV),vs=[w,.ptr a 0,.ptr m 0,u]/\cG s a F D/\D.dead=true/\(ld Lk 500 T D\/ld LU 500 T D)/\Lk.length<=151/\LU.length<=151/\s.m.g m=some (.cells [v1,v2] 47 false)/\m<s.nx/\Sl s [] v2 2 (bV Lk)/\Sl s [] u 2 (bV LU)/\Kp [] jO s/\∀b∈m::F,jO.nx<=b
def agJ (jO:St)(w kv:CV)(T:Nat)(vs:List CV)(s:St):Prop:=(∃(τ m:Nat) (π:PI) (L Lk:List bt) (fr:Nat) (u:CV),vs=[w,kv,.ptr π.a 0,.ptr m 0,u]/\fg τ π s L Lk T 500 fr/\fe s m (own τ π) L Lk/\L.length<=151/\Lk.length<=151/\Kp [] jO s/\∀b∈m::own τ π,jO.nx<=b)\/∃a m u,vs=[w,kv,a,m,u]/\Wn jO w T [w,a,m,u] s
def Rm (jO:St)(v w kv:CV)(n:Nat)(fu:Nat)(vs:List CV)(s:St):Prop:=∃(i τ m:Nat) (π:PI) (L Lk:List bt) (T fr:Nat) (u:CV),fu+i=n/\vs=[v,w,kv,.ptr π.a 0,.ptr τ 0,.ptr m 0,u,I i]/\fg τ π s L Lk T 500 fr/\fe s m (own τ π) L Lk/\L.length<=i/\Lk.length<=i/\T<=10000*i/\Kp [] jO s/\∀b∈m::own τ π,jO.nx<=b
def UA (jO:St)(w:CV)(T0 n:Nat)(fu:Nat)(vs:List CV)(s:St):Prop:=∃(i τ m:Nat) (π:PI) (L Lk:List bt) (T fr:Nat),fu+i=n/\vs=[w,.ptr π.a 0,.ptr τ 0,.ptr m 0,I i]/\fg τ π s L Lk T 500 fr/\π.D.set=false/\fe s m (own τ π) L Lk/\L.length<=151+i/\Lk.length<=151+i/\T<=T0+10000*i/\Kp [] jO s/\∀b∈m::own τ π,jO.nx<=b
def fg.more {T':Nat}(h:fg τ π st L Lk T N fr)(hT:T<=T'):fg τ π st L Lk T' N fr:=by
 obtain⟨⟨G,Gk,ht,hL,⟨⟨b,l,P,Ls,r,a1,a2,a3⟩,k1,k2,k3⟩,tQ,qz⟩,hc,hl⟩:=h;exact⟨⟨G,Gk,ht,hL,⟨⟨b,l,P,Ls,r,a1,aEB a2 hT,a3⟩,k1,k2,k3⟩,tQ,qz⟩,hc,hl⟩
set_option maxHeartbeats 4000000 in
def QK {v w kv:CV}{S S':List oi}{keep:List Bool}(h:xA st v S)(h':xA st w S')(hk:kD st [] kv keep)(hf:eM st)(hl:S.length<=9223372036854775807)(hb:∀p∈S,p.size<=281474976710656)(Cf:S'.length<=9223372036854775807)(oO:∀p∈S',p.size<=281474976710656)(Bg:keep.length<=140737488355328)(Mq:Int):R 5 [v,w,I Mq,kv] st λy st'=>y=.bool true/\Kp [] st st':=by
 refine bN ?_;rw[w5];refine(UY h hl hb).mono ?_;rintro _ s1 ⟨b,rfl,e1,hsz⟩;obtain rfl:st=s1:=e1.symm;have en:∀s,ai .neq (some .int) true (I 0) (.int .i64 0) s=.ok (.bool false) s:=λs=>rfl;cases b with
 |true=>
  simp only[aL,aDp,aDE,aDJ,cH,af,oS,aJ,aDQ,ag];exact⟨adu,Kp.refl _ _⟩
 |false=>
  simp only[aL,aDp,aDE,aDI,bp,af,eE];refine(UY h' Cf oO).mono ?_;rintro _ s1 ⟨b,rfl,e1,X8⟩;obtain rfl:st=s1:=e1.symm;rw[aJ,aDv wI,af,ag];cases b with
  |true=>exact⟨adu,Kp.refl _ _⟩
  |false=>
   rw[aDv wI];obtain⟨Ud,h40⟩:=hsz rfl;obtain⟨aAD,g40⟩:=X8 rfl;refine(Uj (n:=500) pX pX hf).mono ?_;rintro _ s2 ⟨π,τ,fr,rfl,k2,xf,ht,eS⟩;rw[aD,af,aG,aD,af,aG,aG,aD,af,c8,af];simp only[aL,aDp,aDE,aDI,bp,af,eE];obtain⟨n,hn,hK⟩:=aco Mq 400 pX pX;refine hK s2 _ ?_;obtain⟨AN,aoS,_⟩:=ht.wh;refine(Qi AN (i:=(n:Int)) pX aoS Bg (hk.mono k2)).mono ?_;rintro _ s4 ⟨rfl,k4,F4,hd4,Qa⟩;have t4:=ht.Mq k4 hd4 Qa;have ea:({π with D:={π.D with set:=true,left:=(n:Int),keep:=keep},Fd:=F4}:PI).a=π.a:=rfl
   have ho4:∀b∈own τ {π with D:={π.D with set:=true,left:=(n:Int),keep:=keep},Fd:=F4},st.nx<=b:=λb hb=>by
    have n2:=k2.nx
    by_cases h1:b∈own τ π
    .exact xf b h1
    .unfold own PI.all at hb h1;simp only[aDs,aDB,aEM]at hb h1;rcases hb with h2|h2|h2|h2|h2|h2|h2|h2
     .exact absurd h2 h1.1
     .exact absurd h2 h1.2.1
     .exact absurd h2 h1.2.2.1
     .exact absurd h2 h1.2.2.2.1
     .exact absurd h2 h1.2.2.2.2.1
     .exact absurd h2 h1.2.2.2.2.2.1
     .exact absurd h2 h1.2.2.2.2.2.2.1
     .rcases Qa b h2 with h3|h3
      .exact absurd h3 h1.2.2.2.2.2.2.2
      .omega
   have K4:Kp [] st s4:=k2.trans k4 λq hq=>.inr (xf q (iF (PI.lP hq)));rw[<-ea];generalize ({π with D:={π.D with set:=true,left:=(n:Int),keep:=keep},Fd:=F4}:PI)=π at*;rw[en,af,aJ,aDv wI,af,ag,aDv wI];have mR:∀s,bu [.ae,.ae] [] s=.ok (.agg [.ae,.ae]) s:=λs=>rfl;rw[mR,af,bW];refine⟨rfl,?_⟩;rw[aV];generalize hs5:St.new s4 (.cells [.ae,.ae] 47 false)=s5;obtain⟨k5,g5,n5⟩:=JW hs5;have t5:=t4.still k5;have K5:=K4.trans k5;have olt:=t4.rM
   have f5:∀K:CV->Prop,K .ae->eW 1 (.ptr s4.nx 0) s5 K:=λK hK=>by
    unfold eW;rw[br,af,ah,af,aC,g5,ar];exact hK
   refine f5 _ ?_;refine iN (agJ st w kv 1510000) ?_ ?_
   .intro M3 YS;rw[cK];simp only[aH,aI]
    refine bK (Rm st v w kv S.length) ?_ (n:=S.length) ⟨0,τ,s4.nx,π,[],[],0,_,_,rfl,rfl,t5,⟨.ae,.ae,g5,rfl,rfl,rfl,rfl,pX,λhh=>by have:=olt _ hh;omega,.inl ⟨rfl,rfl⟩,.inl ⟨rfl,rfl⟩⟩,rq,rq,pX,K5,λb hb=>by
     rcases aDs.1 hb with h1|h1
     .have:=K4.nx;omega
     .exact ho4 b h1⟩
    rintro fu vs s K ⟨i,τ,m,π,L,Lk,T,fr,u,hi,rfl,ht,hm,hL,tQ,hT,Bi,jW⟩ next;simp only[aH,aI];have hA:=h.keep Bi rq;rw[hA.len,af,dq,af]
    by_cases hc:i<S.length
    .obtain⟨hd,VU,_⟩:=ht.wh;simp only[aDz hc,aL,aDQ,bp,af,eE];refine(wi hd).same ?_;rw[VU,cN,af,aJ,aDy rfl,af,ag,aDI,aDy rfl];have Gm:=hm;obtain⟨v1,v2,g,o1,z1,o2,z2,HE,hmn,sl1,Xf⟩:=hm;rw[br,af,aR (n:=2) g rfl,af,cE,aT];generalize hs6:St.new s (.cells [.ae,.ae] 47 false)=s6;obtain⟨k6,g6,n6⟩:=JW hs6;have kq:bo [CV.ae,.ae] 0 [v1,v2]=[v1,v2]:=rfl;rw[aF,g6,aS,aV,kq];refine⟨⟨rfl,by simp[aU,o1,o2],rq⟩,?_⟩;generalize hs7:St.set s6 s.nx (.cells [v1,v2] 47 false)=s7;have k7:Kp [] s s7:=by rw[<-hs7];exact k6.set _ (.inr (aDt _)) pX
     have g7:s7.m.g s.nx=some (.cells [v1,v2] 47 false):=by rw[<-hs7];exact aq _ _ _
     have n7:s7.nx=s.nx+1:=by rw[<-hs7];exact n6
     have hA7:=hA.keep k7 rq;obtain⟨b,p,l,o0,q1,q2,q3,q4,q5⟩:=hA7.at' hc;have hsz:S[i].key.length+S[i].val.length<=40000:=h40 _ (aDL hc);unfold iH;rw[q1,af,nJ,q3,uC,q4,FF];have K7:=Bi.trans k7;have n0:=Bi.nx;refine(agv (n:=i) (ht.still k7) (Gm.kp k7) hL tQ pX pX pX pX).mono ?_;rintro _ s8 (⟨τ',rfl,π',L',Lk',T',fr',ea,xT,wH,yA,hL',Ub,hT',u7,iZ⟩|⟨rfl,xT,k8,⟨x1,x2,gm⟩,F8,D8,Ex,hF8,aeY,hs8⟩)
     .rw[aD,af,aG,aD,af,aG,aG,aD,af,ag,aDv wI,cN,af,ag,aDJ,aDv wI,gT i pX,af,<-ea];refine next (fu-1) _ _ pX ⟨i+1,τ',m,π',L',Lk',T',fr',_,pX,rfl,wH,yA,hL',Ub,pX,K7.trans u7 λq hq=>.inr (jW q hq),λq hq=>?_⟩;rcases aDs.1 hq with h2|h2
      .exact jW q adi
      .rcases iZ q h2 with h3|h3
       .exact jW q h3
       .omega
     .rw[aD,af,aG,aD,af,aG,aG,aD,af,ag,aDy rfl]
      have hwn:s.nx∉m::own τ π:=λhh=>by
       rcases aDs.1 hh with h1|h1
       .omega
       .have:=ht.rM _ h1;omega
      have g8:s8.m.g s.nx=some (.cells [v1,v2] 47 false):=(k8.keep _ pX hwn).trans g7;have ko:bo [x1,x2] 0 [v1,v2]=[v1,v2]:=rfl;rw[aR (n:=2) g8 rfl,af,br,af,aF,gm,aS,aV,ko];refine⟨⟨rfl,by simp[aU,o1,o2],rq⟩,?_⟩;generalize hs9:St.set s8 m (.cells [v1,v2] 47 false)=s9;have n8:=k8.nx;have k9:Kp [m] s8 s9:=by rw[<-hs9];exact(Kp.refl [m] s8).set _ rq pX
      have g9:s9.m.g m=some (.cells [v1,v2] 47 false):=by rw[<-hs9];exact aq _ _ _
      have n9:=k9.nx;have g9':s9.m.g s.nx=some (.cells [v1,v2] 47 false):=(k9.keep _ pX AI).trans g8;have K8:Kp (m::own τ π) s s9:=(k7.mono rq).trans (k8.trans k9 λq hq=>.inl ado) adt;have K9:Kp [] st s9:=Bi.trans K8 λq hq=>.inr (jW q hq);have hA9:=h.keep K9 rq;obtain⟨b,p,l,o0,q1,q2,q3,q4,q5⟩:=hA9.at' hc;have q6:=q5 0 (I S[i].kind) rfl;have akI:=(sl1.mono K8).dz (Y:=[]) rq;have Lg:=(Xf.mono K8).dz (Y:=[]) rq;have hd9:=Ex.keep k9 λb hb=>by simpa using (hF8 b hb).2
      have aeD:∀b∈m::F8,st.nx<=b:=λb hb=>by
       rcases aDs.1 hb with h1|h1
       .exact jW b abV
       .rcases(hF8 b h1).1 with h2|h2
        .exact jW b h2
        .omega
      unfold fl L7;rw[ah,af,aC,g9',ar];show us _ _;rw[q1,af,ah,af,aC,q3,uC,q6,az,ay,cz,af,ag];have zU:∀{L:List bt},ld L 500 (T+10000) D8->ld L 500 1510000 D8:=λhh=>hh.more pX
      by_cases h4:S[i].kind=4
      .rw[aDz h4,aDy rfl,ah,af,aC,g9',ar];exact YS _ _ (.inr ⟨_,_,_,rfl,_,m,F8,D8,Lk,L,v1,v1,v2,rfl,hd9,aeY,hs8.imp zU λhh=>zU hh.2,pX,pX,g9,pX,Lg,akI,K9,aeD⟩)
      .rw[aDr h4,aDv wI]
       have hs:ld Lk 500 1510000 D8:=by
        rcases hs8 with hh|hh
        .exact zU hh
        .exact absurd hh.1 h4
       exact YS _ _ (.inr ⟨_,_,_,rfl,_,m,F8,D8,Lk,Lk,v2,v1,v2,rfl,hd9,aeY,.inl hs,pX,pX,g9,pX,Lg,Lg,K9,aeD⟩)
    .simp only[aDr hc,aL,aDp,aDQ,aDE,cH,af,oS,aJ,ag];exact YS _ _ (.inl ⟨τ,m,π,L,Lk,fr,u,rfl,ht.more pX,hm,pX,pX,Bi,jW⟩)
   .intro vs s hE;refine iN (Wn st w 1510000) ?_ ?_
    .intro Tj aer;rcases hE with⟨τ,m,π,L,Lk,fr,u,rfl,ht,hm,hL,tQ,Bi,jW⟩|⟨a,m,u,rfl,hD⟩
     .simp only[aH,aI];obtain⟨hd,VU,wG⟩:=ht.wh;refine(wi hd).same ?_;rw[VU,cN,af,ag,aDI,aDy rfl];obtain⟨v1,v2,g,o1,z1,o2,z2,HE,hmn,sl1,Xf⟩:=hm;unfold eW;rw[br,af,ah,af,aC,g,ar];show R 21 _ _ _;have TO:∀q∈π.Fd,q∈own τ π:=λq hq=>iF (PI.lP hq);refine(MR hd VU (by rw[wG];simp) Bg ((hk.dz (Y:=π.Fd) λq hq=>.inr (jW q (aDS _ (TO q hq)))).mono (Bi.mono rq))).mono ?_;rintro _ s2 ⟨rfl,k2,F2,AN,vd⟩;rw[en,af,ag,aDv wI];have n0:=Bi.nx;have Lg:=(Xf.mono (k2.mono λq hq=>.inl (aDS _ (TO q hq)))).dz (Y:=[]) rq;refine aer _ _ ⟨_,m,F2,_,Lk,Lk,v2,v1,v2,rfl,AN,rfl,.inl (ht.oR keep),tQ,tQ,(k2.keep m HE λhh=>hmn (TO m hh)).trans g,aDM HE k2.nx,Lg,Lg,Bi.trans k2 λq hq=>.inr (jW q (aDS _ (TO q hq))),λb hb=>?_⟩;rcases aDs.1 hb with h1|h1
      .exact jW b abV
      .rcases vd b h1 with h2|h2
       .exact jW b (aDS _ (TO b h2))
       .omega
     .simp only[aH,aI];have hD0:=hD;obtain⟨a,m,F,D,Lk,LU,u,v1,v2,e,hd,nZ,_⟩:=hD;simp only[aEX,and_true,aFw]at e;obtain⟨rfl,rfl,rfl⟩:=e;refine(wi hd).same ?_;rw[nZ,cN,af,ag,aDJ,aDv wI];exact aer _ _ hD0
    .rintro vs s ⟨a,m,F,D,Lk,LU,u,v1,v2,rfl,hd,nZ,hs,tQ,hLU,g,HE,Xf,slu,Bi,jW⟩;simp only[aH,aI];obtain⟨Lx,Kj,hLx⟩:∃Lx,ld Lx 500 1510000 D/\(Lx=Lk\/Lx=LU):=hs.elim (λh=>⟨_,h,.inl rfl⟩) λh=>⟨_,h,.inr rfl⟩;have hxl:Lx.length<=151:=by rcases hLx with rfl|rfl<;>assumption
     have hlen:D.ao.length=500:=by obtain⟨G,_,h2⟩:=Kj;exact h2.2.1
     have n0:=Bi.nx;refine(Lz hd nZ pX).mono ?_;rintro _ s1 ⟨k1,a1,F1,rfl,Na,wa⟩;rw[aD,af,aG,aD,af,en,af,ag,aDv wI];have K1:=Bi.trans k1;refine(Xb Kj Na (K1.fresh hf) pX).mono ?_;rintro _ s2 ⟨π,Gk,rfl,ea,hp,TP,vY,hLG,GD,PA,k2,fk,⟨r,hlr,hr⟩,Pf⟩;rw[aD,af,aG,aD,af,en,af,ag,aDv wI];have n1:=k1.nx;have azF:∀b∈F1,s.nx<=b:=wa;refine(NK hp TP vY hLG GD PA).mono ?_;rintro _ s3 ⟨τ,rfl,hτ,k3,t3⟩;have n2:=k2.nx;refine(Ox t3).mono ?_;rintro _ s4 ⟨x,rfl,k4,slx⟩;rw[aD,af,aG,aD,af,en,af,ag,aDv wI,bA];have zK:Kp [] s s4:=k1.trans ((k2.trans (k3.trans k4) rq).mono (G:=F1) adt) λq hq=>.inr (wa q hq);have g4:s4.m.g m=_:=(zK.keep m HE rq).trans g
     have l1:∀K:CV->Prop,K v2->us (dC (.ptr m 0) s4) (λx=>us (an 1 x s4) λx=>us (aB x s4) K):=λK hK=>by
      rw[br,af,ah,af,aC,g4,ar];exact hK
     refine l1 _ ?_;refine l1 _ ?_;obtain⟨y2,o2,z2⟩:=Xf.bD;obtain⟨yu,ou,zu⟩:=slu.bD
     have DX:∀x s,x.isAny=false->x.cA=[x]->bu [.ae,.ae] [(0,1,x),(1,1,x)] s=.ok (.agg [x,x]) s:=λx s hy hx=>by
      rw[dw];simp[cq,bo,hx,hy]
     rw[DX _ _ y2 z2,af,bW];refine⟨rfl,?_⟩;rw[aV];generalize hs5:St.new s4 (.cells [v2,v2] 47 false)=s5;obtain⟨k5,g5,n5⟩:=JW hs5;refine⟨⟨adu,adu,adu⟩,adu,?_⟩;have t5:=(t3.still k4).still k5;have K5:Kp [] s s5:=zK.trans k5;have sl5:=Xf.mono K5;have akG:=slu.mono K5;have abY:=slx.mono k5
     have anV:∀b∈own τ π,s.nx<=b:=λb hb=>by
      unfold own at hb;rw[hlr]at hb;rcases aDs.1 hb with h1|h1
      .omega
      .rcases aDB.1 h1 with h2|h2
       .have h2:b=r:=by simpa using h2
        omega
       .rcases fk b h2 with h3|h3
        .exact wa b h3
        .omega
     have n3:=k3.nx;have n4:=k4.nx;have olt:=t3.rM
     have acJ:∀{s':St} {x:CV} {m':Nat},Kp [] s5 s'->s'.m.g m'=some (.cells [x,x] 47 false)->ck x=true->x.cA=[x]->s4.nx<=m'->m'<s'.nx->Sl s [] x 2 (bV Lx)->agH st w 1510000 [w,.ptr a1 0,.ptr τ 0,.ptr m' 0] s':=λ{s' x m'} k6 gx ox zx h1 h2 sx=>by
      have aeE:∀q∈m'::own τ π,s.nx<=q:=λq hq=>by
       rcases aDs.1 hq with h3|h3
       .have:=zK.nx;omega
       .exact anV q h3
      have sx':=(sx.dz (Y:=m'::own τ π) λq hq=>.inr (aeE q hq)).mono ((K5.trans k6).mono rq);exact⟨τ,m',π,Lx,_,by rw[ea],t5.still k6,Pf,⟨x,x,gx,ox,zx,ox,zx,h2,λhh=>by have:=(t3.still k4).rM _ hh;omega,sx',sx'⟩,hxl,(Bi.trans K5).trans k6,λq hq=>by have:=aeE q hq;omega⟩
     refine iN (agH st w 1510000) ?_ ?_
     .intro k47 aep;unfold eW;rw[br,af,ah,af,aC,g5,ar];show R 25 _ _ _;refine(yF abY sl5 pX pX).same ?_;rw[cN,af,ag]
      by_cases hx:Lx=Lk
      .subst hx;rw[aDz rfl,aDJ,aDv wI];exact aep _ _ (acJ (Kp.refl _ _) g5 o2 z2 (aDt _) pX Xf)
      .obtain rfl:Lx=LU:=hLx.resolve_left hx;rw[aDr hx,aDI,aDy rfl,DX _ _ yu zu,af,bW];refine⟨rfl,?_⟩;rw[aV];generalize hs6:St.new s5 (.cells [u,u] 47 false)=s6;obtain⟨k6,g6,n6⟩:=JW hs6;rw[br,af,ah,af,aC,g6,ar];show R 25 _ _ _;refine(yF (abY.mono k6) (akG.mono k6) pX pX).same ?_;rw[aDz rfl,cN,af,ag,aDJ,aDv wI];exact aep _ _ (acJ k6 g6 ou zu pX pX slu)
     .rintro vs s ⟨τ,m,π,L,fr,rfl,ht,eS,hm,hL,Bi,jW⟩;rw[cK];simp only[aH,aI];refine bK (UA st w 1510000 S'.length) ?_ (n:=S'.length) ⟨0,τ,m,π,L,L,1510000,fr,rfl,rfl,ht,eS,hm,hL,hL,pX,Bi,jW⟩;rintro fu vs s K ⟨i,τ,m,π,L,Lk,T,fr,hi,rfl,ht,eS,hm,hL,tQ,hT,Bi,jW⟩ next;simp only[aH,aI];have hA:=h'.keep Bi rq;have n0:=Bi.nx;rw[hA.len,af,dq,af,ag]
      by_cases hc:i<S'.length
      .rw[aDz hc,aDy rfl];obtain⟨b,p,l,o0,q1,q2,q3,q4,q5⟩:=hA.at' hc;have hsz:S'[i].key.length+S'[i].val.length<=40000:=g40 _ (aDL hc);unfold iH;rw[q1,af,nJ,q3,uC,q4,FF];refine(agv (n:=151+i) ht hm hL tQ pX pX pX pX).mono ?_;rintro _ s6 (⟨τ',rfl,π',L',Lk',T',fr',ea,xT,wH,yA,hL',Ub,hT',u7,iZ⟩|⟨_,xT,_⟩)
       .rw[aD,af,aG,aD,af,aG,aG,aD,af,bA];have HI:=h'.keep (Bi.trans u7 λq hq=>.inr (jW q hq)) rq;obtain⟨b',p',l',o1,r1,r2,r3,r4,r5⟩:=HI.at' hc;have r6:=r5 1 (.str S'[i].key) rfl;obtain⟨v1,v2,u1,u2,u3,u4⟩:=yA.get;rw[cN,af,aL];simp only[aDJ,aDp,aDE,aDI,bp,eE];rw[af,af];refine u3 _ ?_;rw[af,af,r1,af,ah,af,aC,r3,uC,r6,az];refine(NU wH u1 pX S'[i].key).mono ?_;rintro _ s7 ⟨rfl,k7⟩;rw[cN,af,aJ,aDv wI,af];refine⟨⟨adu,adu,adu⟩,adu,?_⟩;rw[ag,aDJ,aDv wI,gT i pX,af,<-ea];refine next (fu-1) _ _ pX ⟨i+1,τ',m,π',L',Lk',T',fr',pX,rfl,wH.still k7,xT.trans eS,yA.kp k7,pX,pX,pX,(Bi.trans u7 λq hq=>.inr (jW q hq)).trans k7,λq hq=>?_⟩;rcases aDs.1 hq with h2|h2
        .exact jW q adi
        .rcases iZ q h2 with h3|h3
         .exact jW q h3
         .omega
       .rw[eS]at xT;cases xT
      .rw[aDr hc,aDv wI];exact⟨adu,Bi⟩
end
