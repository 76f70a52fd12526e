import Derived.Test.YtomffjeofpafnaaGreatDoorLawA
namespace Lim
open Go
noncomputable section
set_option maxRecDepth 100000
section
variable {st st':St}
theorem aiD (a:Int)(m:Nat)(hm:0<m)(QN:m<=100000):∃n:Nat,n<m/\∀(s:St) (K:CV->Prop),K (I n)->us (dB (.toInt .u64) (I a) s) fun x7=>us (aj .rem none true x7 (.int .u64 m) s) fun x8=>us (dB (.toInt .i64) x8 s) K:=by
 have h1:0<=IntKind.u64.wrap a:=by rw[IntKind.wrap_u64];omega
 have h2:(IntKind.u64.wrap a).tmod m=(IntKind.u64.wrap a)%m:=Int.tmod_eq_emod_of_nonneg h1;have h3:0<=(IntKind.u64.wrap a)%m:=Int.emod_nonneg _ (by omega);have h4:(IntKind.u64.wrap a)%m<m:=Int.emod_lt_of_pos _ (by omega);refine⟨((IntKind.u64.wrap a)%m).toNat,by omega,fun st K hK=> ?_⟩;have e1:dB (.toInt .u64) (I a) st= .ok (.int .u64 (IntKind.u64.wrap a)) st:=rfl;rw[e1,af,av,NP,aAZ (by omega),af];have e2:dB (.toInt .i64) (.int .u64 ((IntKind.u64.wrap a).tmod m)) st= .ok (.int .i64 (IntKind.i64.wrap ((IntKind.u64.wrap a).tmod m))) st:=rfl;rw[e2,af,h2,bD (by omega)];rw[Int.toNat_of_nonneg h3]at hK;exact hK
theorem Rl {k many:Int}{key val:List UInt8}(hv:val.length<=100000):R 12 [.agg [I k, .str key, .str val,I many]] st fun v st'=>Kp [] st st'/\∃s:List UInt8,v= .str s/\s.length<=200000:=by
 refine bO ?_;rw[w12];rw[cr];refine⟨rfl, ?_⟩;rw[aU,db];simp only[aK,aL];obtain⟨m,hm,hK⟩:=aiD many 600 (by omega) (by omega);generalize Ma:St.new st (.cells [I k, .str key, .str val,I many] 31 false)=s1;have k1:Kp [] st s1:=by rw[<-Ma];exact(Kp.refl [] st).new _
 have g1:s1.mem.get st.next=some (.cells [I k, .str key, .str val,I many] 31 false):=by rw[<-Ma];simp
 refine bM (fun fu vs s=>∃(i:Nat) (x:List UInt8),fu+i=600/\vs=[.ptr st.next 0, .str x,I i]/\x.length<=200000/\s=s1) ?_ (n:=600) ⟨0,[],rfl,rfl,by simp,rfl⟩;rintro fu vs s K ⟨i,x,hi,rfl,hx,rfl⟩ next;simp only[aK,aL]
 have f3:∀K:CV->Prop,K (I many)->fl 3 (.ptr st.next 0) s K:=fun K h=>by
  simp only[fl,ah,af,az,g1,ar];exact h
 have f2:∀K:CV->Prop,K (.str val)->fl 2 (.ptr st.next 0) s K:=fun K h=>by
  simp only[fl,ah,af,az,g1,ar];exact h
 refine f3 _ ?_;refine hK s _ ?_;rw[dM,af];have fin:Kp [] st s/\∃t:List UInt8,CV.str x= .str t/\t.length<=200000:=⟨k1,x,rfl,hx⟩
 by_cases hc:i<m
 ·have e9:aj .lss none true (I x.length) (.int .i64 9000) s= .ok (.bool (decide (x.length<9000))) s:=by rw[av,de];congr 2;simp only[aBu];omega
  simp only[aBc hc,aG,aBr,bh,af,fh,e9,aF,ag]
  by_cases h9:x.length<9000
  ·rw[aBc h9,aBb rfl];refine f2 _ ?_;have PR:aj .add none false (.str x) (.str val) s= .ok (.str (x++val)) s:=by rw[eT];unfold rj;rw[aBb (by omega)]
   rw[PR,af,ik i (by omega),af];exact next (fu-1) _ _ (by omega) ⟨i+1,x++val,by omega,rfl,by rw[aAY];omega,rfl⟩
  ·rw[aAW h9,aAZ (by decide)];exact fin
 ·simp only[aAW hc,aG,aAR,aBf,cc,af,aF,ag];exact fin
end
section
variable {st st':St}
theorem fv.sorted {G:GM}{L:List bB}(h:fv G L):kP L:=by
 rcases h.tree with⟨_,rfl⟩|⟨hh,ps,_,hs⟩
 ·exact List.Pairwise.nil
 ·exact hs.facts.sorted
end
def lL (st:St)(m:Nat)(X:List Nat)(L Lk:List bB):Prop:=∃v1 v2,st.mem.get m=some (.cells [v1,v2] 47 false)/\cq v1=true/\v1.cK=[v1]/\cq v2=true/\v2.cK=[v2]/\m<st.next/\m∉X/\Sl st (m::X) v1 2 (iY L)/\Sl st (m::X) v2 2 (iY Lk)
section
variable {τ:Nat} {π:PI} {st st':St} {L Lk:List bB} {T N fr:Nat}
theorem ln.V0 (h:ln τ π st L Lk T N fr):∀b∈own τ π,b<st.next:=by
 obtain⟨⟨G,Gk,ht,hL,hk,ZJ,sG,jy⟩,hc,hl⟩:=h;intro b hb;obtain⟨r,h1,h2,h3⟩:=hk.log;unfold own at hb;rw[h1]at hb;rcases aAX.1 hb with h|h
 ·rw[h];exact ht.lt
 ·rcases aBe.1 h with h|h
  ·have h:b=r:=by simpa using h
   omega
  ·exact ht.pg.lt b h
theorem Sl.one {X:List Nat}{v:CV}{k:Nat}{l:List CV}(h:Sl st X v k l):cq v=true/\v.cK=[v]:=by
 rcases h with⟨rfl,_⟩|⟨b,o,l,c,g,rfl,_⟩<;>exact⟨rfl,rfl⟩
theorem lL.kp {m:Nat}{X:List Nat}(h:lL st m X L Lk)(hk:Kp [] st st'):lL st' m X L Lk:=by
 obtain⟨v1,v2,h1,h2,h3,h4,h5,h6,h7,h8,h9⟩:=h;exact⟨v1,v2,(hk.keep m h6 (by simp)).trans h1,h2,h3,h4,h5,aBs h6 hk.next,h7,h8.mono (hk.mono (by simp)),h9.mono (hk.mono (by simp))⟩
theorem lL.get {m:Nat}{X:List Nat}(h:lL st m X L Lk):∃v1 v2,Sl st (m::X) v1 2 (iY L)/\Sl st (m::X) v2 2 (iY Lk)/\(∀K:CV->Prop,K v1->fH 0 (.ptr m 0) st K)/\∀K:CV->Prop,K v2->fH 1 (.ptr m 0) st K:=by
 obtain⟨v1,v2,h1,h2,h3,h4,h5,h6,h7,h8,h9⟩:=h;refine⟨v1,v2,h8,h9,fun K hK=> ?_,fun K hK=> ?_⟩
 all_goals
  unfold fH;rw[bA,af,ah,af,az,h1,ar];exact hK
theorem ln.off {X:List Nat}(h:ln τ π st L Lk T N fr)(hk:Kp X st st')(hx:∀b∈own τ π,b∉X):ln τ π st' L Lk T N fr:=by
 have hlt:=h.V0;have JC:∀b∈own τ π,st'.mem.get b=st.mem.get b:=fun b hb=>hk.keep b (hlt b hb) (hx b hb);obtain⟨⟨G,Gk,ht,hL,Dn,ZJ,sG,jy⟩,hc,hl⟩:=h;obtain⟨ty,g,hg⟩:=ht.get;obtain⟨r,h1,h2,h3⟩:=Dn.log;refine⟨⟨G,Gk,⟨ht.pg.keep hk fun b hb=>hx b (sC hb),aBs ht.lt hk.next,ht.not,⟨ty,g,(hk.keep τ ht.lt (hx τ (by simp[own]))).trans hg⟩,hk.fresh ht.fr⟩,hL,Dn.keep hk fun r' e=>hx r' (by unfold own;rw[e];simp),ZJ,sG,jy⟩,hc,hl⟩
end
theorem Lx {α:Type}(L:List α)(p q:α->Bool)(h:∀x,p x=true->q x=true->False):(L.filter p).length+(L.filter q).length<=L.length:=by
 induction L with
 |nil=>simp
 |cons x r ih=>
  rw[aCe,aCe];cases hp:p x<;>cases hq:q x
  ·simp;omega
  ·simp;omega
  ·simp;omega
  ·exact(h x hp hq).elim
theorem Ez (L:List bB)(key:bZ)(v:List UInt8):(lC L key v).length<=L.length+1:=by
 have:=Lx L (fun x=>decide (dW x.1 key)) (fun x=>decide (dW key x.1)) fun x h1 h2=>iK (by simpa using h1) (by simpa using h2);have e:lC L key v=L.filter (fun x=>decide (dW x.1 key))++(key,v)::L.filter (fun x=>decide (dW key x.1)):=rfl;rw[e,aAY,aBt];exact Nat.succ_le_succ this
section
variable {τ:Nat} {π:PI} {st st':St} {L Lk:List bB} {T N fr:Nat}
theorem lL.ef {m:Nat}{X Y:List Nat}(h:lL st m X L Lk)(hy:∀q∈Y,q∈X\/st.next<=q):lL st m Y L Lk:=by
 obtain⟨v1,v2,h1,h2,h3,h4,h5,h6,h7,h8,h9⟩:=h
 have Zk:∀q∈m::Y,q∈m::X\/st.next<=q:=fun q hq=>by
  rcases aAX.1 hq with h|h
  ·exact .inl (by simp[h])
  ·exact(hy q h).imp (fun h=>aCd _ h) id
 refine⟨v1,v2,h1,h2,h3,h4,h5,h6,fun hh=> ?_,h8.ef Zk,h9.ef Zk⟩;rcases hy m hh with h|h
 ·exact h7 h
 ·omega
theorem lL.mono {m:Nat}{X F:List Nat}(h:lL st m X L Lk)(hk:Kp F st st')(hF:∀q∈F,q∈X):lL st' m X L Lk:=by
 obtain⟨v1,v2,h1,h2,h3,h4,h5,h6,h7,h8,h9⟩:=h;have k:Kp (m::X) st st':=hk.mono fun q hq=> .inl (aCd _ (hF q hq));exact⟨v1,v2,(hk.keep m h6 fun hh=>h7 (hF m hh)).trans h1,h2,h3,h4,h5,aBs h6 hk.next,h7,h8.mono k,h9.mono k⟩
theorem lL.not {m:Nat}{X:List Nat}(h:lL st m X L Lk):m∉X/\m<st.next:=by obtain⟨v1,v2,_,_,_,_,_,h6,h7,_⟩:=h;exact⟨h7,h6⟩
theorem Made.ef {x:CV}{ty:Nat}{l:List CV}{s s':St}(h:Made 2 ty l s x s'){X:List Nat}(hX:∀q∈X,q<s.next):Kp [] s s'/\Sl s' X x 2 l:=by
 obtain⟨F,h1,h2,h3⟩:=h;exact⟨h1,h2.sl fun b hb=>⟨fun hh=>by have:=hX b hh;have:=(h3 b hb).1;omega,(h3 b hb).2⟩⟩
theorem IT (h:ln τ π st L Lk T N fr):kP L:=by
 obtain⟨⟨G,Gk,ht,hL,_⟩,_⟩:=h;exact hL.sorted
end
structure StepP where
 kind:Int
 key:List UInt8
 val:List UInt8
 many:Int
def wF (p:StepP):List CV:=[I p.kind, .str p.key, .str p.val,I p.many]
def wJ (st:St)(v:CV)(S:List StepP):Prop:=(v= .ae/\S=[])\/∃b off cap,v= .slice b off S.length cap 0/\b<st.next/\∀i (h:i<S.length),∃l o,st.mem.get b=some (.ro l o)/\off+i*4+4<=l.length/\(l.drop (off+i*4)).take 4=wF S[i]
section
variable {st st':St}
theorem wJ.len {v:CV}{S:List StepP}(h:wJ st v S)(s:St):bo .slice v s= .ok (I S.length) s:=by
 rcases h with⟨rfl,rfl⟩|⟨b,off,cap,rfl,_⟩<;>rfl
theorem wJ.at' {v:CV}{S:List StepP}(h:wJ st v S){i:Nat}(hi:i<S.length):∃b p l o0,(∀s,cU 4 v (I i) s= .ok (.ptr b p) s)/\b<st.next/\st.mem.get b=some (.ro l o0)/\gX l p 4=some (wF S[i])/\∀o x,(wF S[i])[o]?=some x->l[p+o]?=some x:=by
 rcases h with⟨rfl,rfl⟩|⟨b,off,cap,rfl,hb,nR⟩
 ·simp at hi
 ·obtain⟨l,o0,h1,h2,h3⟩:=nR i hi;refine⟨b,off+i*4,l,o0,fun s=>gu hi (.inl rfl) s,hb,h1, ?_,fun o x hx=> ?_⟩
  ·unfold gX;rw[aBb h2,h3]
  ·rw[<-h3,aCU]at hx
   split at hx
   ·rw[aDs]at hx;exact hx
   ·cases hx
def nL (v:CV):List Nat:=match v with| .slice b _ _ _ _=>[b]|_=>[]
theorem wJ.keep {v:CV}{S:List StepP}(h:wJ st v S){X:List Nat}(hk:Kp X st st')(hx:∀b∈nL v,b∉X):wJ st' v S:=by
 rcases h with h|⟨b,off,cap,rfl,hb,nR⟩
 ·exact .inl h
 ·refine .inr ⟨b,off,cap,rfl,aBs hb hk.next,fun i hi=> ?_⟩;obtain⟨l,o0,h1,h2,h3⟩:=nR i hi;exact⟨l,o0,(hk.keep b hb (hx b (by simp[nL]))).trans h1,h2,h3⟩
theorem wJ.lt {v:CV}{S:List StepP}(h:wJ st v S):∀b∈nL v,b<st.next:=by
 rcases h with⟨rfl,rfl⟩|⟨b,off,cap,rfl,hb,nR⟩
 ·simp[nL]
 ·intro q hq;simp[nL]at hq;omega
def StepP.size (p:StepP):Nat:=p.key.length+p.val.length
def TF (S:List StepP)(st:St)(y:CV)(st':St):Prop:=∃b,y= .bool b/\st'=st/\(b=false->S.length<=150/\∀p∈S,p.size<=40000)
theorem aaT {v:CV}{S:List StepP}(h:wJ st v S)(hl:S.length<=9223372036854775807)(hb:∀p∈S,p.size<=281474976710656):R 9 [v] st (TF S st):=by
 refine bO ?_;rw[w9,db];simp only[aK,aL];refine bM (fun fu vs s=>∃(i:Nat) (n:Int),fu+i=S.length/\vs=[v,I n,I i]/\s=st/\(i<=150->0<=n/\n<=i*281474976710656/\∀p∈S.take i,(p.size:Int)<=n)) ?_ (n:=S.length) ⟨0,0,rfl,rfl,rfl,fun _=>⟨by omega,by omega,by simp⟩⟩;rintro fu vs s K ⟨i,n,hi,rfl,rfl,hI⟩ next;simp only[aK,aL];have e5:aj .lss none false (I i) (I S.length) s= .ok (.bool (decide (i<S.length))) s:=by rw[av,de];congr 2;simp only[aBu];omega
 rw[h.len,af,e5,af,ag]
 by_cases hc:i<S.length
 ·rw[aBc hc,aBb rfl,bG];obtain⟨b,p,l,o0,q1,q2,q3,q4,q5⟩:=h.at' hc;have a1:=q5 1 (.str S[i].key) rfl;have a2:=q5 2 (.str S[i].val) rfl;rw[q1,af,ah,af,az,q3,wh,a1,au,fh,af];have ZS:aj .add none false (I n) (I S[i].key.length) s= .ok (I (IntKind.i64.wrap (n+S[i].key.length))) s:=by rw[av,cN]
  rw[ZS,af,af,ah,af,az,q3,wh,a2,au,fh,af];have e16:aj .add none false (I (IntKind.i64.wrap (n+S[i].key.length))) (I S[i].val.length) s= .ok (I (IntKind.i64.wrap (IntKind.i64.wrap (n+S[i].key.length)+S[i].val.length))) s:=by rw[av,cN]
  rw[e16,af];refine⟨⟨trivial,trivial,trivial⟩,trivial, ?_⟩;have e17:aj .add none true (I i) (.int .i64 1) s= .ok (I ((i+1:Nat):Int)) s:=by rw[av,cN,bD (by omega)];congr 2
  rw[e17,af];refine next (fu-1) _ _ (by omega) ⟨i+1,_,by omega,rfl,rfl,fun Tc=> ?_⟩;obtain⟨i1,i2,i3⟩:=hI (by omega);have hsz:S[i].key.length+S[i].val.length<=281474976710656:=hb _ (aBq hc);rw[bD (x:=n+S[i].key.length) (by omega),bD (by omega)];refine⟨by omega,by omega,fun p hp=> ?_⟩;rw[aBl hc,aBe]at hp;rcases hp with hp|hp
  ·have:=i3 p hp;omega
  ·have:p=S[i]:=by simpa using hp
   subst this;unfold StepP.size;omega
 ·rw[aAW hc,aAZ (by decide)];have hie:i=S.length:=by omega
  subst hie;have e19:aj .gtr none true (I S.length) (.int .i64 150) s= .ok (.bool (decide (150<S.length))) s:=by rw[av,dj];congr 2;simp only[aBu];omega
  have e21:aj .gtr none true (I n) (.int .i64 40000) s= .ok (.bool (decide (40000<n))) s:=by rw[av,dj]
  rw[af,e19,af,aG]
  by_cases Tc:150<S.length
  ·simp only[aBc Tc,aBm,aAR,aBf,cc,af,aF,aBr];exact⟨true,rfl,rfl,fun h=>by cases h⟩
  ·simp only[aAW Tc,aBk,aAR,aBf,bh,af,aF,e21];refine⟨_,rfl,rfl,fun h=>⟨by omega,fun p hp=> ?_⟩⟩;obtain⟨i1,i2,i3⟩:=hI (by omega);rw[aBa (by omega)]at i3;have:=i3 p hp;have h:¬40000<n:=by simpa using h
   omega
end
section
variable {τ:Nat} {π:PI} {st st':St} {L Lk:List bB} {T N fr:Nat}
end
theorem tK (L:List bB)(key:bZ)(w:List UInt8):l5 (lC L key w) key=some w:=by
 unfold lC;exact FT fun x hx=>by simpa using (aCS.1 hx).2
theorem xp {L:List bB}{p q:bB->Bool}(h:∀x,q x=true->p x=true):(L.filter p).find? q=L.find? q:=by
 induction L with
 |nil=>rfl
 |cons x r ih=>
  rw[aCe];cases hp:p x with
  |true=>
   rw[aBb rfl,List.find?_cons,List.find?_cons,ih]
  |false=>
   rw[aAZ (by decide),ih,List.find?_cons];cases hq:q x with
   |true=>rw[h x hq]at hp;cases hp
   |false=>rfl
theorem BK {L:List bB}{p q:bB->Bool}(h:∀x,q x=true->p x=false):(L.filter p).find? q=none:=by
 rw[List.find?_eq_none];intro x hx hq;have:=(aCS.1 hx).2;rw[h x hq]at this;cases this
theorem rI (L:List bB)(key k2:bZ)(w:List UInt8)(h:key≠k2):l5 (lC L key w) k2=l5 L k2:=by
 unfold l5 lC
 congr 1
 rw[List.find?_append,List.find?_cons,aAW h];dsimp only
 by_cases hlt:dW k2 key
 ·rw[xp (p:=fun x=>decide (dW x.1 key)) fun x hx=>by
   have:x.1=k2:=by simpa using hx
   rw[this];simpa using hlt]
  rw[BK (p:=fun x=>decide (dW key x.1)) fun x hx=>by
   have:x.1=k2:=by simpa using hx
   rw[this]
   simpa using iK hlt]
  cases L.find? _<;>rfl
 ·have Al:dW key k2:=by
   have h2:ju key k2:=hlt;rcases oD.1 h2 with h|h
   ·exact h
   ·exact absurd h (by assumption)
  rw[BK (p:=fun x=>decide (dW x.1 key)) fun x hx=>by
   have:x.1=k2:=by simpa using hx
   rw[this]
   simpa using hlt]
  rw[xp (p:=fun x=>decide (dW key x.1)) fun x hx=>by
   have:x.1=k2:=by simpa using hx
   rw[this];simpa using Al]
  rfl
theorem Ji (k:bZ):ju [] k:=by
 unfold ju dW;cases k<;>(rw[Bool.not_eq_true];rfl)
theorem JW (L:List bB):L.filter (xu [] [])=L:=nI fun x _=>by
 rw[zO];simp[Ji]
theorem X5 {L:List bB}(hs:kP L){o:bZ}(ho:o≠[]):L.filter (xu [] o)++L.filter (xu o [])=L:=by
 obtain⟨p1,p2⟩:=Gn hs o
 have e1:L.filter (xu [] o)=L.filter (fun x=>decide (dW x.1 o)):=by
  apply List.filter_congr;intro x _;rw[zO];simp[Ji,ho]
 have e2:L.filter (xu o [])=L.filter (fun x=> !decide (dW x.1 o)):=by
  apply List.filter_congr;intro x _;rw[zO]
  by_cases h:dW x.1 o<;>simp[ju,h]
 rw[e1,e2]
 have:∀M:List bB,kP M->M.filter (fun x=>decide (dW x.1 o))++M.filter (fun x=> !decide (dW x.1 o))=M:=by
  intro M hM
  induction M with
  |nil=>rfl
  |cons x r ih=>
   have h2:=hM;unfold kP at h2;rw[aDi]at h2;rw[aCe,aCe]
   by_cases h:dW x.1 o
   ·simp only[aBc h,aBr,aBm,aAR,aBf];rw[aBR,ih h2.2]
   ·have hr:r.filter (fun x=>decide (dW x.1 o))=[]:=l6 fun y hy=>by
     have:=h2.1 y hy;have hle:ju o x.1:=h
     simpa using iK (hle.nf this)
    have Aj:r.filter (fun x=> !decide (dW x.1 o))=r:=nI fun y hy=>by
     have:=h2.1 y hy;have hle:ju o x.1:=h
     simpa using iK (hle.nf this)
    simp only[aAW h,aBk,aBr,aAR,aBf,hr,Aj,aBw]
 exact this L hs
section
variable {st st':St}
theorem IP {τ:Nat}{π:PI}{L Lk:List bB}{T N fr:Nat}(h:ln τ π st L Lk T N fr){key:bZ}(hk:key.length<=48):R 13 [.ptr τ 0, .str key] st fun x st'=>Kp [] st st'/\x= .tuple [.str ((l5 L key).getD []), .bool (l5 L key).isSome,I 0]:=by
 obtain⟨⟨G,Gk,ht,hL,_⟩,_⟩:=h;refine(Yf ht hL key).mono ?_;rintro x s ⟨k,hx⟩;rw[aAZ (by omega)]at hx;exact⟨k,hx⟩
theorem xP {τ:Nat}{π:PI}{L Lk:List bB}{T N fr:Nat}(h:ln τ π st L Lk T N fr)(a b:bZ):R 14 [.ptr τ 0, .str a, .str b] st fun y st'=>∃x,y= .tuple [x,I 0]/\Kp [] st st'/\Sl st' [] x 2 (iY (L.filter (xu a b))):=by
 obtain⟨⟨G,Gk,ht,hL,_⟩,_⟩:=h;refine(NC ht hL a b).mono ?_;rintro y s ⟨x,rfl,hx⟩;obtain⟨k,hs⟩:=hx.ef (X:=[]) (by simp);exact⟨x,rfl,k,hs⟩
theorem I5 (p:bB)(s:St):aj .neq (some (.struct (.cons 0 1 false .str (.cons 1 1 false .str .nil)))) false (.agg (mC p)) (.agg (mC p)) s= .ok (.bool false) s:=by
 rw[uX]
 have:mh (.struct (.cons 0 1 false .str (.cons 1 1 false .str .nil))) (.agg (mC p)) (.agg (mC p))=some true:=by
  unfold mC;simp[mh,AU,iH,andThen]
 rw[this];rfl
theorem Sl.NM {s:St}{v:CV}{M:List bB}(c:Sl s [] v 2 (iY M)){i:Nat}(hi:i<M.length):∃b p,(∀s',cU 2 v (I i) s'= .ok (.ptr b p) s')/\aI 2 (.ptr b p) s= .ok (.agg (mC M[i])) s:=by
 obtain⟨b,p,l,t,g,q1,q2,q3,q4,q5⟩:=c.cellAt (L:=M.map mC) (by omega) (RO _) (i:=i) (by simpa using hi);have q6:=q5 0 (.str M[i].1) (by simp[mC]);have q7:=q5 1 (.str M[i].2) (by simp[mC]);rw[aBJ]at q6;refine⟨b,p,q1, ?_⟩;obtain⟨h1,h2⟩:=aBg.1 q6;obtain⟨h3,h4⟩:=aBg.1 q7
 have e:gX l p 2=some (mC M[i]):=by
  unfold gX;rw[aBb (by omega),aBj h1,aBj h3,h2,h4]
  rfl
 simp only[aI,q2,e]
set_option maxHeartbeats 2000000 in
theorem zP {τ:Nat}{π:PI}{A Lk:List bB}{T N fr:Nat}{s:St}(h:ln τ π s A Lk T N fr)(hl:A.length<=100000)(other:List UInt8)(Q:CV->St->Prop)(hQ:∀s',Kp [] s s'->Q (.bool true) s'):
 R 14 [(.ptr τ 0),(.str []),(.str [])] s fun Rf eh=>
 us (aA Rf 0 eh) fun VB=>
 us (aA Rf 1 eh) fun VA=>
 R 14 [(.ptr τ 0),(.str []),(.str other)] eh fun Vz fe=>
 us (aA Vz 0 fe) fun Z5=>
 us (aA Vz 1 fe) fun Vy=>
 R 14 [(.ptr τ 0),(.str other),(.str [])] fe fun Vx fZ=>
 us (aA Vx 0 fZ) fun Vw=>
 us (aA Vx 1 fZ) fun Mn=>
 ew (fun Cd cD=>
 us (aj .neq (some .int) true (aw 1 Cd) (.int .i64 0) cD) fun Re=>
 us (bg (al false Re) cD (.ok (aw 3 Cd) cD)) fun Z4=>
 us (bg (al false Re) cD (aj .neq (some .int) true Z4 (.int .i64 0) cD)) fun Z3=>
 us (bk Re (.bool true) Z3 cD) fun Cc=>
 us (bg (al false Cc) cD (.ok (aw 5 Cd) cD)) fun MV=>
 us (bg (al false Cc) cD (aj .neq (some .int) true MV (.int .i64 0) cD)) fun MU=>
 us (bk Cc (.bool true) MU cD) fun oL=>
 us (bg (al false oL) cD (.ok (aw 2 Cd) cD)) fun Kg=>
 us (bg (al false oL) cD (bo .slice Kg cD)) fun MT=>
 us (bg (al false oL) cD (.ok (aw 4 Cd) cD)) fun MS=>
 us (bg (al false oL) cD (bo .slice MS cD)) fun MR=>
 us (bg (al false oL) cD (aj .add (none) false MT MR cD)) fun sY=>
 us (bg (al false oL) cD (.ok (aw 0 Cd) cD)) fun MQ=>
 us (bg (al false oL) cD (bo .slice MQ cD)) fun MP=>
 us (bg (al false oL) cD (aj .neq (some .int) false sY MP cD)) fun MO=>
 us (bk oL (.bool true) MO cD) fun MN=>
 aB MN (
 Q (.bool false) cD) (
 ew (fun Ce kx=>
 dn (fun iu cC Ws=>
 us (bo .slice (aw 0 iu) cC) fun MM=>
 us (aj .lss (none) false (aw 3 iu) MM cC) fun ML=>
 aB ML (
 cn (
 us (bo .slice (aw 1 iu) cC) fun MK=>
 us (aj .lss (none) false (aw 3 iu) MK cC) fun mG=>
 us (bg (al true mG) cC (.ok (aw 0 iu) cC)) fun Kf=>
 us (bg (al true mG) cC (.ok (aw 3 iu) cC)) fun MJ=>
 us (bg (al true mG) cC (cU 2 Kf MJ cC)) fun MI=>
 us (bg (al true mG) cC (aI 2 MI cC)) fun MH=>
 us (bg (al true mG) cC (.ok (aw 1 iu) cC)) fun MG=>
 us (bg (al true mG) cC (.ok (aw 3 iu) cC)) fun Rk=>
 us (bg (al true mG) cC (cU 2 MG Rk cC)) fun MF=>
 us (bg (al true mG) cC (aI 2 MF cC)) fun Rj=>
 us (bg (al true mG) cC (aj .neq (some (.struct (.cons 0 1 false .str (.cons 1 1 false .str .nil)))) false MH Rj cC)) fun ME=>
 us (bk mG ME (.bool false) cC) fun qU=>
 us (bg (al false qU) cC (.ok (aw 3 iu) cC)) fun GX=>
 us (bg (al false qU) cC (.ok (aw 1 iu) cC)) fun MD=>
 us (bg (al false qU) cC (bo .slice MD cC)) fun MC=>
 us (bg (al false qU) cC (aj .geq (none) false GX MC cC)) fun MB=>
 us (bg (al false qU) cC (.ok MB cC)) fun j8=>
 us (bg (al true j8) cC (.ok (aw 0 iu) cC)) fun MA=>
 us (bg (al true j8) cC (.ok (aw 3 iu) cC)) fun Mz=>
 us (bg (al true j8) cC (cU 2 MA Mz cC)) fun My=>
 us (bg (al true j8) cC (aI 2 My cC)) fun Ke=>
 us (bg (al true j8) cC (.ok (aw 2 iu) cC)) fun Kd=>
 us (bg (al true j8) cC (.ok (aw 3 iu) cC)) fun Mx=>
 us (bg (al true j8) cC (.ok (aw 1 iu) cC)) fun Mw=>
 us (bg (al true j8) cC (bo .slice Mw cC)) fun Mv=>
 us (bg (al true j8) cC (aj .sub (none) false Mx Mv cC)) fun Mu=>
 us (bg (al true j8) cC (cU 2 Kd Mu cC)) fun Mt=>
 us (bg (al true j8) cC (aI 2 Mt cC)) fun Kc=>
 us (bg (al true j8) cC (aj .neq (some (.struct (.cons 0 1 false .str (.cons 1 1 false .str .nil)))) false Ke Kc cC)) fun Ms=>
 us (bg (al false qU) cC (bk j8 Ms (.bool false) cC)) fun Mr=>
 us (bk qU (.bool true) Mr cC) fun Mq=>
 ((True)/\(True)/\(True)/\(True)/\True)/\(True)/\
 aB Mq (
 Q (.bool false) cC) (
 us (aj .add (none) true (aw 3 iu) (.int .i64 1) cC) fun Mp=>
 Ws [(aw 0 iu),(aw 1 iu),(aw 2 iu),Mp] cC))) (
 Q (.bool true) cC)) [(aw 0 Ce),(aw 1 Ce),(aw 2 Ce),(aw 3 Ce)] kx) fun Wt=>
 Wt [(aw 0 Cd),(aw 2 Cd),(aw 4 Cd),(.int .i64 0)] cD)) fun Y9=>
 us (aj .eql (some .str) true (.str other) (.str []) fZ) fun Mo=>
 aB Mo (
 Y9 [VB,VA, .ae,Vy,Vw,Mn] fZ) (
 Y9 [VB,VA,Z5,Vy,Vw,Mn] fZ):=by
 have hs:=IT h;have Yx:∀s,aj .neq (some .int) true (I 0) (.int .i64 0) s= .ok (.bool false) s:=fun s=>rfl;refine(xP h [] []).mono ?_;rintro _ eh ⟨xa,rfl,pI,Rb⟩;rw[aD,af,aJ,aD,af];refine(xP (h.still pI) [] other).mono ?_;rintro _ fe ⟨xl,rfl,zd,c14⟩;rw[aD,af,aJ,aD,af];have t14:=(h.still pI).still zd;refine(xP t14 other []).mono ?_;rintro _ fZ ⟨xr,rfl,nQ,c15⟩;rw[aD,af,aJ,aD,af];rw[JW]at Rb;have cA:=(Rb.mono zd).mono nQ;have cL:=c14.mono nQ;have K:Kp [] s fZ:=(pI.trans zd (by simp)).trans nQ (by simp);refine jU (fun vs s'=>∃XL Lf,vs=[xa,I 0,XL,I 0,xr,I 0]/\s'=fZ/\Sl fZ [] XL 2 (iY Lf)/\Lf++A.filter (xu other [])=A) ?_ ?_
 ·intro Y9 acH;have eo:aj .eql (some .str) true (.str other) (.str []) fZ= .ok (.bool (decide (other=[]))) fZ:=by rw[eT,ph]
  rw[eo,af,ag]
  by_cases ho:other=[]
  ·rw[aBc ho,aBb rfl];refine acH _ _ ⟨.ae,[],rfl,rfl, .inl ⟨rfl,rfl⟩, ?_⟩;rw[ho,JW];rfl
  ·rw[aAW ho,aAZ (by decide)];exact acH _ _ ⟨xl,_,rfl,rfl,cL,X5 hs ho⟩
 ·rintro _ _ ⟨XL,Lf,rfl,rfl,cF,hLf⟩;rename_i fZ;generalize hRt:A.filter (xu other [])=Rt at*;have hlen:Lf.length+Rt.length=A.length:=by rw[<-hLf,aAY]
  simp only[aK,aL];simp only[Yx,af,aG,aBk,aAR,aBf,bh,aF];rw[cF.len Lf.length (iy _) (by omega),af,c15.len Rt.length (iy _) (by omega),af];have aow:aj .add none false (I Lf.length) (I Rt.length) fZ= .ok (I A.length) fZ:=by rw[av,cN,bD (by omega)];congr 2;omega
  rw[aow,af,cA.len A.length (iy _) (by omega),af];have aov:aj .neq (some .int) false (I A.length) (I A.length) fZ= .ok (.bool false) fZ:=by rw[av,fj,aBc rfl];rfl
  rw[aov,af,ag,aAZ (by decide),db];simp only[aK,aL];refine bM (fun fu vs s=>∃i,fu+i=A.length/\vs=[xa,XL,xr,I i]/\s=fZ) ?_ (n:=A.length) ⟨0,rfl,rfl,rfl⟩;rintro fu vs s' K' ⟨i,hi,rfl,rfl⟩ next;simp only[aK,aL];rw[cA.len A.length (iy _) (by omega),af,dM,af,ag]
  by_cases hc:i<A.length
  ·rw[aBc hc,aBb rfl,bG,cF.len Lf.length (iy _) (by omega),af,dM,af];obtain⟨ba,pa,a1,a2⟩:=cA.NM hc
   by_cases ur:i<Lf.length
   ·obtain⟨bl,pl,l1,l2⟩:=cF.NM ur;have JE:A[i]=Lf[i]:=by subst hLf;exact List.getElem_append_left ur
    rw[JE]at a2;have Yv:aj .geq none false (I i) (I Lf.length) s'= .ok (.bool false) s':=by rw[av,rl,aAW (by omega)]
    simp only[aBc ur,aG,aBr,bh,af,a1,a2,l1,l2,I5,aF,aBk,aAR,aBf,cF.len Lf.length (iy _) (by omega),Yv,cc];refine⟨⟨trivial,trivial,trivial,trivial,trivial⟩,trivial, ?_⟩;rw[ag,aAZ (by decide),ik i (by omega),af];exact next (fu-1) _ _ (by omega) ⟨i+1,by omega,rfl,rfl⟩
   ·have hj:i-Lf.length<Rt.length:=by omega
    obtain⟨bl,pl,l1,l2⟩:=c15.NM hj;have JE:A[i]=Rt[i-Lf.length]:=by subst hLf;exact List.getElem_append_right (by omega)
    rw[JE]at a2;have Yv:aj .geq none false (I i) (I Lf.length) s'= .ok (.bool true) s':=by rw[av,rl,aBc (by omega)]
    have aou:aj .sub none false (I i) (I Lf.length) s'= .ok (I ((i-Lf.length:Nat):Int)) s':=by rw[av,dJ,bD (by omega)];congr 2;omega
    simp only[aAW ur,aG,aBr,bh,af,a1,a2,l1,l2,I5,aF,aBk,aAR,aBf,cF.len Lf.length (iy _) (by omega),Yv,aou,cc];refine⟨⟨trivial,trivial,trivial,trivial,trivial⟩,trivial, ?_⟩;rw[ag,aAZ (by decide),ik i (by omega),af];exact next (fu-1) _ _ (by omega) ⟨i+1,by omega,rfl,rfl⟩
  ·rw[aAW hc,aAZ (by decide)];exact hQ _ K
def aeU (mT:St)(v:CV)(S:List StepP)(k vv other:List UInt8)(τ:Nat)(π:PI)(fu:Nat)(vs:List CV)(s:St):Prop:=∃(i:Nat) (L:List bB) (fr:Nat),fu+i=S.length/\vs=[v, .str k, .str vv, .str other, .ptr τ 0,I i]/\ln τ π s L [] 0 1500 fr/\L.length<=i/\wJ s v S/\(∀b∈nL v,b∉own τ π)/\∀b∈nL v,s.mem.get b=mT.mem.get b
def GC (v:CV)(st:St)(y:CV)(st':St):Prop:=y= .bool true/\∀b∈nL v,st'.mem.get b=st.mem.get b
set_option maxHeartbeats 2000000 in
theorem YF (hW:∀s,cT s->R 8 [] s fun y s'=>y= .bool true/\Kp [] s s'){v:CV}{S:List StepP}(h:wJ st v S)(hf:cT st)(hl:S.length<=9223372036854775807)(hb:∀p∈S,p.size<=281474976710656)(k vv other:List UInt8):R 3 [v, .str k, .str vv, .str other] st (GC v st):=by
 refine bO ?_;rw[w3];refine(hW st hf).mono ?_;rintro _ s1 ⟨rfl,k1⟩;have QQ:=k1.fresh hf;have h1:=h.keep k1 (by simp);have e48:∀(l:List UInt8) s,aj .gtr none true (I l.length) (.int .i64 48) s= .ok (.bool (decide (48<l.length))) s:=fun l s=>by rw[av,dj];congr 2;simp only[aBu];omega
 have e81:∀(l:List UInt8) s,aj .gtr none true (I l.length) (.int .i64 8192) s= .ok (.bool (decide (8192<l.length))) s:=fun l s=>by rw[av,dj];congr 2;simp only[aBu];omega
 rw[du,af,aBm,aG];simp only[aAR,aBf,aBk,bh,af,ea];refine(aaT h1 hl hb).mono ?_;rintro _ _ ⟨bb,rfl,rfl,hsz⟩;rename_i s1
 have fin:R 8 [] s1 (GC v st):=by
  refine(hW s1 QQ).mono ?_;rintro _ s2 ⟨rfl,k2⟩;exact⟨rfl,fun b hb=>(k2.keep b (h1.lt b hb) (by simp)).trans (k1.keep b (h.lt b hb) (by simp))⟩
 simp only[aF,aAR,aBf,af,aG];cases bb with
 |true=>
  simp only[aBm,aAR,aBf,aBr,cc,af,aF,aG,ag];exact fin
 |false=>
 obtain⟨Tc,h40⟩:=hsz rfl;simp only[aBk,aAR,aBf,aBr,bh,af,fh,e48,e81,aF]
 by_cases g1:48<k.length
 ·simp only[aBc g1,aG,aBm,aAR,aBf,aBr,cc,af,aF,ag];exact fin
 simp only[aAW g1,aG,aBk,aAR,aBf,bh,af,fh,e48,e81,aF]
 by_cases g2:8192<vv.length
 ·simp only[aBc g2,aG,aBm,aAR,aBf,aBr,cc,af,aF,ag];exact fin
 simp only[aAW g2,aG,aBk,aAR,aBf,bh,af,fh,e48,e81,aF]
 by_cases g3:48<other.length
 ·simp only[aBc g3,ag,aBr];exact fin
 simp only[aAW g3,ag,aAR,aBf];refine(show R 10 [.int .i64 1500] s1 _ from Tk (n:=1500) (by omega) (by omega) QQ).mono ?_;rintro _ s2 ⟨π,τ,fr,rfl,k2,vx,ht⟩;rw[aD,af,aJ,aD,af,aJ,aJ,aD,af,db];simp only[aK,aL];have Pb:=h1.lt;refine bM (aeU st v S k vv other τ π) ?_ (n:=S.length) ⟨0,[],fr,rfl,rfl,ht,by simp,h1.keep k2 (by simp),fun b hb hh=>by have:=Pb b hb;have:=vx b hh;omega,fun b hb=>(k2.keep b (Pb b hb) (by simp)).trans (k1.keep b (h.lt b hb) (by simp))⟩;rintro fu vs s K ⟨i,L,fr,hi,rfl,ht,hL,hA,ZD,FI⟩ next;simp only[aK,aL];rw[hA.len,af,dM,af,ag]
 by_cases hc:i<S.length
 ·rw[aBc hc,aBb rfl];obtain⟨b,p,l,o0,q1,q2,q3,q4,q5⟩:=hA.at' hc;have auY:S[i].key.length+S[i].val.length<=40000:=h40 _ (aBq hc);have a0:=q5 0 (I S[i].kind) rfl;have a1:=q5 1 (.str S[i].key) rfl;unfold abt;rw[q1,af,ah,af,az,q3,wh,a0,au];have ek:aj .eql (some .int) true (I S[i].kind) (.int .i64 0) s= .ok (.bool (decide (S[i].kind=0))) s:=by rw[av,cB]
  rw[ek,af,ag]
  by_cases h0:S[i].kind=0
  ·rw[aBc h0,aBb rfl,bG,af,ah,af,az,q3,wh,a1,au,af,qX,q3,wh,q4,NV];refine(Rl (by omega)).mono ?_;rintro _ s4 ⟨k4,val,rfl,hs⟩;have t4:=ht.still k4;refine(TQ t4 S[i].key val).mono ?_;rintro y s6 hy;unfold TD at hy;obtain⟨⟨kf,hnw⟩,hy,fr',t6⟩:=hy;have hA4:=hA.keep k4 (by simp);have hA6:=hA4.keep kf ZD;refine⟨⟨⟨?_,trivial⟩,trivial,trivial⟩,trivial, ?_⟩
   ·rw[az,k4.keep b q2 (by simp),q3,wh,a1,au]
   rw[ik i (by omega),af];refine next (fu-1) _ _ (by omega) ⟨i+1,_,fr',by omega,rfl,t6, ?_,hA6,ZD,fun q hq=> ?_⟩
   ·have:=Ez L S[i].key val
    split
    ·omega
    ·split<;>omega
   ·exact(kf.keep q (hA4.lt q hq) (ZD q hq)).trans ((k4.keep q (hA.lt q hq) (by simp)).trans (FI q hq))
  ·rw[aAW h0,aAZ (by decide),ik i (by omega),af];exact next (fu-1) _ _ (by omega) ⟨i+1,L,fr,by omega,rfl,ht,by omega,hA,ZD,FI⟩
 ·rw[aAW hc,aAZ (by decide)];have hsL:=IT ht;have Yx:∀s,aj .neq (some .int) true (I 0) (.int .i64 0) s= .ok (.bool false) s:=fun s=>rfl;have e0q:∀s,aj .eql (some .int) true (I 0) (.int .i64 0) s= .ok (.bool true) s:=fun s=>rfl;refine(IP ht (by omega)).mono ?_;rintro _ s9 ⟨k9,rfl⟩;rw[aD,af,aJ,aD,af,aJ,aJ,aD,af];have t9:=ht.still k9;have hA9:=hA.keep k9 (by simp);refine(TQ t9 k vv).mono ?_;rintro y dd hy;unfold TD at hy;obtain⟨⟨kf,hnw⟩,hy,fr',t10⟩:=hy;have SF:∀b∈nL v,dd.mem.get b=st.mem.get b:=fun q hq=>(kf.keep q (hA9.lt q hq) (ZD q hq)).trans ((k9.keep q (hA.lt q hq) (by simp)).trans (FI q hq));have adX:=hA9.keep kf ZD;rw[aAZ (by omega)]at hy t10;rw[Yx,af,aG];simp only[aAR,aBf,aBk,bh,af]
  by_cases jy:fr<24+eJ vv.length
  ·rw[aBb jy]at hy;subst hy;have e3:aj .eql (some .int) true (I ((3:Nat):Int)) (.int .i64 3) dd= .ok (.bool true) dd:=rfl;rw[e3,af,aF,aAZ (by decide),af,ag,aBb rfl,e0q,af];exact⟨rfl,SF⟩
  rw[aAZ jy]at hy t10;subst hy;have e3:aj .eql (some .int) true (I ((0:Nat):Int)) (.int .i64 3) dd= .ok (.bool false) dd:=rfl;rw[e3,af,aF,aAZ (by decide),af,ag,aAZ (by decide)];refine(IP t10 (by omega)).mono ?_;rintro _ dm ⟨pJ,rfl⟩;rw[aD,af,aJ,aD,af,aJ,aJ,aD,af];refine(IP (t10.still pJ) (by omega)).mono ?_;rintro _ bY ⟨qI,rfl⟩;rw[aD,af,aJ,aD,af,aJ,aJ,aD,af];rw[tK];have e0n:aj .neq (some .int) true (I ((0:Nat):Int)) (.int .i64 0) bY= .ok (.bool false) bY:=rfl;rw[e0n,af];have key:∀(b:Bool),(k≠other->l5 (lC L k vv) other=l5 L other):=fun _ hk=>rI L k other vv hk;have qj:Kp [] dd bY:=pJ.trans qI (by simp);have t12:=t10.still qj;have hlp:=Ez L k vv;have aeA:∀s',Kp [] bY s'->GC v st (.bool true) s':=fun s' hk=>⟨rfl,fun q hq=>(hk.keep q (aBs (adX.lt q hq) qj.next) (by simp)).trans ((qj.keep q (adX.lt q hq) (by simp)).trans (SF q hq))⟩
  by_cases Zy:k=other
  ·simp only[Yx,aG,aBk,aAR,aBf,bh,af,aF,aDu,aCl,du,aBm,eT,nq,aBV,aBc Zy,cc,ag];exact zP t12 (by omega) other (GC v st) aeA
  ·have qM:=rI L k other vv Zy;rw[qM];simp only[Yx,aG,aBk,aAR,aBf,bh,af,aF,aDu,aCl,du,aBm,eT,nq,aBV,aAW Zy,cc,aBr];have e82:aj .neq (some .bool) false (.bool (l5 L other).isSome) (.bool (l5 L other).isSome) bY= .ok (.bool false) bY:=by cases (l5 L other).isSome<;>rfl
   rw[e82,af,ag,aAZ (by decide)];exact zP t12 (by omega) other (GC v st) aeA
end
theorem P5 {G:GM}{n0:aZ}(h0:G.cont G.root= .node n0)(hl:n0.leaf=true):∀(l:List cE) (h page:Nat) (lo:bZ) (hi:Option bZ) (Ll Lr:List bB) (ps:List Nat),Ctx G h l page lo hi Ll Lr ps->l=[]/\page=G.root:=by
 intro l
 induction l with
 |nil=>intro h page lo hi Ll Lr ps hc;exact⟨rfl,hc.1⟩
 |cons s l ih=>
  rintro h page lo hi Ll Lr ps ⟨kG,fw,xI,xH,nX,La,pa,Lb,pb,hc,hn,fp,_⟩;obtain⟨_,hp⟩:=ih _ _ _ _ _ _ _ hc;have h1:=hn.cont;rw[hp,h0]at h1;cases h1;rw[hl]at fp;cases fp
structure zZ (G:GM)(k F:Nat):Prop where
 root:G.root≠0
 leaf:∃n0,G.cont G.root= .node n0/\n0.leaf=true/\n0.cells.length=k
 free:G.ck=F
 fr:G.fr=[]
 aE:G.aE=1499
theorem zZ.path {G:GM}{k F:Nat}(h:zZ G k F){key:bZ}{f:cE}{rest:List cE}{L:List bB}(hp:jI G key f rest L):rest=[]/\f.page=G.root/\f.n.cells.length=k/\f.n.leaf=true/\f.at_<=f.n.cells.length:=by
 obtain⟨n0,h1,h2,h3⟩:=h.leaf;have nR:=hp.size.2.2.2.2;have fp:=hp.size.2.2.1;obtain⟨lo,hi,Ll,Lr,Lm,ps,q,hc,hn,_⟩:=hp;obtain⟨rfl,sG⟩:=P5 h1 h2 _ _ _ _ _ _ _ _ hc;have SZ:=hn.cont;rw[sG,h1]at SZ;cases SZ;exact⟨rfl,sG,h3,h2,nR⟩
theorem Oa {G:GM}(h:G.root=0){key:bZ}{f:cE}{L:List bB}(hp:jI G key f [] L):False:=by
 obtain⟨lo,hi,Ll,Lr,Lm,ps,q,hc,hn,_⟩:=hp;have h1:f.page=G.root:=hc.1;have h2:=hn.bL.1;omega
section
variable {τ:Nat} {π:PI} {st st':St}
theorem aiL {G:GM}{key v:List UInt8}{L:List bB}{y:CV}{F:Nat}(h:Qk τ π G key v L st y st')(hr:G.root=0)(jy:G.fr=[])(hf:G.ck=F+1+eJ v.length)(hp:G.aE=1499):y=I 0/\Kp π.W st st'/\∃G',Tg τ π st' G'/\fv G' (lC L key v)/\zZ G' 1 F/\G'.aE=G.aE:=by
 obtain⟨rfl,k,G2,c,pc,G',hl,hk,vU,t,o,⟨_,rfl⟩|⟨f,Mb,_⟩⟩:=h
 ·have h1:=hl.free;have ha:=qu hl.ok (by omega);have h2:=ha.free;have h3:=BV G2;have h4:=hl.frl;rw[jy]at h4;have h5:=ha.pos;have h6:=ha.aE;have h7:=hl.aE;refine⟨rfl,k,_,t,o,⟨?_,⟨cR [c],jP _ _ _,rfl,rfl⟩, ?_, ?_, ?_⟩, ?_⟩
  ·show G2.dG≠0;omega
  ·show G2.alloc.ck=F;omega
  ·show G2.alloc.fr=[];exact aBn.1 (by simp at h4;rw[h4]at h3;simpa using h3)
  ·show G2.alloc.aE=1499;omega
  ·show G2.alloc.aE=G.aE;omega
 ·exact(Oa hr Mb).elim
theorem aiK {G:GM}{key v:List UInt8}{L:List bB}{y:CV}{F m:Nat}(h:Qk τ π G key v L st y st')(wy:zZ G m (F+eJ v.length)):y=I 0/\Kp π.W st st'/\∃G',Tg τ π st' G'/\fv G' (lC L key v)/\zZ G' (m+1) F/\G'.aE=G.aE:=by
 obtain⟨rfl,k,G2,c,pc,G',hl,hk,vU,t,o,⟨h0,_⟩|⟨f,Mb,rfl⟩⟩:=h
 ·exact absurd h0 wy.root
 ·obtain⟨_,sG,oF,fp,nR⟩:=wy.path Mb;have h1:=hl.free;have h2:=wy.free;have h4:=hl.frl;rw[wy.fr]at h4;have h7:=hl.aE;have h8:=wy.aE;have h9:=hl.root;refine⟨rfl,k,_,t,o,⟨?_,⟨cR (f.n.cells.take f.at_++([c]++f.n.cells.drop (f.at_+0))), ?_,rfl, ?_⟩, ?_, ?_, ?_⟩, ?_⟩
  ·show G2.root≠0;rw[h9];exact wy.root
  ·show(G2.put f.page _).cont G2.root=_;rw[h9,<-sG];exact jP _ _ _
  ·unfold cR;simp only[aAY,aBh,aBo,aBt,aCu];omega
  ·show G2.ck=F;omega
  ·show G2.fr=[];exact aBn.1 (by simpa using h4)
  ·show G2.aE=1499;omega
  ·show G2.aE=G.aE;omega
theorem zH (ps:List Nat):∀G:GM,(fV G ps).used=G.used/\(fV G ps).aE=G.aE:=by
 induction ps with
 |nil=>intro G;exact⟨rfl,rfl⟩
 |cons p r ih=>intro G;exact ih (G.drop p)
theorem aox {G:GM}{key w:List UInt8}{L:List bB}{y:CV}{F:Nat}(h:Qr τ π G key L st y st')(wy:zZ G 2 F)(hw:l5 L key=some w)(WE:w.length=1000)(lj:∀f,jI G key f [] L->∀c,f.n.cells[f.at_]?=some c->c.ok true):y= .tuple [.bool true,I 0]/\Kp π.W st st'/\∃G',Tg τ π st' G'/\fv G' (AS L key)/\G'.ck=F+3/\G'.used=G.used/\G'.aE=G.aE:=by
 obtain⟨rfl,k,w',po,f,hg,Mb,c,hc,hv,tI,t,o⟩:=h;rw[hw]at hg;cases hg
 have h3:po.length=3:=by
  rcases hv with⟨h1,h2,_⟩|⟨_,_,_,_,hch⟩
  ·have:=((lj f Mb c hc).short rfl h1).2;rw[<-h2]at this;omega
  ·have:=hch.len;omega
 have h2:=wy.free;refine⟨rfl,k,_,t,o, ?_,(zH po G).1,(zH po G).2⟩;show(fV G po).ck=F+3;omega
theorem Rq {G:GM}{k F:Nat}(h:zZ G k F)(ho:tP G):G.used+F=1499:=by
 have h1:=h.free;have h2:=h.aE;have h3:=ho.jF;unfold GM.ck at h1;rw[h.fr]at h1;simp at h1;omega
theorem Py {n:Nat}(h1:64<=n)(h2:n<=8000)(hf:cT st):R 10 [I n] st fun v st'=>∃π τ,v= .tuple [.ptr π.a 0, .ptr π.p 0, .ptr τ 0]/\Kp [] st st'/\(∀b∈own τ π,st.next<=b)/\JZ τ π st' (ZW (n-1-n/4)) (ZW (n-1-n/4)) [] [] 0 n:=by
 refine bO ?_;rw[w10];refine(Oc (by omega) (by omega)).mono ?_;rintro _ s1 ⟨k1,a,F,rfl,hd,hF⟩;rw[aD,af,aJ,aD,af];have e2:∀s,aj .neq (some .int) true (I 0) (.int .i64 0) s= .ok (.bool false) s:=fun s=>rfl;rw[e2,af,ag,aAZ (by decide)];have hl:(nJ (List.replicate n iN)).ay.length=n:=by show(List.replicate n iN).length=n;simp
 have hz:∀i,i<(nJ (List.replicate n iN)).ay.length->(nJ (List.replicate n iN)).cur i=iN:=fun i hi=>by
  rw[hl]at hi;unfold aV.cur;rw[show(nJ (List.replicate n iN)).waits=[]from rfl,ug];show(List.replicate n iN).getD i []=iN;simp[aCO,hi]
 refine(BI hd (k1.fresh hf) ⟨rfl,rfl⟩ rfl (by omega) hz).mono ?_;rintro _ s2 ⟨π,rfl,rfl,hp,hk,k2,fP,Sx,hc,hlen,r,hlr,hr⟩;rw[aD,af,aJ,aD,af];rw[e2,af,ag,aAZ (by decide)];rw[hl]at hp hk;have K2:Kp [] st s2:=k1.trans k2 fun q hq=> .inr (hF q hq);refine(TS (N:=n) (Lk:=[]) hp (K2.fresh hf) hk (TP _ (by omega) (by omega)) hc (hlen.trans hl)).mono ?_;rintro _ s3 ⟨τ,rfl,hτ,k3,ht⟩;have n1:=k1.next;have n2:=K2.next;refine⟨π,τ,rfl,K2.trans k3 (by simp),fun b hb=> ?_,ht⟩;unfold own at hb;rw[hlr]at hb;rcases aAX.1 hb with h|h
 ·omega
 ·rcases aBe.1 h with h|h
  ·have h:b=r:=by simpa using h
   omega
  ·rcases fP b h with h2|h2
   ·exact hF b h2
   ·omega
end
section
variable {st st':St}
def kA:bZ:=[97]
def kB:bZ:=[98]
def uE:List UInt8:=List.replicate 1000 0
theorem kAB:dW kA kB:=by decide
theorem kBA:¬dW kB kA:=by decide
def Lw:List bB:=lC (lC [] kB [49]) kA uE
theorem aeQ:Lw=[(kA,uE),(kB,[49])]:=by
 unfold Lw lC;simp[kAB,kBA]
theorem Qn:Lw.filter (xu kA kB)=[(kA,uE)]:=by
 have h1:xu kA kB (kA,uE)=true:=by rw[zO];simp[ju,gS kA,kAB]
 have h2:xu kA kB (kB,[49])=false:=by
  rw[zO];have:dW kB kB↔False:=iff_false_intro (gS kB);have hk:kB≠[]:=by decide
  simp[this,hk]
 rw[aeQ,aCe,h1,aBb rfl,aCe,h2,aAZ (by decide),List.filter_nil]
theorem NL {G:GM}(hu:G.used=1){key:bZ}{f:cE}{rest:List cE}{L:List bB}(hp:jI G key f rest L):False:=by
 obtain⟨lo,hi,Ll,Lr,Lm,ps,q,hc,hn,_⟩:=hp;have h2:=hn.bL.1;have h3:=hn.bL.2.1;omega
set_option maxHeartbeats 2000000 in
theorem VF (hf:cT st):R 8 [] st fun y st'=>y= .bool true/\Kp [] st st':=by
 refine bO ?_;rw[w8];refine(show R 10 [.int .i64 2000] st _ from Py (n:=2000) (by omega) (by omega) hf).mono ?_;rintro _ s1 ⟨π,τ,rfl,k1,vx,t1⟩;rw[aD,af,aJ,aD,af,aJ,aJ,aD,af,cX,af,aG];simp only[aAR,aBf,aBk,bh,af,ea];have p49:eJ ([49]:List UInt8).length=0:=rfl;have pV:eJ uE.length=3:=by unfold uE;rw[aBz];rfl
 have Sm:uE.length=1000:=by unfold uE;exact aBz
 have f0:(ZW (2000-1-2000/4)).ck=1498:=rfl;refine(IK t1.tg t1.ok kB [49] (by decide) (by decide) (by rw[p49,f0];omega) rfl (fun f rest hp=>(NL rfl hp).elim)).mono ?_;intro y1 s2 h2;obtain⟨rfl,k2,G1,tg1,V7,lo1,Zs⟩:=aiL (F:=1497) h2 rfl rfl (by rw[p49,f0]) rfl;obtain⟨t2,fr2⟩:=t1.to k2 tg1 V7 Zs;have e0:∀s,aj .neq (some .int) true (I 0) (.int .i64 0) s= .ok (.bool false) s:=fun s=>rfl;have q0:∀s,aj .eql (some .int) true (I 0) (.int .i64 0) s= .ok (.bool true) s:=fun s=>rfl;have K2:Kp [] st s2:=k1.trans fr2.1 fun q hq=> .inr (vx q hq);have emk:=yO (n:=1000) (by omega) s2;have Yt:pk 5 1 [.int .u8 0] (.int .i64 1000) (.int .i64 1000) s2= .ok (.slice s2.next 0 1000 1000 0) (St.new s2 (.cells (ai (List.replicate 1000 0)) 5 false)):=emk;simp only[e0,af,aF,aAR,aBf,aG,aBk,bh];rw[Yt,aT];have k3:Kp [] s2 (St.new s2 (.cells (ai (List.replicate 1000 0)) 5 false)):=(Kp.refl [] s2).new _;have g3:(St.new s2 (.cells (ai (List.replicate 1000 0)) 5 false)).mem.get s2.next=some (.cells (ai (List.replicate 1000 0)) 5 false):=aq _ _;have n3:(St.new s2 (.cells (ai (List.replicate 1000 0)) 5 false)).next=s2.next+1:=rfl;generalize St.new s2 (.cells (ai (List.replicate 1000 0)) 5 false)=s3 at*;have sl3:Sl s3 [] (.slice s2.next 0 1000 1000 0) 1 (ai uE):= .inr ⟨s2.next,0,1000,1000,0,rfl,by rw[bF,Sm],⟨aAU _, .inl rfl⟩, .inr ⟨by simp,by omega,_,_,_,g3,by rw[bF,aBz];omega,by rw[aBx,aBa (by rw[bF,aBz];omega)];rfl⟩⟩;rw[sl3.str,af,ea];have t3:=t2.still k3;have K3:Kp [] st s3:=K2.trans k3 (by simp);refine(IK t3.tg t3.ok kA uE (by decide) (by rw[Sm];omega) (by rw[pV,lo1.free];omega) ?_ (fun f rest hp=>⟨(lo1.path hp).1,by rw[(lo1.path hp).2.2.1];omega⟩)).mono ?_
 ·have:lC [] kB [49]=[(kB,[49])]:=rfl;rw[this]
  rfl
 intro y2 s4 h4;obtain⟨rfl,k4,G2,tg2,V6,yW,HY⟩:=aiK (F:=1494) (m:=1) h4 (by rw[pV];exact lo1);obtain⟨t4,fr4⟩:=t3.to k4 tg2 V6 HY;have K4:Kp [] st s4:=K3.trans fr4.1 fun q hq=> .inr (vx q hq);simp only[e0,af,aF,aAR,aBf,aG,aBk,bh,ea];have Ur:=Rq yW V6.ok;refine(Ea t4 (by omega) (by omega) (by omega)).mono ?_;rintro _ s5 ⟨rfl,π5,ea5,⟨kf5,Zv⟩,t5⟩
 have UF:∀b∈own τ π5,st.next<=b:=fun b hb=>by
  rcases Zv b hb with h|h
  ·exact vx b h
  ·have:=K4.next;omega
 have K5:Kp [] st s5:=K4.trans kf5 fun q hq=> .inr (vx q hq);simp only[e0,af,aF,aAR,aBf,aG,aBk,bh,ea];refine(M9 t5).same ?_;have e22:aj .neq (some .int) true (I G2.ck) (.int .i64 1494) s5= .ok (.bool false) s5:=by rw[yW.free];rfl
 simp only[e22,af,aF,aAR,aBf,ag];rw[<-ea5];refine(VL t5 (by omega)).mono ?_;rintro _ s6 ⟨π6,rfl,ea6,hp6,hf6,alu,hc6,acA,k6,adC,r6,alo,hr6⟩;have K6:Kp [] st s6:=K5.trans k6 fun q hq=> .inr (UF q (sC (by unfold PI.all;simp[hq])));rw[aD,af,aJ,aD,af,e0,af,ag,aAZ (by decide)];refine(TS (N:=2000) hp6 hf6 alu t5.Y5 hc6 acA).mono ?_;rintro _ s7 ⟨τ7,rfl,hτ7,k7,t7⟩;have K7:Kp [] st s7:=K6.trans k7 (by simp);have n5:=K5.next;have n6:=K6.next
 have UE:∀b∈own τ7 π6,st.next<=b:=fun b hb=>by
  unfold own at hb;rw[alo]at hb;rcases aAX.1 hb with h|h
  ·omega
  ·rcases aBe.1 h with h|h
   ·have h:b=r6:=by simpa using h
    omega
   ·rcases adC b h with h2|h2
    ·exact UF b (sC (by unfold PI.all;simp[h2]))
    ·omega
 have hgA:l5 (lC (lC [] kB [49]) kA uE) kA=some uE:=tK _ _ _;refine(IP t7.two (key:=kA) (by decide)).mono ?_;rintro _ s8 ⟨k8,rfl⟩;rw[hgA];rw[aD,af,aJ,aD,af,aJ,aJ,aD,af];have t8:=t7.still k8;refine(xP t8.two kA kB).mono ?_;rintro _ s9 ⟨xr,rfl,k9,c9⟩;have hLw:lC (lC [] kB [49]) kA uE=Lw:=rfl;rw[hLw,Qn]at c9;rw[aD,af,aJ,aD,af];have t9:=t8.still k9;have K9:Kp [] st s9:=(K7.trans k8 (by simp)).trans k9 (by simp);refine(RC t9.tg t9.ok kA (by decide) (by rw[yW.free];omega) (fun f rest hp=>⟨(yW.path hp).1,(yW.path hp).2.2.1⟩) yW.root (by rw[hgA];rfl)).mono ?_;intro y3 dd FO
 obtain⟨rfl,qj,G3,tg3,ok3,aez,aoU,Zr⟩:=aox (F:=1494) FO yW hgA Sm (fun f hp c hc=>by
  obtain⟨oF,pD,fp,nR,wz⟩:=hp.size;have:=pD.cell c (aBO hc)
  rwa [fp]at this)
 obtain⟨t10,aoh⟩:=t9.to qj tg3 ok3 Zr;have K10:Kp [] st dd:=K9.trans aoh.1 fun q hq=> .inr (UE q hq);have hlx:bo .slice xr dd= .ok (I ((1:Nat):Int)) dd:=c9.len 1 (by rw[iy];rfl) (by omega) dd;have e44:∀s,aj .eql (some .int) true (I uE.length) (.int .i64 1000) s= .ok (.bool true) s:=fun s=>by rw[Sm];rfl
 have e51:∀s,aj .eql (some .int) true (I ((1:Nat):Int)) (.int .i64 1) s= .ok (.bool true) s:=fun s=>rfl;simp only[aD,aJ,af,q0,aG,aBr,bh,aF,aDu,aCl,fh,e44,hlx,e51,ea];refine(Ea t10 (by omega) (by omega) (by omega)).mono ?_;rintro _ dm ⟨rfl,π11,aym,⟨ajF,acj⟩,t11⟩;have K11:Kp [] st dm:=K10.trans ajF fun q hq=> .inr (UE q hq);simp only[af,q0,aG,aBr,bh,aF,ea];refine(M9 t11).same ?_;have e64:aj .eql (some .int) true (I G3.ck) (.int .i64 1497) dm= .ok (.bool true) dm:=by rw[aez];rfl
 rw[e64,af];exact⟨rfl,K11⟩
end
