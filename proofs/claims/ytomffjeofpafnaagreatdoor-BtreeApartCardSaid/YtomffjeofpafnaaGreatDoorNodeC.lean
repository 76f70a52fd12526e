import Derived.Test.YtomffjeofpafnaaGreatDoorNodeB
namespace Lim
open Go
noncomputable section
set_option maxRecDepth 100000
section
variable {st st':St}
theorem Nz (n:Nat)(z:List CV):(cO n z).length=n*z.length:=by
 unfold cO;rw[fA (w:=z.length) (by intro x hx;rw[List.eq_of_mem_replicate hx])];simp
theorem Ky (n:Nat)(z:List CV)(i:Nat)(h:i<=n):(cO n z).drop (i*z.length)=cO (n-i) z:=by
 unfold cO;rw[pE (w:=z.length) (by intro x hx;rw[List.eq_of_mem_replicate hx]) i (by simpa using h),aDc]
def tO (k e:Nat)(z:List CV)(n:Nat)(st:St)(x:CV)(st':St):Prop:=if n=0 then x= .ae/\st'=st else x= .slice st.next 0 0 n k/\st'=St.new st (.cells (cO n z) e true)
theorem Vc {k e bytes n:Nat}{z:List CV}(hk:0<k)(hz:z.length=k)(hn:n<=100000)(hb:bytes<=1000):
 us (bo .cap .ae st) fun x3=>us (bo .slice .ae st) fun x4=>us (aj .sub none false x3 x4 st) fun x5=>us (aj .sub none false (I n) x5 st) fun x6=>us (aj .gtr none true x6 (.int .i64 0) st) fun x7=>
  aB x7 (us (bo .cap .ae st) fun x8=>us (aN k .ae none (some x8) st) fun x9=>upon (bQ e k bytes x9 (dg .zeros k z x6 st) st) fun dx s2=>us (bo .slice .ae s2) fun dz=>us (aN k dx none (some dz) s2) fun dI=>tO k e z n st dI s2) (tO k e z n st .ae st):=by
 have e1:bo .cap .ae st= .ok (.int .i64 0) st:=rfl;have e2:∀s,bo .slice .ae s= .ok (.int .i64 0) s:=fun s=>rfl;have e3:aj .sub none false (.int .i64 0) (.int .i64 0) st= .ok (.int .i64 0) st:=rfl;have e4:aj .sub none false (I n) (.int .i64 0) st= .ok (I n) st:=by rw[av,dJ,bD (by omega)];congr 2
 have e5:aj .gtr none true (I n) (.int .i64 0) st= .ok (.bool (decide (0<n))) st:=by rw[av,dj];congr 2;simp only[aBu];omega
 have e6:aN k .ae none (some (.int .i64 0)) st= .ok .ae st:=rfl;simp only[e1,e2,e3,e4,e5,af,ag,e6]
 by_cases h0:n=0
 ·subst h0;rw[aAZ (by decide)];unfold tO;rw[aBb rfl];exact⟨rfl,rfl⟩
 ·rw[aBb (by simpa using Nat.pos_of_ne_zero h0)]
  have e7:dg .zeros k z (I n) st=some (n,cO n z):=by
   have:dg .zeros k z (I n) st=bC (Nat.ble n 1099511627776) (some (n,cO n z)) none:=rfl;rw[this,aM,aBb (by rw[aBy];omega)]
  have Fh:n*bytes<=100000*1000:=aDC hn hb
  have e8:bQ e k bytes .ae (some (n,cO n z)) st= .ok (.slice st.next 0 n n k) (St.new st (.cells (cO n z) e true)):=by
   have e:bQ e k bytes .ae (some (n,cO n z)) st=bC (Nat.beq n 0) (.ok .ae st) (bC (Bool.and (Nat.ble 1 k) (Bool.and (Nat.ble (Nat.mul n bytes) 140737488355328) (Nat.ble n 140737488355328)))
    (.ok (.slice st.next 0 n n k) ⟨st.mem.put st.next (some (.cells (cO n z) e true)),st.next+1⟩) .bad):=rfl
   rw[e];simp only[aM,aBB,aBp,aBy];rw[aAZ h0,aBb ⟨hk,aCq Fh (by omega),by omega⟩];rfl
  rw[e7,e8,aT]
  have e9:aN k (.slice st.next 0 n n k) none (some (.int .i64 0)) (St.new st (.cells (cO n z) e true))= .ok (.slice st.next 0 0 n k) (St.new st (.cells (cO n z) e true)):=by
   obtain⟨df,q1,q2⟩:=iZ (k:=k) (b:=st.next) (off:=0) (len:=n) (cap:=n) (grow:=k) (l:=0) (h:=0) (lo:=none) (hi:=some (I ((0:Nat):Int))) (st:=St.new st (.cells (cO n z) e true)) (by rw[sR,aBb (by omega)]) (aAU _) (.inr rfl);have:df=0:=by omega
   subst this;exact q1
  rw[e9,af];unfold tO;rw[aAZ h0];exact⟨rfl,rfl⟩
theorem Tf {n:Nat}(hn:n<=100000):R 189 [.ae,I n] st (tO 4 109 [.str [], .str [], .int .i64 0, .int .i64 0] n st):=by
 refine bO ?_;rw[agT];have e0:aj .lss none true (I n) (.int .i64 0) st= .ok (.bool false) st:=by rw[av,de,aAW (by omega)]
 rw[db,e0,af,ag,aAZ (by decide)];simp only[aK,aL];exact Vc (by omega) rfl hn (by omega)
theorem Te {n:Nat}(hn:n<=100000):R 190 [.ae,I n] st (tO 1 3 [.int .i64 0] n st):=by
 refine bO ?_;rw[agS];have e0:aj .lss none true (I n) (.int .i64 0) st= .ok (.bool false) st:=by rw[av,de,aAW (by omega)]
 rw[db,e0,af,ag,aAZ (by decide)];simp only[aK,aL];exact Vc (by omega) rfl hn (by omega)
def vS (st:St)(k:Nat):List CV->List (List CV)->Prop
 |[],[]=>True
 |v::vs,l::ls=>(Sl st [] v k l/\∃n,l.length=n*k/\n<=10000)/\vS st k vs ls
 |_,_=>False
theorem vS.mono {k:Nat}{vs:List CV}{Ls:List (List CV)}(h:vS st k vs Ls)(hk:Kp [] st st'):vS st' k vs Ls:=by
 induction vs generalizing Ls with
 |nil=>cases Ls with|nil=>trivial|cons l L=>exact h
 |cons v vs ih=>cases Ls with|nil=>exact h|cons l L=>exact⟨⟨h.1.1.mono hk,h.1.2⟩,ih h.2⟩
theorem vS.len {k:Nat}{vs:List CV}{Ls:List (List CV)}(h:vS st k vs Ls):vs.length=Ls.length:=by
 induction vs generalizing Ls with
 |nil=>cases Ls with|nil=>rfl|cons l L=>exact h.elim
 |cons v vs ih=>cases Ls with|nil=>exact h.elim|cons l L=>simp[ih h.2]
theorem vS.at {k:Nat}{vs:List CV}{Ls:List (List CV)}(h:vS st k vs Ls){i:Nat}(hi:i<vs.length):∃fw:i<Ls.length,Sl st [] vs[i] k Ls[i]/\∃n,Ls[i].length=n*k/\n<=10000:=by
 induction vs generalizing Ls i with
 |nil=>simp at hi
 |cons v vs ih=>
  cases Ls with
  |nil=>exact h.elim
  |cons l L=>
   cases i with
   |zero=>exact⟨by simp,h.1⟩
   |succ i=>obtain⟨a,b⟩:=ih h.2 (i:=i) (by simpa using hi);exact⟨by simp;omega,b⟩
def pO (k:Nat)(Ls:List (List CV))(i:Nat):Nat:=(Ls.take i).flatten.length/k
theorem vS.iV {k:Nat}(hk:0<k){vs:List CV}{Ls:List (List CV)}(h:vS st k vs Ls):∀i,(Ls.take i).flatten.length=pO k Ls i*k/\pO k Ls i<=10000*i:=by
 have key:∀(vs:List CV) (Ls:List (List CV)),vS st k vs Ls->∀i,∃m,(Ls.take i).flatten.length=m*k/\m<=10000*i:=by
  intro vs
  induction vs with
  |nil=>intro Ls h i;cases Ls with|nil=>exact⟨0,by simp⟩|cons l L=>exact h.elim
  |cons v vs ih=>
   intro Ls h i;cases Ls with
   |nil=>exact h.elim
   |cons l L=>
    cases i with
    |zero=>exact⟨0,by simp⟩
    |succ i=>
     obtain⟨m,h1,h2⟩:=ih L h.2 i;obtain⟨n,h3,h4⟩:=h.1.2;exact⟨n+m,by rw[aCP,aCo,aAY,h1,h3,aBZ],by omega⟩
 intro i;obtain⟨m,h1,h2⟩:=key vs Ls h i;have:pO k Ls i=m:=by unfold pO;rw[h1,Nat.mul_div_cancel _ hk]
 rw[this];exact⟨h1,h2⟩
def vR (s:St)(x:CV)(k e:Nat)(z:List CV)(b m n:Nat)(L:List CV):Prop:=
 L.length=m*k/\m<=n/\((n=0/\x= .ae)\/(0<n/\x= .slice b 0 m n k/\s.mem.get b=some (.cells (L++cO (n-m) z) e true)))
theorem vR.append {s:St}{x v:CV}{k e bytes:Nat}{z:List CV}{b m n j:Nat}{L T:List CV}(h:vR s x k e z b m n L)(hk:0<k)(hz:z.length=k)(hb:b<s.next\/n=0)(hv:Sl s [] v k T)(hT:T.length=j*k)(jS:aX T=true)(hj:m+j<=n):
 ∃x' s',bQ e k bytes x (dg .slice k z v s) s= .ok x' s'/\vR s' x' k e z b (m+j) n (L++T)/\s'.next=s.next/\(∀q,q≠b->s'.mem.get q=s.mem.get q):=by
 obtain⟨h1,h2,h3⟩:=h;obtain⟨j',q1,q2⟩:=hv.src z;have:j'=j:=aBX hk (by rw[<-q1,hT]);subst this;rw[q2];have hlen:(L++T).length=(m+j')*k:=by rw[aAY,h1,hT,aBZ]
 rcases h3 with⟨rfl,rfl⟩|⟨h4,rfl,h5⟩
 ·have:j'=0:=by omega
  subst this;exact⟨.ae,s,rfl,⟨hlen,hj, .inl ⟨rfl,rfl⟩⟩,rfl,fun _ _=>rfl⟩
 ·by_cases h0:j'=0
  ·subst h0;have hT0:T=[]:=aBn.1 (by omega);subst hT0;refine⟨.slice b 0 m n k,s, ?_,⟨by simpa using h1,h2, .inr ⟨h4,rfl,by simpa using h5⟩⟩,rfl,fun _ _=>rfl⟩;have e:bQ e k bytes (.slice b 0 m n k) (some (0,[])) s=bC (Nat.ble m n) (.ok (.slice b 0 m n k) s) .bad:=rfl;rw[e,aM,aBb (by rw[aBy];exact h2)]
  ·have e:bQ e k bytes (.slice b 0 m n k) (some (j',T)) s= .ok (.slice b 0 (m+j') n k) (St.set s b (.cells (bt (L++cO (n-m) z) (m*k) T) e true)):=by
    unfold bQ;simp only[aM,aBB,dE,aBy];rw[aAZ h0,aBb (show Nat.add m j'<=n from hj),h5];dsimp only
    have hl:dR (L++cO (n-m) z) (0+m*k) T=some (bt (L++cO (n-m) z) (m*k) T):=by
     unfold dR;rw[aAT,aBb]
     ·rfl
     ·rw[aAY,Nz,h1,hT,hz,<-aBZ,<-aBZ];exact aBM k (by omega)
    rw[jS,aBb rfl,hl];rfl
   refine⟨_,_,e,⟨hlen,hj, .inr ⟨h4,rfl, ?_⟩⟩,rfl,fun q hq=>ak _ _ _ _ hq⟩;rw[ao]
   congr 2
   rw[<-h1,pq,aBE]
   congr 2
   rw[hT,<-hz,Ky _ _ _ (by omega)]
   congr 1;omega
theorem JV {gr k e bytes:Nat}{z:List CV}{a0:CV}{vs:List CV}{Ls:List (List CV)}(hk:0<k)(hz:z.length=k)(hgr:∀(s:St) (n:Nat),n<=100000->R gr [.ae,I n] s (tO k e z n s))(ha:Sl st [] a0 1 vs)(h:vS st k vs Ls)(hl:vs.length<=9)(jS:∀l∈Ls,aX l=true):
 dn (fun v2 s2 k3=>us (aj .lss none false (aw 4 v2) (aw 3 v2) s2) fun x5=>aB x5 (Lim.idx 1 (aw 2 v2) (aw 4 v2) s2 fun x6=>us (bo .slice x6 s2) fun x7=>us (aj .add none false (aw 1 v2) x7 s2) fun x8=>us (aj .lss none true x8 (.int .i64 0) s2) fun x9=>
  aB x9 (us (uc 9 (.str [108,101,110,32,111,117,116,32,111,102,32,114,97,110,103,101]) s2) fun dx=>False) (us (aj .add none true (aw 4 v2) (.int .i64 1) s2) fun dz=>k3 [aw 0 v2,x8,aw 2 v2,aw 3 v2,dz] s2))
  (R gr [.ae,aw 1 v2] s2 fun dI s3=>ew (fun kX s4=>dn (fun fo s5 nQ=>us (aj .lss none false (aw 3 fo) (aw 2 fo) s5) fun eX=>aB eX (Lim.idx 1 (aw 1 fo) (aw 3 fo) s5 fun eD=>upon (bQ e k bytes (aw 0 fo) (dg .slice k z eD s5) s5) fun eH s6=>
   us (aj .add none true (aw 3 fo) (.int .i64 1) s6) fun eW=>nQ [eH,aw 1 fo,aw 2 fo,eW] s6) (Made k e Ls.flatten st (aw 0 fo) s5)) [aw 0 kX,aw 1 kX,aw 2 kX,aw 3 kX] s4) fun pI=>us (bo .slice (aw 0 v2) s3) fun eg=>pI [dI,aw 0 v2,eg, .int .i64 0] s3))
  [a0, .int .i64 0,a0,I vs.length, .int .i64 0] st:=by
 have UJ:=h.len
 refine bM (fun fu w s=>∃i,fu+i=vs.length/\w=[a0,I (pO k Ls i),a0,I vs.length,I i]/\s=st) ?_ (n:=vs.length) ⟨0,rfl,by
  have:pO k Ls 0=0:=by simp[pO]
  rw[this];rfl,rfl⟩
 rintro fu w s kk ⟨i,hi,rfl,rfl⟩ next;obtain⟨XX,QV⟩:=h.iV hk i;simp only[aK,aL,dM,af,ag]
 by_cases hc:i<vs.length
 ·rw[aBc hc,aBb rfl];refine ha.idx hc _ ?_;obtain⟨fw,hv,n,Dk,hn2⟩:=h.at hc;obtain⟨QS,GR⟩:=h.iV hk (i+1)
  have SZ:pO k Ls (i+1)=pO k Ls i+n:=by
   refine aBX hk ?_;rw[<-QS,aBl fw,aDq,aAY,XX,aBZ];simp[Dk]
  have e1:aj .add none false (I (pO k Ls i)) (I n) s= .ok (I (pO k Ls (i+1))) s:=by rw[av,cN,bD (by omega),SZ];rfl
  have e2:aj .lss none true (I (pO k Ls (i+1))) (.int .i64 0) s= .ok (.bool false) s:=by rw[av,de,aAW (by omega)]
  simp only[hv.len n Dk hk s,af,e1,e2,ag,aAR,aBf,ik i (by omega)];exact next (fu-1) _ _ (by omega) ⟨i+1,by omega,rfl,rfl⟩
 ·rw[aAW hc,aAZ (by decide)];have xf:Ls.take i=Ls:=aBa (by omega);rw[xf]at XX;refine(hgr s _ (by omega)).mono ?_;intro dI s3 hg;generalize hN:pO k Ls i=N at*
  have jf:Kp [] s s3:=by
   unfold tO at hg
   split at hg
   ·rw[hg.2];exact Kp.refl _ _
   ·rw[hg.2];exact(Kp.refl _ s).new _
  have hn3:s3.next=s.next+1\/N=0:=by
   unfold tO at hg
   split at hg
   ·rename_i h0;exact .inr h0
   ·rw[hg.2];exact .inl rfl
  have hF:vR s3 dI k e z s.next 0 N []:=by
   unfold tO at hg;refine⟨by simp,aDD _, ?_⟩
   split at hg
   ·rename_i h0;exact .inl ⟨h0,hg.1⟩
   ·rename_i h0;rw[hg.2];exact .inr ⟨by omega,hg.1,by simp⟩
  have JB:=(ha.mono jf).len vs.length (by omega) (by omega) s3;simp only[db,aK,aL,JB,af];refine bM (fun fu w s'=>∃i x,fu+i=vs.length/\w=[x,a0,I vs.length,I i]/\vR s' x k e z s.next (pO k Ls i) N (Ls.take i).flatten/\Kp [] s s'/\(s.next<s'.next\/N=0)) ?_ (n:=vs.length) ⟨0,dI,rfl,rfl,by simpa[pO]using hF,jf,by omega⟩;rintro fu w s' kk ⟨i,x,hi,rfl,Pp,lO,hlt⟩ next;simp only[aK,aL,dM,af,ag]
  by_cases zw:i<vs.length
  ·rw[aBc zw,aBb rfl];refine(ha.mono lO).idx zw _ ?_;obtain⟨fw,hv,n,Dk,hn2⟩:=(h.mono lO).at zw;obtain⟨Ik,_⟩:=h.iV hk i;obtain⟨QS,GR⟩:=h.iV hk (i+1)
   have SZ:pO k Ls (i+1)=pO k Ls i+n:=by
    refine aBX hk ?_;rw[<-QS,aBl fw,aDq,aAY,Ik,aBZ];simp[Dk]
   have hle:pO k Ls i+n<=N:=by
    rw[<-SZ];refine Nat.le_of_mul_le_mul_right ?_ hk;rw[<-QS,<-XX]
    conv=>rhs;rw[<-aBK (i+1) Ls]
    rw[aDq,aAY];omega
   obtain⟨x',s6,q1,q2,q3,q4⟩:=Pp.append (bytes:=bytes) hk hz hlt hv Dk (jS _ (aBq fw)) hle;rw[q1,aT,ik i (by omega),af];have e5:(Ls.take i).flatten++Ls[i]=(Ls.take (i+1)).flatten:=by rw[aBl fw,aDq];simp
   rw[e5,<-SZ]at q2;refine next (fu-1) _ _ (by omega) ⟨i+1,x',by omega,rfl,q2,⟨by rw[q3];exact lO.next,fun b hb Fh=>(q4 b (by omega)).trans (lO.keep b hb Fh),fun jy b hb=> ?_⟩,by rw[q3];exact hlt⟩;rw[q3]at hb;rcases hlt with hlt|hlt
   ·rw[q4 b (by omega)];exact lO.fresh jy b hb
   ·rcases Pp.2.2 with⟨_,rfl⟩|⟨h4,_⟩
    ·have:n=0:=by omega
     subst this;have hT0:Ls[i]=[]:=aBn.1 (by omega);obtain⟨j',r1,r2⟩:=hv.src z
     have:j'=0:=by
      have h9:j'*k=0:=by rw[<-r1,hT0];rfl
      rcases Nat.mul_eq_zero.1 h9 with h|h
      ·exact h
      ·omega
     subst this;rw[r2]at q1;cases q1;exact lO.fresh jy b hb
    ·omega
  ·rw[aAW zw,aAZ (by decide)];have ht:Ls.take i=Ls:=aBa (by omega);obtain⟨Ik,_⟩:=h.iV hk i;rw[ht]at Ik Pp;have hiN:pO k Ls i=N:=aBX hk (by rw[<-Ik,XX]);rw[hiN]at Pp;obtain⟨f1,f2,f3⟩:=Pp;rcases f3 with⟨h0,rfl⟩|⟨h0,rfl,f4⟩
   ·have:Ls.flatten=[]:=aBn.1 (by rw[f1,h0];simp);exact⟨[],lO, .inl ⟨rfl,this,rfl⟩,by simp⟩
   ·refine⟨[s.next],lO, .inr (.inr ⟨s.next,N,rfl,h0,f1,rfl, ?_⟩),fun b hb=> ?_⟩
    ·rw[f4];simp[cO]
    ·simp at hb;subst hb;omega
theorem BS {a0:CV}{vs:List CV}{Ls:List (List CV)}(ha:Sl st [] a0 1 vs)(h:vS st 4 vs Ls)(hl:vs.length<=9)(jS:∀l∈Ls,aX l=true):R 147 [a0] st (Made 4 109 Ls.flatten st):=by
 refine bO ?_;rw[ahz];have hlen:=ha.len vs.length (by omega) (by omega) st;have:=JV (gr:=189) (k:=4) (e:=109) (bytes:=48) (z:=[.str [], .str [], .int .i64 0, .int .i64 0]) (by omega) rfl (fun s n hn=>Tf hn) ha h hl jS;simp only[db,aK,aL,hlen,af]at this⊢;exact this
theorem LF {a0:CV}{vs:List CV}{Ls:List (List CV)}(ha:Sl st [] a0 1 vs)(h:vS st 1 vs Ls)(hl:vs.length<=9)(jS:∀l∈Ls,aX l=true):R 148 [a0] st (Made 1 3 Ls.flatten st):=by
 refine bO ?_;rw[ahy];have hlen:=ha.len vs.length (by omega) (by omega) st;have:=JV (gr:=190) (k:=1) (e:=3) (bytes:=8) (z:=[.int .i64 0]) (by omega) rfl (fun s n hn=>Te hn) ha h hl jS;simp only[db,aK,aL,hlen,af]at this⊢;exact this
end
section
variable {st st':St}
theorem jZ {l:List da}(h:l.length<=10000):∃n,(bj l).length=n*4/\n<=10000:=⟨l.length,br l,h⟩
theorem TJ {va vb:CV}{a b:aZ}{sep:bZ}(hf:cT st)(ha:IsNode st [] va a)(hb:IsNode st [] vb b)(h1:a.cells.length<=1000)(h2:b.cells.length<=1000)(h3:a.kids.length<=1001)(h4:b.kids.length<=1001):
 R 107 [va, .str sep,vb] st fun x st'=>Kp [] st st'/\∀X,(∀b∈X,b<st.next)->IsNode st' X x (dy a sep b):=by
 obtain⟨c1,d1,rfl,e1,f1⟩:=ha;obtain⟨c2,d2,rfl,e2,f2⟩:=hb;obtain⟨x1,x2,x3⟩:=e1.bu;obtain⟨y1,y2,y3⟩:=f1.bu;obtain⟨z1,z2,z3⟩:=e2.bu;obtain⟨w1,w2,w3⟩:=f2.bu;refine bO ?_;rw[aif];rw[cr,aU];refine⟨rfl, ?_⟩;have k1:Kp [] st (St.new st (.cells [.bool a.leaf,c1,d1] 105 false)):=(Kp.refl [] st).new _;have g1:(St.new st (.cells [.bool a.leaf,c1,d1] 105 false)).mem.get st.next=some (.cells [.bool a.leaf,c1,d1] 105 false):=aq _ _;have n1:(St.new st (.cells [.bool a.leaf,c1,d1] 105 false)).next=st.next+1:=rfl;generalize St.new st (.cells [.bool a.leaf,c1,d1] 105 false)=s1 at*;rw[cr,aU];refine⟨rfl, ?_⟩;have k2:Kp [] s1 (St.new s1 (.cells [.bool b.leaf,c2,d2] 105 false)):=(Kp.refl [] s1).new _;have g2:(St.new s1 (.cells [.bool b.leaf,c2,d2] 105 false)).mem.get s1.next=some (.cells [.bool b.leaf,c2,d2] 105 false):=aq _ _;have n2:(St.new s1 (.cells [.bool b.leaf,c2,d2] 105 false)).next=s1.next+1:=rfl;generalize St.new s1 (.cells [.bool b.leaf,c2,d2] 105 false)=s2 at*;have k3:Kp [] s2 (St.new s2 (.cells [.bool false, .ae, .ae] 105 false)):=(Kp.refl [] s2).new _;have g3:(St.new s2 (.cells [.bool false, .ae, .ae] 105 false)).mem.get s2.next=some (.cells [.bool false, .ae, .ae] 105 false):=aq _ _;have n3:(St.new s2 (.cells [.bool false, .ae, .ae] 105 false)).next=s2.next+1:=rfl;rw[cM,aT];generalize St.new s2 (.cells [.bool false, .ae, .ae] 105 false)=s3 at*;have nH:=(k3.keep st.next (by omega) (by simp)).trans ((k2.keep st.next (by omega) (by simp)).trans g1);have Ir:=(k3.keep s1.next (by omega) (by simp)).trans g2;have jf:Kp [] st s3:=(k1.trans k2 (by simp)).trans k3 (by simp);have kg:∀a b c:CV,bt [.bool false, .ae, .ae] 0 [a,b,c]=[a,b,c]:=fun a b c=>rfl;simp only[fl,ah,af,az,nH,ar,aAT,aAS,aAQ,au,ag];cases fp:a.leaf with
 |true=>
  have Mf:bT 102 2 (cO 2 [.ae]) [(0,1,c1),(1,1,c2)] s3= .ok (.slice s3.next 0 2 2 0) (St.new s3 (.cells [c1,c2] 102 false)):=by
   have e:fY [(0,1,c1),(1,1,c2)] (cO 2 [.ae])=some [c1,c2]:=by
    rw[cI,aBb ⟨⟨by rw[x3];rfl,x1⟩,by rw[x3];exact(by decide:0+1<=2)⟩,cI,aBb ⟨⟨by rw[z3];rfl,z1⟩,by rw[z3,x3];exact(by decide:1+1<=2)⟩,kJ,x3,z3];rfl
   unfold bT;rw[e];rfl
  simp only[aBr,Ir,ar,aAS,aAQ,au,Mf,aT];have k4:Kp [] s3 (St.new s3 (.cells [c1,c2] 102 false)):=(Kp.refl [] s3).new _;have g4:(St.new s3 (.cells [c1,c2] 102 false)).mem.get s3.next=some (.cells [c1,c2] 102 false):=aq _ _;have n4:(St.new s3 (.cells [c1,c2] 102 false)).next=s3.next+1:=rfl;generalize St.new s3 (.cells [c1,c2] 102 false)=s4 at*;have qK:Kp [] st s4:=jf.trans k4 (by simp);have kN:Sl s4 [] (.slice s3.next 0 2 2 0) 1 [c1,c2]:= .inr ⟨s3.next,0,2,2,0,rfl,rfl,⟨aAU _, .inl rfl⟩, .inr ⟨by simp,by omega,_,_,_,g4,by simp,rfl⟩⟩;refine(BS (Ls:=[bj a.cells,bj b.cells]) kN ⟨⟨e1.mono qK,jZ (by omega)⟩,⟨e2.mono qK,jZ (by omega)⟩,trivial⟩ (by simp) (by simp)).mono ?_;intro x8 s5 m5;have k5:=m5.kp;have n5:=k5.next;have g35:=(k5.keep s2.next (by omega) (by simp)).trans ((k4.keep s2.next (by omega) (by simp)).trans g3);obtain⟨F,a1,a2,a3⟩:=m5;obtain⟨p1,p2⟩:=a2.cq;have p3:x8.isAny=false:=(a2.sl (X:=[]) fun b hb=>⟨by simp,(a3 b hb).2⟩).bu.1
  have mP:bJ [.bool false, .ae, .ae] [(0,1, .bool true),(1,1,x8)] s5= .ok (.agg [.bool true,x8, .ae]) s5:=by
   rw[dO];simp[cI,bt,p2,p3]
  rw[mP,af,aH,g35,aS,aU,kg];refine⟨⟨rfl,by simp[p1],by simp⟩, ?_⟩;rw[aO (n:=3) (ao _ _ _) rfl,af];refine⟨(qK.trans k5 (by simp)).set _ (.inr (by omega)) (by omega),fun X hX=>⟨x8, .ae, ?_, ?_, .inl ⟨rfl, ?_⟩⟩⟩
  ·unfold dy;rw[aBb fp]
  ·have:bj (dy a sep b).cells=[bj a.cells,bj b.cells].flatten:=by unfold dy;rw[aBb fp,gj];simp
   rw[this];exact(a2.mono fun q hq=>ak _ _ _ _ (by have:=(a3 q hq).1;omega)).sl fun q hq=>⟨fun h=>by have:=hX q h;have:=(a3 q hq).1;have:=qK.next;omega,(a3 q hq).2⟩
  ·unfold dy;rw[aBb fp];rfl
 |false=>
  rw[aAZ (by decide),bG];have HP:Kp [] s3 (St.skip (St.skip (St.skip s3))):=((Kp.refl _ s3).skip).skip.skip;have jy:=jf.fresh hf;have gm:∀q,(St.skip (St.skip (St.skip s3))).mem.get q=s3.mem.get q:=fun q=>rfl;have nsk:(St.skip (St.skip (St.skip s3))).next=s3.next+3:=rfl;have y1':(St.skip s3).next=s3.next+1:=rfl;have y2':(St.skip (St.skip s3)).next=s3.next+2:=rfl;have Xm:(St.skip (St.skip (St.skip s3))).mem.get s3.next=none:=jy _ (aAU _);have Xl:(St.skip (St.skip (St.skip s3))).mem.get (s3.next+1)=none:=jy _ (by omega);have Dh:(St.skip (St.skip (St.skip s3))).mem.get (s3.next+2)=none:=jy _ (by omega);rw[y1',y2'];generalize St.skip (St.skip (St.skip s3))=s6 at*;have GU:=(HP.keep st.next (by omega) (by simp)).trans nH;have Yn:=(HP.keep s1.next (by omega) (by simp)).trans Ir;have g36:=(HP.keep s2.next (by omega) (by simp)).trans g3;have amI:bJ [.str [], .str [], .int .i64 0, .int .i64 0] [(0,1, .str sep)] s6= .ok (.agg (aQ (fL sep))) s6:=rfl;simp only[az,GU,ar,aAS,aAQ,au,amI,af];rw[jb Xm (Dz (k:=4) rfl rfl rfl),aT];have k7:Kp [s3.next,s3.next+1,s3.next+2] s6 (St.set s6 s3.next (.cells (CV.agg (aQ (fL sep))).cK 109 false)):=(Kp.refl _ s6).set _ (.inl (by simp)) (by omega);have g77:(St.set s6 s3.next (.cells (CV.agg (aQ (fL sep))).cK 109 false)).mem.get s3.next=some (.cells (aQ (fL sep)) 109 false):=ao _ _ _;have g71:(St.set s6 s3.next (.cells (CV.agg (aQ (fL sep))).cK 109 false)).mem.get (s3.next+1)=none:=(ak _ _ _ _ (by omega)).trans Xl;have g72:(St.set s6 s3.next (.cells (CV.agg (aQ (fL sep))).cK 109 false)).mem.get (s3.next+2)=none:=(ak _ _ _ _ (by omega)).trans Dh;have n7:(St.set s6 s3.next (.cells (CV.agg (aQ (fL sep))).cK 109 false)).next=s6.next:=rfl;generalize St.set s6 s3.next (.cells (CV.agg (aQ (fL sep))).cK 109 false)=s7 at*;have g27:=(k7.keep s1.next (by omega) (by simp;omega)).trans Yn;have Lq:=(k7.keep st.next (by omega) (by simp;omega)).trans GU;have g37:=(k7.keep s2.next (by omega) (by simp;omega)).trans g36;simp only[az,g27,ar,aAS,aAQ,au]
  have alZ:fY [(0,1,c1),(1,1, .slice s3.next 0 1 1 0),(2,1,c2)] (cO 3 [.ae])=some [c1, .slice s3.next 0 1 1 0,c2]:=by
   rw[cI,aBb ⟨⟨by rw[x3];rfl,x1⟩,by rw[x3];exact(by decide:0+1<=3)⟩,cI,aBb ⟨⟨rfl,rfl⟩,by rw[x3];exact(by decide:1+1<=3)⟩,cI,aBb ⟨⟨by rw[z3];rfl,z1⟩,by rw[z3,x3];exact(by decide:2+1<=3)⟩,kJ,x3,z3];rfl
  rw[jb g71 alZ,aT];have k8:Kp [s3.next,s3.next+1,s3.next+2] s6 (St.set s7 (s3.next+1) (.cells [c1, .slice s3.next 0 1 1 0,c2] 102 false)):=k7.set _ (.inl (by simp)) (by omega);have g88:(St.set s7 (s3.next+1) (.cells [c1, .slice s3.next 0 1 1 0,c2] 102 false)).mem.get (s3.next+1)=some (.cells [c1, .slice s3.next 0 1 1 0,c2] 102 false):=ao _ _ _;have g87:(St.set s7 (s3.next+1) (.cells [c1, .slice s3.next 0 1 1 0,c2] 102 false)).mem.get s3.next=some (.cells (aQ (fL sep)) 109 false):=(ak _ _ _ _ (by omega)).trans g77;have ZO:(St.set s7 (s3.next+1) (.cells [c1, .slice s3.next 0 1 1 0,c2] 102 false)).mem.get (s3.next+2)=none:=(ak _ _ _ _ (by omega)).trans g72;have n8:(St.set s7 (s3.next+1) (.cells [c1, .slice s3.next 0 1 1 0,c2] 102 false)).next=s6.next:=n7;generalize St.set s7 (s3.next+1) (.cells [c1, .slice s3.next 0 1 1 0,c2] 102 false)=s8 at*;have Zz:Kp [] st s8:=(jf.trans HP (by simp)).trans k8 (by intro q hq;simp at hq;omega);have akc:Sl s8 [] (.slice (s3.next+1) 0 3 3 0) 1 [c1, .slice s3.next 0 1 1 0,c2]:= .inr ⟨s3.next+1,0,3,3,0,rfl,rfl,⟨aAU _, .inl rfl⟩, .inr ⟨by simp,by omega,_,_,_,g88,by simp,rfl⟩⟩;have abQ:Sl s8 [] (.slice s3.next 0 1 1 0) 4 (aQ (fL sep)):= .inr ⟨s3.next,0,1,1,0,rfl,rfl,⟨aAU _, .inl rfl⟩, .inr ⟨by simp,by omega,_,_,_,g87,by simp[aQ],rfl⟩⟩;have Tj:=(k8.keep st.next (by omega) (by simp;omega)).trans GU;have ZR:=(k8.keep s1.next (by omega) (by simp;omega)).trans Yn;have g38:=(k8.keep s2.next (by omega) (by simp;omega)).trans g36;refine(BS (Ls:=[bj a.cells,aQ (fL sep),bj b.cells]) akc ⟨⟨e1.mono Zz,jZ (by omega)⟩,⟨abQ,1,rfl,by omega⟩,⟨e2.mono Zz,jZ (by omega)⟩,trivial⟩ (by simp) (by simp)).mono ?_;intro eD s9 m9;have k9:=m9.kp;have n9:=k9.next;have Vh:=(k9.keep st.next (by omega) (by simp)).trans Tj;have ZQ:=(k9.keep s1.next (by omega) (by simp)).trans ZR;have ZP:=(k9.keep s2.next (by omega) (by simp)).trans g38;have g92:s9.mem.get (s3.next+2)=none:=(k9.keep (s3.next+2) (by omega) (by simp)).trans ZO;have Xz:Kp [] st s9:=Zz.trans k9 (by simp)
  simp only[az,Vh,ZQ,ar,aAT,aAS,aAQ,au]
  have ama:fY [(0,1,d1),(1,1,d2)] (cO 2 [.ae])=some [d1,d2]:=by
   rw[cI,aBb ⟨⟨by rw[y3];rfl,y1⟩,by rw[y3];exact(by decide:0+1<=2)⟩,cI,aBb ⟨⟨by rw[w3];rfl,w1⟩,by rw[w3,y3];exact(by decide:1+1<=2)⟩,kJ,y3,w3];rfl
  rw[jb g92 ama,aT];have qj:Kp [s3.next+2] s9 (St.set s9 (s3.next+2) (.cells [d1,d2] 103 false)):=(Kp.refl _ s9).set _ (.inl (by simp)) (by omega);have Ra:(St.set s9 (s3.next+2) (.cells [d1,d2] 103 false)).mem.get (s3.next+2)=some (.cells [d1,d2] 103 false):=ao _ _ _;have QC:(St.set s9 (s3.next+2) (.cells [d1,d2] 103 false)).next=s9.next:=rfl;have oN:Kp [] st (St.set s9 (s3.next+2) (.cells [d1,d2] 103 false)):=Xz.trans qj (by intro q hq;simp at hq;omega);obtain⟨F,a1,a2,a3⟩:=m9;have TA:Own (St.set s9 (s3.next+2) (.cells [d1,d2] 103 false)) eD 4 109 [bj a.cells,aQ (fL sep),bj b.cells].flatten F:=a2.mono fun q hq=>ak _ _ _ _ (by have:=(a3 q hq).1;omega);have Yp:(St.set s9 (s3.next+2) (.cells [d1,d2] 103 false)).mem.get st.next=_:=(ak _ _ _ _ (by omega)).trans Vh;have Yo:(St.set s9 (s3.next+2) (.cells [d1,d2] 103 false)).mem.get s1.next=_:=(ak _ _ _ _ (by omega)).trans ZQ;have Iq:(St.set s9 (s3.next+2) (.cells [d1,d2] 103 false)).mem.get s2.next=_:=(ak _ _ _ _ (by omega)).trans ZP;generalize St.set s9 (s3.next+2) (.cells [d1,d2] 103 false)=dd at*;have abO:Sl dd [] (.slice (s3.next+2) 0 2 2 0) 1 [d1,d2]:= .inr ⟨s3.next+2,0,2,2,0,rfl,rfl,⟨aAU _, .inl rfl⟩, .inr ⟨by simp,by omega,_,_,_,Ra,by simp,rfl⟩⟩;refine(LF (Ls:=[bU a.kids,bU b.kids]) abO ⟨⟨f1.mono oN,a.kids.length,by simp,by omega⟩,⟨f2.mono oN,b.kids.length,by simp,by omega⟩,trivial⟩ (by simp) (by simp)).mono ?_;intro gf dm m11;have pJ:=m11.kp;have R9:=pJ.next;have anW:=(pJ.keep s2.next (by omega) (by simp)).trans Iq;obtain⟨F2,b1,b2,b3⟩:=m11;obtain⟨p1,p2⟩:=a2.cq;have p3:eD.isAny=false:=(a2.sl (X:=[]) fun b hb=>⟨by simp,(a3 b hb).2⟩).bu.1;obtain⟨q1,q2⟩:=b2.cq;have q3:gf.isAny=false:=(b2.sl (X:=[]) fun b hb=>⟨by simp,(b3 b hb).2⟩).bu.1
  have mP:bJ [.bool false, .ae, .ae] [(1,1,eD),(2,1,gf)] dm= .ok (.agg [.bool false,eD,gf]) dm:=by
   rw[dO];simp[cI,bt,p2,p3,q2,q3]
  rw[mP,af,aH,anW,aS,aU,kg];refine⟨⟨rfl,by simp[p1,q1],by simp⟩, ?_⟩;simp only[az,Tj,ZR,Yp,Yo,ZO,ar,aAS,aAQ,au,aCV,and_true];rw[aO (n:=3) (ao _ _ _) rfl,af];refine⟨(oN.trans pJ (by simp)).set _ (.inr (by omega)) (by omega),fun X hX=>⟨eD,gf, ?_, ?_, ?_⟩⟩
  ·unfold dy;rw[aAZ (by rw[fp];decide)]
  ·have:bj (dy a sep b).cells=[bj a.cells,aQ (fL sep),bj b.cells].flatten:=by unfold dy;rw[aAZ (by rw[fp];decide),gj];simp[bj]
   rw[this];have aoF:=TA.keep pJ fun q hq=>⟨by have:=(a3 q hq).2;omega,by simp⟩;exact(aoF.mono fun q hq=>ak _ _ _ _ (by have:=(a3 q hq).1;omega)).sl fun q hq=>⟨fun h=>by have:=hX q h;have:=(a3 q hq).1;have:=Zz.next;omega,by have:=(a3 q hq).2;simp;omega⟩
  ·have:bU (dy a sep b).kids=[bU a.kids,bU b.kids].flatten:=by unfold dy;rw[aAZ (by rw[fp];decide),mO];simp
   rw[this];exact(b2.mono fun q hq=>ak _ _ _ _ (by have:=(b3 q hq).1;omega)).sl fun q hq=>⟨fun h=>by have:=hX q h;have:=(b3 q hq).1;have:=oN.next;omega,by have:=(b3 q hq).2;simp;omega⟩
end
section
variable {st st':St}
def kW (k e:Nat)(L:List CV)(F:List Nat)(st:St)(x:CV)(st':St):Prop:=∃F',Own st' x k e L F'/\Kp F st st'/\∀b∈F',(b∈F\/st.next<=b)/\b<st'.next
theorem BA {e k n i b vb:Nat}{L T:List CV}(hk:0<k)(hb:st.mem.get b=some (.cells L e true))(hv:st.mem.get vb=some (.cells T e false))(gT:b≠vb)(hL:L.length=n*k)(hT:T.length=k)(hi:i<n)(hn:n<=1000000)(ho:aX L=true)(GI:aX T=true):
 l4 e k [.slice b 0 n n k,I i, .slice vb 0 1 1 0] st=some (.ok (.slice st.next 0 (n+1) (n+1) k) ⟨(st.mem.put b none).put st.next (some (.cells (L.take (i*k)++(T++L.drop (i*k))) e true)),st.next+1⟩):=by
 have e0:l4 e k [.slice b 0 n n k,I i, .slice vb 0 1 1 0] st=l4 e k [.slice b 0 n n k, .int .i64 (.ofNat i), .slice vb 0 1 1 0] st:=rfl;rw[e0];simp only[l4,hb,hv];rw[aBb ⟨trivial,trivial,hk,hi,gT,trivial,trivial,hL,ho,GI,hT,hn⟩]
theorem xd {e k n i b vb:Nat}{L T:List CV}(hk:0<k)(hlt:b<st.next)(hL:L.length=n*k)(hT:T.length=k)(hi:i<n):kW k e (L.take (i*k)++(T++L.drop (i*k))) [b] st (.slice st.next 0 (n+1) (n+1) k) ⟨(st.mem.put b none).put st.next (some (.cells (L.take (i*k)++(T++L.drop (i*k))) e true)),st.next+1⟩:=by
 have FB:i*k<=n*k:=aBM k (by omega);refine⟨[st.next], .inr (.inr ⟨st.next,n+1,rfl,by omega, ?_,rfl,PT.cP _ _ _⟩),⟨by simp,fun q h1 h2=> ?_,fun hf q hq=> ?_⟩,fun q hq=>⟨.inr (by simp at hq;omega),by simp at hq;simp;omega⟩⟩
 ·rw[aAY,aAY,aBh,aBo,hT,hL,aBZ];omega
 ·show((st.mem.put b none).put st.next _).get q=_;rw[PT.cZ _ _ _ _ (by omega),PT.cZ _ _ _ _ (by simpa using h2)]
 ·show((st.mem.put b none).put st.next _).get q=_;simp only at hq;rw[PT.cZ _ _ _ _ (by omega),PT.cZ _ _ _ _ (by omega)];exact hf q (by omega)
theorem Jm {k e bytes n vb:Nat}{v:CV}{L T z:List CV}{F:List Nat}{g:Bool}{K:CV->CV->Prop}(ho:Own st v k e L F)(hk:0<k)(hL:L.length=n*k)(hn:n<=1000000)(hF:∀b∈F,b<st.next)(hv:st.mem.get vb=some (.cells T e g))(hT:T.length=k)(GI:aX T=true)(hkb:k<=4)(hb:bytes<=48):
 us (aN k v (some (I n)) none st) fun x1=>us (bo .slice (.slice vb 0 1 1 0) st) fun x2=>us (aj .eql (some .int) true x2 (.int .i64 0) st) fun x3=>aB x3 (kW k e (L++T) F st v st) (us (bo .slice v st) fun x4=>us (aj .eql (some .int) false (I n) x4 st) fun x5=>
  aB x5 (upon (bQ e k bytes v (dg .slice k z (.slice vb 0 1 1 0) st) st) fun x6 s1=>kW k e (L++T) F st x6 s1) (K x2 x4)):=by
 have kN:Sl st [] v k L:=ho.sl fun b hb=>⟨by simp,hF b hb⟩;obtain⟨v',p1,_⟩:=kN.lo hk hL (aAU n) st;have e2:aj .eql (some .int) true (I ((1:Nat):Int)) (.int .i64 0) st= .ok (.bool false) st:=rfl;have e3:aj .eql (some .int) false (I n) (I n) st= .ok (.bool true) st:=by rw[av,cB,aBc rfl]
 have e1:bo .slice (.slice vb 0 1 1 0) st= .ok (I ((1:Nat):Int)) st:=rfl;rw[p1,af,e1,af,e2,af,ag,aAZ (by decide),kN.len n hL hk st,af,e3,af,ag,aBb rfl,EI (k:=k) (n:=1) hv (by omega) (by omega)];have hnk:n*k<=1000000*4:=aDC hn hkb;have hsz:(L.length+T.length)*(bytes+1)<=(4000004)*49:=aDC (by omega) (by omega);obtain⟨x,s,F',a1,a2,a3,a4⟩:=ho.append (n:=1) (bytes:=bytes) (T:=T) hk (by omega) GI hF (by omega);rw[a1,aT];exact⟨F',a2,a3,fun b hb=>⟨(a4 b hb).1.imp id fun h=>by omega,(a4 b hb).2⟩⟩
theorem kF {v:CV}{k e n:Nat}{L:List CV}{F:List Nat}(ho:Own st v k e L F)(hk:0<k)(hL:L.length=n*k)(hn:0<n):∃b,v= .slice b 0 n n k/\F=[b]/\st.mem.get b=some (.cells L e true):=by
 have hp:0<n*k:=Nat.mul_pos hn hk;rcases ho with⟨_,rfl,_⟩|⟨b,l,t,g,_,rfl,_⟩|⟨b,m,h1,h2,h3,h4,h5⟩
 ·simp at hL;omega
 ·simp at hL;omega
 ·have:m=n:=aBX hk (by omega);subst this;exact⟨b,h1,h4,h5⟩
theorem zg {v:CV}{L T:List CV}{F:List Nat}{n i vb:Nat}(ho:Own st v 4 109 L F)(hL:L.length=n*4)(hn:n<=1000000)(hF:∀b∈F,b<st.next)(hv:st.mem.get vb=some (.cells T 109 false))(hvF:vb∉F)(hT:T.length=4)(KY:aX L=true)(GI:aX T=true)(hi:i<=n):
 R 51 [v,I i, .slice vb 0 1 1 0] st (kW 4 109 (L.take (i*4)++(T++L.drop (i*4))) F st):=by
 by_cases jx:i<n
 ·obtain⟨b,rfl,rfl,hb⟩:=kF ho (by omega) hL (by omega);refine Qj (st':=_) (v:=_) (show I0 51 _ st=some (.ok _ _)from ?_) (xd (e:=109) (vb:=vb) (by omega) (hF b (by simp)) hL hT jx);have:I0 51 [.slice b 0 n n 4,I i, .slice vb 0 1 1 0] st=l4 109 4 [.slice b 0 n n 4,I i, .slice vb 0 1 1 0] st:=rfl;rw[this];exact BA (by omega) hb hv (fun e=>hvF (by simp[e])) hL hT jx hn KY GI
 ·have:i=n:=by omega
  subst this;refine bO ?_ ?_
  ·rw[w51];have e1:L.take (i*4)=L:=aBa (by omega);have e2:L.drop (i*4)=[]:=aBC (by omega);have e3:kW 4 109 (L.take (i*4)++(T++L.drop (i*4))) F st=kW 4 109 (L++T) F st:=by rw[e1,e2,aBQ]
   rw[e3];exact Jm (bytes:=48) (z:=[.str [], .str [], .int .i64 0, .int .i64 0]) ho (by omega) hL hn hF hv hT GI (by omega) (by omega)
  ·by_cases h0:i=0
   ·subst h0;rcases ho with⟨rfl,_⟩|⟨b,l,t,g,rfl,_⟩|⟨b,m,rfl,h2,h3,_⟩
    ·rfl
    ·have e9:∀args,I0 51 args st=l4 109 4 args st:=fun args=>rfl;rw[e9];have:l4 109 4 [.slice b 0 0 0 0,I ((0:Nat):Int), .slice vb 0 1 1 0] st=l4 109 4 [.slice b 0 0 0 0, .int .i64 (.ofNat 0), .slice vb 0 1 1 0] st:=rfl;rw[this];simp only[l4]
     split
     ·rw[aAZ (by omega)]
     ·rfl
    ·rw[h3]at hL;omega
   ·obtain⟨b,rfl,rfl,hb⟩:=kF ho (by omega) hL (by omega);have e9:∀args,I0 51 args st=l4 109 4 args st:=fun args=>rfl;rw[e9];have:l4 109 4 [.slice b 0 i i 4,I i, .slice vb 0 1 1 0] st=l4 109 4 [.slice b 0 i i 4, .int .i64 (.ofNat i), .slice vb 0 1 1 0] st:=rfl;rw[this];simp only[l4]
    split
    ·rw[aAZ (by omega)]
    ·rfl
theorem KU {v:CV}{L T:List CV}{F:List Nat}{n i vb:Nat}(ho:Own st v 1 3 L F)(hL:L.length=n*1)(hn:n<=1000000)(hF:∀b∈F,b<st.next)(hv:st.mem.get vb=some (.cells T 3 false))(hvF:vb∉F)(hT:T.length=1)(KY:aX L=true)(GI:aX T=true)(hi:i<=n):
 R 144 [v,I i, .slice vb 0 1 1 0] st (kW 1 3 (L.take (i*1)++(T++L.drop (i*1))) F st):=by
 by_cases jx:i<n
 ·obtain⟨b,rfl,rfl,hb⟩:=kF ho (by omega) hL (by omega);refine Qj (st':=_) (v:=_) (show I0 144 _ st=some (.ok _ _)from ?_) (xd (e:=3) (vb:=vb) (by omega) (hF b (by simp)) hL hT jx);have:I0 144 [.slice b 0 n n 1,I i, .slice vb 0 1 1 0] st=l4 3 1 [.slice b 0 n n 1,I i, .slice vb 0 1 1 0] st:=rfl;rw[this];exact BA (by omega) hb hv (fun e=>hvF (by simp[e])) hL hT jx hn KY GI
 ·have:i=n:=by omega
  subst this;refine bO ?_ ?_
  ·rw[aab];have e1:L.take (i*1)=L:=aBa (by omega);have e2:L.drop (i*1)=[]:=aBC (by omega);have e3:kW 1 3 (L.take (i*1)++(T++L.drop (i*1))) F st=kW 1 3 (L++T) F st:=by rw[e1,e2,aBQ]
   rw[e3];exact Jm (bytes:=8) (z:=[.int .i64 0]) ho (by omega) hL hn hF hv hT GI (by omega) (by omega)
  ·by_cases h0:i=0
   ·subst h0;rcases ho with⟨rfl,_⟩|⟨b,l,t,g,rfl,_⟩|⟨b,m,rfl,h2,h3,_⟩
    ·rfl
    ·have e9:∀args,I0 144 args st=l4 3 1 args st:=fun args=>rfl;rw[e9];have:l4 3 1 [.slice b 0 0 0 0,I ((0:Nat):Int), .slice vb 0 1 1 0] st=l4 3 1 [.slice b 0 0 0 0, .int .i64 (.ofNat 0), .slice vb 0 1 1 0] st:=rfl;rw[this];simp only[l4]
     split
     ·rw[aAZ (by omega)]
     ·rfl
    ·rw[h3]at hL;omega
   ·obtain⟨b,rfl,rfl,hb⟩:=kF ho (by omega) hL (by omega);have e9:∀args,I0 144 args st=l4 3 1 args st:=fun args=>rfl;rw[e9];have:l4 3 1 [.slice b 0 i i 1,I i, .slice vb 0 1 1 0] st=l4 3 1 [.slice b 0 i i 1, .int .i64 (.ofNat i), .slice vb 0 1 1 0] st:=rfl;rw[this];simp only[l4]
    split
    ·rw[aAZ (by omega)]
    ·rfl
theorem JQ {k e bytes n i:Nat}{v:CV}{L z:List CV}{F:List Nat}(ho:Own st v k e L F)(hk:0<k)(hL:L.length=n*k)(hn:n<=1000000)(hF:∀b∈F,b<st.next)(hz:z.length=k)(hoz:aX z=true)(KY:aX L=true)(hi:i<n):
 us (bo .slice v st) fun x1=>us (iz k v (some (I i)) (I ((i+1:Nat):Int)) x1 st) fun x2=>us (aj .eql (some .int) false (I i) (I ((i+1:Nat):Int)) st) fun x3=>aB x3 False
  (us (bo .slice v st) fun x4=>cn (us (aN k v none (some (I i)) st) fun x5=>us (aN k v (some (I ((i+1:Nat):Int))) none st) fun x6=>upon (bQ e k bytes x5 (dg .slice k z x6 st) st) fun x7 s1=>(True)/\(True)/\
   us (bo .slice x7 s1) fun x8=>us (aN k x7 (some x8) (some x4) s1) fun x9=>upon (rm z x9 s1) fun _ s2=>(kM s2 F x7 k (L.take (i*k)++L.drop ((i+1)*k))/\Kp F st s2/\s2.next=st.next))):=by
 obtain⟨b,rfl,rfl,hb⟩:=kF ho hk hL (by omega);have tk:=hF b (by simp);have e1:bo .slice (.slice b 0 n n k) st= .ok (I n) st:=rfl
 have e2:∃y,iz k (.slice b 0 n n k) (some (I i)) (I ((i+1:Nat):Int)) (I n) st= .ok y st:=by
  unfold iz;dsimp only;rw[sS,aBb (aAU _)];dsimp only;rw[pF,aBb ⟨by omega,by omega⟩];simp only[dE,aM,aBS,aBy,aBB];rw[aBb (.inr (by omega))]
  split<;>exact⟨_,rfl⟩
 obtain⟨y,e2⟩:=e2;have e3:aj .eql (some .int) false (I i) (I ((i+1:Nat):Int)) st= .ok (.bool false) st:=by rw[av,cB,aAW (by omega)]
 have FB:i*k+k<=n*k:=by
  calc i*k+k=(i+1)*k:=by rw[aBZ,aDa]
   _<=n*k:=aBM k hi
 have avZ:(i+1)*k=i*k+k:=by rw[aBZ,aDa]
 have Fl:(n-1)*k+k=n*k:=by
  have:(n-1)*k+k=(n-1+1)*k:=by rw[aBZ,aDa]
  rw[this];congr 1;omega
 have hmd:(n-(i+1))*k=n*k-(i+1)*k:=Nat.sub_mul _ _ _
 have Zj:n-(i+1)=0->i*k=(n-1)*k/\i=n-1:=fun h=>by have:i=n-1:=by omega
                                                  subst this;exact⟨rfl,rfl⟩
 obtain⟨o5,p5,q5⟩:=iZ (k:=k) (b:=b) (off:=0) (len:=n) (cap:=n) (grow:=k) (l:=0) (h:=i) (lo:=none) (hi:=some (I i)) (st:=st) (by rw[sR,aBb (by omega)]) (aAU _) (.inr rfl);have:o5=0:=by omega
 subst this;obtain⟨o6,p6,q6⟩:=iZ (k:=k) (b:=b) (off:=0) (len:=n) (cap:=n) (grow:=k) (l:=i+1) (h:=n) (lo:=some (I ((i+1:Nat):Int))) (hi:=none) (st:=st) (by rw[ye,aBb (by omega)]) (aAU _) (.inr rfl);simp only[Nat.sub_zero]at p5;simp only[e1,af,e2,e3,ag,aAR,aBf,bG,p5,p6];have h9:=fun C=>iZ (k:=k) (b:=b) (off:=0) (len:=n-1) (cap:=n) (grow:=k) (l:=n-1) (h:=n) (lo:=some (I ((n-1:Nat):Int))) (hi:=some (I n)) (st:=St.set st b (.cells C e true)) (by rw[pF,aBb ⟨by omega,by omega⟩]) (by omega) (.inr rfl);have hlw:∀(l:List CV) (off:Nat) (t:List CV),off+t.length<=l.length->dR l off t=some (bt l off t):=fun l off t h=>by unfold dR;rw[aBb h];rfl
 generalize hA:i*k=A at*;generalize hB:(i+1)*k=B at*;generalize hN:n*k=N at*;generalize hM:(n-1)*k=M at*;generalize hD:(n-(i+1))*k=D at*
 have hT:dg .slice k z (.slice b o6 (n-(i+1)) (n-(i+1)) k) st=some (n-(i+1),L.drop B):=by
  have e':dg .slice k z (.slice b o6 (n-(i+1)) (n-(i+1)) k) st=(match dH k (n-(i+1)) (.slice b o6 (n-(i+1)) (n-(i+1)) k) st with|some s=>some (n-(i+1),s)|none=>none):=rfl;rw[e',lz]
  by_cases h0:n-(i+1)=0
  ·rw[aBb h0];have:=Zj h0;have:L.drop B=[]:=aBC (by omega);rw[this]
  ·rw[aAZ h0,aBb (.inr (aAU _)),hb,hD];have ho6:o6=B:=by omega
   have:gX L o6 D=some (L.drop B):=by
    unfold gX;rw[aBb (by omega),ho6,aBa (by rw[aBo];omega)]
   dsimp only;rw[this]
 have Am:(L.drop B).length=N-B:=by rw[aBo,hL]
 have hTo:aX (L.drop B)=true:=by
  simp only[aX,List.all_eq_true]at KY⊢;exact fun x hx=>KY x (aBG hx)
 have Pc:∃s1 C,bQ e k bytes (.slice b 0 i n k) (some (n-(i+1),L.drop B)) st= .ok (.slice b 0 (n-1) n k) s1/\s1=St.set st b (.cells C e true)/\C.length=N/\C.take M=L.take A++L.drop B:=by
  by_cases h0:n-(i+1)=0
  ·obtain⟨hz1,hz2⟩:=Zj h0;have hd:L.drop B=[]:=aBC (by omega);refine⟨St.set st b (.cells L e true),L, ?_,rfl,hL,by rw[hd,hz1];simp⟩;rw[h0,hd];have e':bQ e k bytes (.slice b 0 i n k) (some (0,[])) st=bC (Nat.ble i n) (.ok (.slice b 0 i n k) st) .bad:=rfl
   have es:St.set st b (.cells L e true)=st:=by
    cases st with
    |mk mem nx=>
     simp only[St.set,St.mk.injEq,and_true]
     exact PT.ext fun p=>by
      rw[PT.eO];split
      ·rename_i h;rw[h];exact hb.symm
      ·rfl
   rw[e',aM,aBb (by rw[aBy];omega),es,<-hz2]
  ·refine⟨_,bt L A (L.drop B), ?_,rfl, ?_, ?_⟩
   ·unfold bQ;simp only[aM,aBB,dE,aBy];have amM:Nat.add i (n-(i+1))=n-1:=by show i+(n-(i+1))=n-1;omega
    rw[aAZ h0,amM,aBb (by omega),hb];dsimp only;rw[hTo,aBb rfl,hA,aAT,hlw _ _ _ (by omega)];rfl
   ·rw[lX _ _ _ (by omega)];exact hL
   ·unfold bt;rw[aCM,aBa (i:=M) (l:=L.take A) (by rw[aBh];omega),aBh,aCM];have Ia:min A L.length=A:=aBH (by omega);have:M-min A L.length-(L.drop B).length=0:=by omega
    rw[this,aCI,aBQ,aBa (i:=M-min A L.length) (l:=L.drop B) (by omega)]
 obtain⟨s1,C,h1,rfl,h3,h4⟩:=Pc;have e7:bo .slice (.slice b 0 (n-1) n k) (St.set st b (.cells C e true))= .ok (I ((n-1:Nat):Int)) (St.set st b (.cells C e true)):=rfl;obtain⟨o9,p9,q9⟩:=h9 C;have:o9=M:=by omega
 subst this;have PR:n-(n-1)=1:=by omega
 rw[PR]at p9
 have ZS:rm z (.slice b o9 1 1 k) (St.set st b (.cells C e true))= .ok .undef (St.set st b (.cells (bt C o9 z) e true)):=by
  have e':rm z (.slice b o9 1 1 k) (St.set st b (.cells C e true))=bC (Nat.beq 1 0) (.ok .undef (St.set st b (.cells C e true))) (bC (Bool.or (Nat.beq k 0) (Nat.ble 1 1))
   (match (St.set st b (.cells C e true)).mem.get b with
   |some (.cells s ty g)=>(fun t=>bC (aX t) (Option.rec .bad (fun s'=> .ok .undef ⟨(St.set st b (.cells C e true)).mem.put b (some (.cells s' ty g)),(St.set st b (.cells C e true)).next⟩) (dR s o9 t)) .bad) (cO 1 z)
   |_=> .bad) .bad):=rfl
  rw[e',ao];have er:cO 1 z=z:=by simp[cO]
  dsimp only;rw[er,hoz,hlw _ _ _ (by omega)];have e13:Bool.or (Nat.beq k 0) (Nat.ble 1 1)=true:=by simp
  have e14:Nat.beq 1 0=false:=rfl;rw[e13,e14];show OR.ok CV.undef (St.set (St.set st b (.cells C e true)) b (.cells (bt C o9 z) e true))=_;rw[set_set]
 rw[hT,h1];simp only[aT,e7,af,p9,ZS,aCV];have Dn:Kp [b] st (St.set st b (.cells (bt C o9 z) e true)):=(Kp.refl _ st).set _ (.inl (by simp)) tk;have hlen:(L.take A++L.drop B).length=(n-1)*k:=by rw[<-h4,aBh,hM];omega
 refine⟨fun X hX=> ?_,Dn,rfl⟩;refine .inr ⟨b,0,n-1,n,k,rfl,hlen,⟨by omega, .inr rfl⟩, .inr ⟨hX b (by simp),tk,_,_,_,ao _ _ _, ?_, ?_⟩⟩
 ·rw[lX _ _ _ (by omega),hM];omega
 ·rw[aBx,hM,<-h4];unfold bt;rw[aCM,aBa (i:=o9) (l:=C.take o9) (by rw[aBh];omega),aBh];have Ia:min o9 C.length=o9:=aBH (by omega);have:o9-min o9 C.length=0:=by omega
  rw[this];simp
theorem F8 {v:CV}{L:List CV}{F:List Nat}{n i:Nat}(ho:Own st v 4 109 L F)(hL:L.length=n*4)(hn:n<=1000000)(hF:∀b∈F,b<st.next)(KY:aX L=true)(hi:i<n):
 R 84 [v,I i,I ((i+1:Nat):Int)] st fun x s2=>kM s2 F x 4 (L.take (i*4)++L.drop ((i+1)*4))/\Kp F st s2/\s2.next=st.next:=by
 refine bO ?_;rw[w84];have:=JQ (bytes:=48) (z:=[.str [], .str [], .int .i64 0, .int .i64 0]) ho (by omega) hL hn hF rfl rfl KY hi;refine kO this fun x1 h1=>kO h1 fun x2 h2=>kO h2 fun x3 h3=> ?_;unfold aB at h3⊢
 split at h3
 ·exact h3.elim
 ·exact h3
 ·exact h3
theorem LC {v:CV}{L:List CV}{F:List Nat}{n i:Nat}(ho:Own st v 1 3 L F)(hL:L.length=n*1)(hn:n<=1000000)(hF:∀b∈F,b<st.next)(KY:aX L=true)(hi:i<n):
 R 108 [v,I i,I ((i+1:Nat):Int)] st fun x s2=>kM s2 F x 1 (L.take (i*1)++L.drop ((i+1)*1))/\Kp F st s2/\s2.next=st.next:=by
 refine bO ?_;rw[aie];have:=JQ (bytes:=8) (z:=[.int .i64 0]) ho (by omega) hL hn hF rfl rfl KY hi;refine kO this fun x1 h1=>kO h1 fun x2 h2=>kO h2 fun x3 h3=> ?_;unfold aB at h3⊢
 split at h3
 ·exact h3.elim
 ·exact h3
 ·exact h3
end
