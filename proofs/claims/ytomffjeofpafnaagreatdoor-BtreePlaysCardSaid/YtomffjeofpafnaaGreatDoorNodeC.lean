import Derived.Test.YtomffjeofpafnaaGreatDoorNodeB
namespace Lim
open Go
noncomputable section
set_option maxRecDepth 100000
section
variable {st st':St}
theorem MB (n:Nat)(z:List CV):(cH n z).length=n*z.length:=by
 unfold cH;rw[fw (w:=z.length) (by intro x hx;rw[List.eq_of_mem_replicate hx])];simp
theorem JY (n:Nat)(z:List CV)(i:Nat)(h:i<=n):(cH n z).drop (i*z.length)=cH (n-i) z:=by
 unfold cH;rw[lK (w:=z.length) (by intro x hx;rw[List.eq_of_mem_replicate hx]) i (by simpa using h),aCJ]
def tF (k e:Nat)(z:List CV)(n:Nat)(st:St)(x:CV)(st':St):Prop:=if n=0 then x= .ae/\st'=st else x= .slice st.next 0 0 n k/\st'=St.new st (.cells (cH n z) e true)
theorem Ug {k e bytes n:Nat}{z:List CV}(hk:0<k)(hz:z.length=k)(hn:n<=100000)(hb:bytes<=1000):
 us (bh .cap .ae st) fun x3=>us (bh .slice .ae st) fun x4=>us (aj .sub none false x3 x4 st) fun x5=>us (aj .sub none false (I n) x5 st) fun x6=>us (aj .gtr none true x6 (.int .i64 0) st) fun x7=>
  aB x7 (us (bh .cap .ae st) fun x8=>us (aL k .ae none (some x8) st) fun x9=>upon (bM e k bytes x9 (cV .zeros k z x6 st) st) fun db s2=>us (bh .slice .ae s2) fun cW=>us (aL k db none (some cW) s2) fun dx=>tF k e z n st dx s2) (tF k e z n st .ae st):=by
 have e1:bh .cap .ae st= .ok (.int .i64 0) st:=rfl;have e2:∀s,bh .slice .ae s= .ok (.int .i64 0) s:=fun s=>rfl;have e3:aj .sub none false (.int .i64 0) (.int .i64 0) st= .ok (.int .i64 0) st:=rfl;have e4:aj .sub none false (I n) (.int .i64 0) st= .ok (I n) st:=by rw[aw,dW,bz (by omega)];congr 2
 have e5:aj .gtr none true (I n) (.int .i64 0) st= .ok (.bool (decide (0<n))) st:=by rw[aw,dq];congr 2;simp only[aBc];omega
 have e6:aL k .ae none (some (.int .i64 0)) st= .ok .ae st:=rfl;simp only[e1,e2,e3,e4,e5,af,ag,e6]
 by_cases h0:n=0
 ·subst h0;rw[aAH (by decide)];unfold tF;rw[aAI rfl];exact⟨rfl,rfl⟩
 ·rw[aAI (by simpa using Nat.pos_of_ne_zero h0)]
  have e7:cV .zeros k z (I n) st=some (n,cH n z):=by
   have:cV .zeros k z (I n) st=bu (Nat.ble n 1099511627776) (some (n,cH n z)) none:=rfl;rw[this,aO,aAI (by rw[aBe];omega)]
  have EU:n*bytes<=100000*1000:=aDo hn hb
  have e8:bM e k bytes .ae (some (n,cH n z)) st= .ok (.slice st.next 0 n n k) (St.new st (.cells (cH n z) e true)):=by
   have e:bM e k bytes .ae (some (n,cH n z)) st=bu (Nat.beq n 0) (.ok .ae st) (bu (Bool.and (Nat.ble 1 k) (Bool.and (Nat.ble (Nat.mul n bytes) 140737488355328) (Nat.ble n 140737488355328)))
    (.ok (.slice st.next 0 n n k) ⟨st.mem.put st.next (some (.cells (cH n z) e true)),st.next+1⟩) .bad):=rfl
   rw[e];simp only[aO,aBi,aAV,aBe];rw[aAH h0,aAI ⟨hk,aBS EU (by omega),by omega⟩];rfl
  rw[e7,e8,aS]
  have e9:aL k (.slice st.next 0 n n k) none (some (.int .i64 0)) (St.new st (.cells (cH n z) e true))= .ok (.slice st.next 0 0 n k) (St.new st (.cells (cH n z) e true)):=by
   obtain⟨dp,q1,q2⟩:=iZ (k:=k) (b:=st.next) (off:=0) (len:=n) (cap:=n) (grow:=k) (l:=0) (h:=0) (lo:=none) (hi:=some (I ((0:Nat):Int))) (st:=St.new st (.cells (cH n z) e true)) (by rw[sJ,aAI (by omega)]) (aAE _) (.inr rfl);have:dp=0:=by omega
   subst this;exact q1
  rw[e9,af];unfold tF;rw[aAH h0];exact⟨rfl,rfl⟩
theorem R9 {n:Nat}(hn:n<=100000):R 189 [.ae,I n] st (tF 4 109 [.str [], .str [], .int .i64 0, .int .i64 0] n st):=by
 refine bN ?_;rw[agv];have e0:aj .lss none true (I n) (.int .i64 0) st= .ok (.bool false) st:=by rw[aw,cP,aAB (by omega)]
 rw[cN,e0,af,ag,aAH (by decide)];simp only[aJ,aK];exact Ug (by omega) rfl hn (by omega)
theorem R8 {n:Nat}(hn:n<=100000):R 190 [.ae,I n] st (tF 1 3 [.int .i64 0] n st):=by
 refine bN ?_;rw[agu];have e0:aj .lss none true (I n) (.int .i64 0) st= .ok (.bool false) st:=by rw[aw,cP,aAB (by omega)]
 rw[cN,e0,af,ag,aAH (by decide)];simp only[aJ,aK];exact Ug (by omega) rfl hn (by omega)
def vH (st:St)(k:Nat):List CV->List (List CV)->Prop
 |[],[]=>True
 |v::vs,l::ls=>(Sl st [] v k l/\∃n,l.length=n*k/\n<=10000)/\vH st k vs ls
 |_,_=>False
theorem vH.mono {k:Nat}{vs:List CV}{Ls:List (List CV)}(h:vH st k vs Ls)(hk:Kp [] st st'):vH st' k vs Ls:=by
 induction vs generalizing Ls with
 |nil=>cases Ls with|nil=>trivial|cons l L=>exact h
 |cons v vs ih=>cases Ls with|nil=>exact h|cons l L=>exact⟨⟨h.1.1.mono hk,h.1.2⟩,ih h.2⟩
theorem vH.len {k:Nat}{vs:List CV}{Ls:List (List CV)}(h:vH st k vs Ls):vs.length=Ls.length:=by
 induction vs generalizing Ls with
 |nil=>cases Ls with|nil=>rfl|cons l L=>exact h.elim
 |cons v vs ih=>cases Ls with|nil=>exact h.elim|cons l L=>simp[ih h.2]
theorem vH.at {k:Nat}{vs:List CV}{Ls:List (List CV)}(h:vH st k vs Ls){i:Nat}(hi:i<vs.length):∃fv:i<Ls.length,Sl st [] vs[i] k Ls[i]/\∃n,Ls[i].length=n*k/\n<=10000:=by
 induction vs generalizing Ls i with
 |nil=>simp at hi
 |cons v vs ih=>
  cases Ls with
  |nil=>exact h.elim
  |cons l L=>
   cases i with
   |zero=>exact⟨by simp,h.1⟩
   |succ i=>obtain⟨a,b⟩:=ih h.2 (i:=i) (by simpa using hi);exact⟨by simp;omega,b⟩
def pF (k:Nat)(Ls:List (List CV))(i:Nat):Nat:=(Ls.take i).flatten.length/k
theorem vH.iU {k:Nat}(hk:0<k){vs:List CV}{Ls:List (List CV)}(h:vH st k vs Ls):∀i,(Ls.take i).flatten.length=pF k Ls i*k/\pF k Ls i<=10000*i:=by
 have key:∀(vs:List CV) (Ls:List (List CV)),vH st k vs Ls->∀i,∃m,(Ls.take i).flatten.length=m*k/\m<=10000*i:=by
  intro vs
  induction vs with
  |nil=>intro Ls h i;cases Ls with|nil=>exact⟨0,by simp⟩|cons l L=>exact h.elim
  |cons v vs ih=>
   intro Ls h i;cases Ls with
   |nil=>exact h.elim
   |cons l L=>
    cases i with
    |zero=>exact⟨0,by simp⟩
    |succ i=>
     obtain⟨m,h1,h2⟩:=ih L h.2 i;obtain⟨n,h3,h4⟩:=h.1.2;exact⟨n+m,by rw[aCx,aBU,aAG,h1,h3,aBI],by omega⟩
 intro i;obtain⟨m,h1,h2⟩:=key vs Ls h i;have:pF k Ls i=m:=by unfold pF;rw[h1,Nat.mul_div_cancel _ hk]
 rw[this];exact⟨h1,h2⟩
def vG (s:St)(x:CV)(k e:Nat)(z:List CV)(b m n:Nat)(L:List CV):Prop:=
 L.length=m*k/\m<=n/\((n=0/\x= .ae)\/(0<n/\x= .slice b 0 m n k/\s.mem.get b=some (.cells (L++cH (n-m) z) e true)))
theorem vG.append {s:St}{x v:CV}{k e bytes:Nat}{z:List CV}{b m n j:Nat}{L T:List CV}(h:vG s x k e z b m n L)(hk:0<k)(hz:z.length=k)(hb:b<s.next\/n=0)(hv:Sl s [] v k T)(hT:T.length=j*k)(jh:aV T=true)(hj:m+j<=n):
 ∃x' s',bM e k bytes x (cV .slice k z v s) s= .ok x' s'/\vG s' x' k e z b (m+j) n (L++T)/\s'.next=s.next/\(∀q,q≠b->s'.mem.get q=s.mem.get q):=by
 obtain⟨h1,h2,h3⟩:=h;obtain⟨j',q1,q2⟩:=hv.src z;have:j'=j:=aBG hk (by rw[<-q1,hT]);subst this;rw[q2];have hlen:(L++T).length=(m+j')*k:=by rw[aAG,h1,hT,aBI]
 rcases h3 with⟨rfl,rfl⟩|⟨h4,rfl,h5⟩
 ·have:j'=0:=by omega
  subst this;exact⟨.ae,s,rfl,⟨hlen,hj, .inl ⟨rfl,rfl⟩⟩,rfl,fun _ _=>rfl⟩
 ·by_cases h0:j'=0
  ·subst h0;have hT0:T=[]:=aBa.1 (by omega);subst hT0;refine⟨.slice b 0 m n k,s, ?_,⟨by simpa using h1,h2, .inr ⟨h4,rfl,by simpa using h5⟩⟩,rfl,fun _ _=>rfl⟩;have e:bM e k bytes (.slice b 0 m n k) (some (0,[])) s=bu (Nat.ble m n) (.ok (.slice b 0 m n k) s) .bad:=rfl;rw[e,aO,aAI (by rw[aBe];exact h2)]
  ·have e:bM e k bytes (.slice b 0 m n k) (some (j',T)) s= .ok (.slice b 0 (m+j') n k) (St.set s b (.cells (bp (L++cH (n-m) z) (m*k) T) e true)):=by
    unfold bM;simp only[aO,aBi,dE,aBe];rw[aAH h0,aAI (show Nat.add m j'<=n from hj),h5];dsimp only
    have hl:dQ (L++cH (n-m) z) (0+m*k) T=some (bp (L++cH (n-m) z) (m*k) T):=by
     unfold dQ;rw[aAF,aAI]
     ·rfl
     ·rw[aAG,MB,h1,hT,hz,<-aBI,<-aBI];exact aBu k (by omega)
    rw[jh,aAI rfl,hl];rfl
   refine⟨_,_,e,⟨hlen,hj, .inr ⟨h4,rfl, ?_⟩⟩,rfl,fun q hq=>al _ _ _ _ hq⟩;rw[ao]
   congr 2
   rw[<-h1,oU,aBn]
   congr 2
   rw[hT,<-hz,JY _ _ _ (by omega)]
   congr 1;omega
theorem Jz {gr k e bytes:Nat}{z:List CV}{a0:CV}{vs:List CV}{Ls:List (List CV)}(hk:0<k)(hz:z.length=k)(hgr:∀(s:St) (n:Nat),n<=100000->R gr [.ae,I n] s (tF k e z n s))(ha:Sl st [] a0 1 vs)(h:vH st k vs Ls)(hl:vs.length<=9)(jh:∀l∈Ls,aV l=true):
 c8 (fun v2 s2 k3=>us (aj .lss none false (ar 4 v2) (ar 3 v2) s2) fun x5=>aB x5 (Lim.idx 1 (ar 2 v2) (ar 4 v2) s2 fun x6=>us (bh .slice x6 s2) fun x7=>us (aj .add none false (ar 1 v2) x7 s2) fun x8=>us (aj .lss none true x8 (.int .i64 0) s2) fun x9=>
  aB x9 (us (tT 9 (.str [108,101,110,32,111,117,116,32,111,102,32,114,97,110,103,101]) s2) fun db=>False) (us (aj .add none true (ar 4 v2) (.int .i64 1) s2) fun cW=>k3 [ar 0 v2,x8,ar 2 v2,ar 3 v2,cW] s2))
  (R gr [.ae,ar 1 v2] s2 fun dx s3=>dR (fun la s4=>c8 (fun fk s5 pe=>us (aj .lss none false (ar 3 fk) (ar 2 fk) s5) fun eB=>aB eB (Lim.idx 1 (ar 1 fk) (ar 3 fk) s5 fun dZ=>upon (bM e k bytes (ar 0 fk) (cV .slice k z dZ s5) s5) fun eo s6=>
   us (aj .add none true (ar 3 fk) (.int .i64 1) s6) fun eF=>pe [eo,ar 1 fk,ar 2 fk,eF] s6) (Made k e Ls.flatten st (ar 0 fk) s5)) [ar 0 la,ar 1 la,ar 2 la,ar 3 la] s4) fun qG=>us (bh .slice (ar 0 v2) s3) fun dJ=>qG [dx,ar 0 v2,dJ, .int .i64 0] s3))
  [a0, .int .i64 0,a0,I vs.length, .int .i64 0] st:=by
 have TC:=h.len
 refine bK (fun fu w s=>∃i,fu+i=vs.length/\w=[a0,I (pF k Ls i),a0,I vs.length,I i]/\s=st) ?_ (n:=vs.length) ⟨0,rfl,by
  have:pF k Ls 0=0:=by simp[pF]
  rw[this];rfl,rfl⟩
 rintro fu w s kk ⟨i,hi,rfl,rfl⟩ next;obtain⟨Xs,LJ⟩:=h.iU hk i;simp only[aJ,aK,dv,af,ag]
 by_cases hc:i<vs.length
 ·rw[aAJ hc,aAI rfl];refine ha.idx hc _ ?_;obtain⟨fv,hv,n,Bf,YY⟩:=h.at hc;obtain⟨PK,Gt⟩:=h.iU hk (i+1)
  have Y7:pF k Ls (i+1)=pF k Ls i+n:=by
   refine aBG hk ?_;rw[<-PK,aAR fv,aCZ,aAG,Xs,aBI];simp[Bf]
  have e1:aj .add none false (I (pF k Ls i)) (I n) s= .ok (I (pF k Ls (i+1))) s:=by rw[aw,cE,bz (by omega),Y7];rfl
  have e2:aj .lss none true (I (pF k Ls (i+1))) (.int .i64 0) s= .ok (.bool false) s:=by rw[aw,cP,aAB (by omega)]
  simp only[hv.len n Bf hk s,af,e1,e2,ag,aAz,aAO,gF i (by omega)];exact next (fu-1) _ _ (by omega) ⟨i+1,by omega,rfl,rfl⟩
 ·rw[aAB hc,aAH (by decide)];have Bc:Ls.take i=Ls:=aAK (by omega);rw[Bc]at Xs;refine(hgr s _ (by omega)).mono ?_;intro dx s3 hg;generalize hN:pF k Ls i=N at*
  have ku:Kp [] s s3:=by
   unfold tF at hg
   split at hg
   ·rw[hg.2];exact Kp.refl _ _
   ·rw[hg.2];exact(Kp.refl _ s).new _
  have hn3:s3.next=s.next+1\/N=0:=by
   unfold tF at hg
   split at hg
   ·rename_i h0;exact .inr h0
   ·rw[hg.2];exact .inl rfl
  have hF:vG s3 dx k e z s.next 0 N []:=by
   unfold tF at hg;refine⟨by simp,aDp _, ?_⟩
   split at hg
   ·rename_i h0;exact .inl ⟨h0,hg.1⟩
   ·rename_i h0;rw[hg.2];exact .inr ⟨by omega,hg.1,by simp⟩
  have Jh:=(ha.mono ku).len vs.length (by omega) (by omega) s3;simp only[cN,aJ,aK,Jh,af];refine bK (fun fu w s'=>∃i x,fu+i=vs.length/\w=[x,a0,I vs.length,I i]/\vG s' x k e z s.next (pF k Ls i) N (Ls.take i).flatten/\Kp [] s s'/\(s.next<s'.next\/N=0)) ?_ (n:=vs.length) ⟨0,dx,rfl,rfl,by simpa[pF]using hF,ku,by omega⟩;rintro fu w s' kk ⟨i,x,hi,rfl,Oi,lI,hlt⟩ next;simp only[aJ,aK,dv,af,ag]
  by_cases zc:i<vs.length
  ·rw[aAJ zc,aAI rfl];refine(ha.mono lI).idx zc _ ?_;obtain⟨fv,hv,n,Bf,YY⟩:=(h.mono lI).at zc;obtain⟨HO,_⟩:=h.iU hk i;obtain⟨PK,Gt⟩:=h.iU hk (i+1)
   have Y7:pF k Ls (i+1)=pF k Ls i+n:=by
    refine aBG hk ?_;rw[<-PK,aAR fv,aCZ,aAG,HO,aBI];simp[Bf]
   have hle:pF k Ls i+n<=N:=by
    rw[<-Y7];refine Nat.le_of_mul_le_mul_right ?_ hk;rw[<-PK,<-Xs]
    conv=>rhs;rw[<-aBm (i+1) Ls]
    rw[aCZ,aAG];omega
   obtain⟨x',s6,q1,q2,q3,q4⟩:=Oi.append (bytes:=bytes) hk hz hlt hv Bf (jh _ (aAW fv)) hle;rw[q1,aS,gF i (by omega),af];have e5:(Ls.take i).flatten++Ls[i]=(Ls.take (i+1)).flatten:=by rw[aAR fv,aCZ];simp
   rw[e5,<-Y7]at q2;refine next (fu-1) _ _ (by omega) ⟨i+1,x',by omega,rfl,q2,⟨by rw[q3];exact lI.next,fun b hb EU=>(q4 b (by omega)).trans (lI.keep b hb EU),fun iE b hb=> ?_⟩,by rw[q3];exact hlt⟩;rw[q3]at hb;rcases hlt with hlt|hlt
   ·rw[q4 b (by omega)];exact lI.fresh iE b hb
   ·rcases Oi.2.2 with⟨_,rfl⟩|⟨h4,_⟩
    ·have:n=0:=by omega
     subst this;have hT0:Ls[i]=[]:=aBa.1 (by omega);obtain⟨j',r1,r2⟩:=hv.src z
     have:j'=0:=by
      have h9:j'*k=0:=by rw[<-r1,hT0];rfl
      rcases Nat.mul_eq_zero.1 h9 with h|h
      ·exact h
      ·omega
     subst this;rw[r2]at q1;cases q1;exact lI.fresh iE b hb
    ·omega
  ·rw[aAB zc,aAH (by decide)];have ht:Ls.take i=Ls:=aAK (by omega);obtain⟨HO,_⟩:=h.iU hk i;rw[ht]at HO Oi;have hiN:pF k Ls i=N:=aBG hk (by rw[<-HO,Xs]);rw[hiN]at Oi;obtain⟨f1,f2,f3⟩:=Oi;rcases f3 with⟨h0,rfl⟩|⟨h0,rfl,f4⟩
   ·have:Ls.flatten=[]:=aBa.1 (by rw[f1,h0];simp);exact⟨[],lI, .inl ⟨rfl,this,rfl⟩,by simp⟩
   ·refine⟨[s.next],lI, .inr (.inr ⟨s.next,N,rfl,h0,f1,rfl, ?_⟩),fun b hb=> ?_⟩
    ·rw[f4];simp[cH]
    ·simp at hb;subst hb;omega
theorem Bt {a0:CV}{vs:List CV}{Ls:List (List CV)}(ha:Sl st [] a0 1 vs)(h:vH st 4 vs Ls)(hl:vs.length<=9)(jh:∀l∈Ls,aV l=true):R 147 [a0] st (Made 4 109 Ls.flatten st):=by
 refine bN ?_;rw[ahb];have hlen:=ha.len vs.length (by omega) (by omega) st;have:=Jz (gr:=189) (k:=4) (e:=109) (bytes:=48) (z:=[.str [], .str [], .int .i64 0, .int .i64 0]) (by omega) rfl (fun s n hn=>R9 hn) ha h hl jh;simp only[cN,aJ,aK,hlen,af]at this⊢;exact this
theorem KW {a0:CV}{vs:List CV}{Ls:List (List CV)}(ha:Sl st [] a0 1 vs)(h:vH st 1 vs Ls)(hl:vs.length<=9)(jh:∀l∈Ls,aV l=true):R 148 [a0] st (Made 1 3 Ls.flatten st):=by
 refine bN ?_;rw[aha];have hlen:=ha.len vs.length (by omega) (by omega) st;have:=Jz (gr:=190) (k:=1) (e:=3) (bytes:=8) (z:=[.int .i64 0]) (by omega) rfl (fun s n hn=>R8 hn) ha h hl jh;simp only[cN,aJ,aK,hlen,af]at this⊢;exact this
end
section
variable {st st':St}
theorem jV {l:List dh}(h:l.length<=10000):∃n,(bC l).length=n*4/\n<=10000:=⟨l.length,bL l,h⟩
theorem SD {va vb:CV}{a b:bg}{sep:cc}(hf:cY st)(ha:IsNode st [] va a)(hb:IsNode st [] vb b)(h1:a.cells.length<=1000)(h2:b.cells.length<=1000)(h3:a.kids.length<=1001)(h4:b.kids.length<=1001):
 R 107 [va, .str sep,vb] st fun x st'=>Kp [] st st'/\∀X,(∀b∈X,b<st.next)->IsNode st' X x (dy a sep b):=by
 obtain⟨c1,d1,rfl,e1,f1⟩:=ha;obtain⟨c2,d2,rfl,e2,f2⟩:=hb;obtain⟨x1,x2,x3⟩:=e1.bG;obtain⟨y1,y2,y3⟩:=f1.bG;obtain⟨z1,z2,z3⟩:=e2.bG;obtain⟨w1,w2,w3⟩:=f2.bG;refine bN ?_;rw[ahH];rw[cn,aX];refine⟨rfl, ?_⟩;have k1:Kp [] st (St.new st (.cells [.bool a.leaf,c1,d1] 105 false)):=(Kp.refl [] st).new _;have g1:(St.new st (.cells [.bool a.leaf,c1,d1] 105 false)).mem.get st.next=some (.cells [.bool a.leaf,c1,d1] 105 false):=au _ _;have n1:(St.new st (.cells [.bool a.leaf,c1,d1] 105 false)).next=st.next+1:=rfl;generalize St.new st (.cells [.bool a.leaf,c1,d1] 105 false)=s1 at*;rw[cn,aX];refine⟨rfl, ?_⟩;have k2:Kp [] s1 (St.new s1 (.cells [.bool b.leaf,c2,d2] 105 false)):=(Kp.refl [] s1).new _;have g2:(St.new s1 (.cells [.bool b.leaf,c2,d2] 105 false)).mem.get s1.next=some (.cells [.bool b.leaf,c2,d2] 105 false):=au _ _;have n2:(St.new s1 (.cells [.bool b.leaf,c2,d2] 105 false)).next=s1.next+1:=rfl;generalize St.new s1 (.cells [.bool b.leaf,c2,d2] 105 false)=s2 at*;have k3:Kp [] s2 (St.new s2 (.cells [.bool false, .ae, .ae] 105 false)):=(Kp.refl [] s2).new _;have g3:(St.new s2 (.cells [.bool false, .ae, .ae] 105 false)).mem.get s2.next=some (.cells [.bool false, .ae, .ae] 105 false):=au _ _;have n3:(St.new s2 (.cells [.bool false, .ae, .ae] 105 false)).next=s2.next+1:=rfl;rw[cG,aS];generalize St.new s2 (.cells [.bool false, .ae, .ae] 105 false)=s3 at*;have qa:=(k3.keep st.next (by omega) (by simp)).trans ((k2.keep st.next (by omega) (by simp)).trans g1);have HV:=(k3.keep s1.next (by omega) (by simp)).trans g2;have ku:Kp [] st s3:=(k1.trans k2 (by simp)).trans k3 (by simp);have jZ:∀a b c:CV,bp [.bool false, .ae, .ae] 0 [a,b,c]=[a,b,c]:=fun a b c=>rfl;simp only[fl,ah,af,aA,qa,aq,aAF,aAA,aAy,av,ag];cases fV:a.leaf with
 |true=>
  have LK:bQ 102 2 (cH 2 [.ae]) [(0,1,c1),(1,1,c2)] s3= .ok (.slice s3.next 0 2 2 0) (St.new s3 (.cells [c1,c2] 102 false)):=by
   have e:fX [(0,1,c1),(1,1,c2)] (cH 2 [.ae])=some [c1,c2]:=by
    rw[cF,aAI ⟨⟨by rw[x3];rfl,x1⟩,by rw[x3];exact(by decide:0+1<=2)⟩,cF,aAI ⟨⟨by rw[z3];rfl,z1⟩,by rw[z3,x3];exact(by decide:1+1<=2)⟩,kv,x3,z3];rfl
   unfold bQ;rw[e];rfl
  simp only[aAY,HV,aq,aAA,aAy,av,LK,aS];have k4:Kp [] s3 (St.new s3 (.cells [c1,c2] 102 false)):=(Kp.refl [] s3).new _;have g4:(St.new s3 (.cells [c1,c2] 102 false)).mem.get s3.next=some (.cells [c1,c2] 102 false):=au _ _;have n4:(St.new s3 (.cells [c1,c2] 102 false)).next=s3.next+1:=rfl;generalize St.new s3 (.cells [c1,c2] 102 false)=s4 at*;have sv:Kp [] st s4:=ku.trans k4 (by simp);have kL:Sl s4 [] (.slice s3.next 0 2 2 0) 1 [c1,c2]:= .inr ⟨s3.next,0,2,2,0,rfl,rfl,⟨aAE _, .inl rfl⟩, .inr ⟨by simp,by omega,_,_,_,g4,by simp,rfl⟩⟩;refine(Bt (Ls:=[bC a.cells,bC b.cells]) kL ⟨⟨e1.mono sv,jV (by omega)⟩,⟨e2.mono sv,jV (by omega)⟩,trivial⟩ (by simp) (by simp)).mono ?_;intro x8 s5 m5;have k5:=m5.kp;have n5:=k5.next;have g35:=(k5.keep s2.next (by omega) (by simp)).trans ((k4.keep s2.next (by omega) (by simp)).trans g3);obtain⟨F,a1,a2,a3⟩:=m5;obtain⟨p1,p2⟩:=a2.cr;have p3:x8.isAny=false:=(a2.sl (X:=[]) fun b hb=>⟨by simp,(a3 b hb).2⟩).bG.1
  have mC:bD [.bool false, .ae, .ae] [(0,1, .bool true),(1,1,x8)] s5= .ok (.agg [.bool true,x8, .ae]) s5:=by
   rw[dN];simp[cF,bp,p2,p3]
  rw[mC,af,aF,g35,aR,aX,jZ];refine⟨⟨rfl,by simp[p1],by simp⟩, ?_⟩;rw[aQ (n:=3) (ao _ _ _) rfl,af];refine⟨(sv.trans k5 (by simp)).set _ (.inr (by omega)) (by omega),fun X hX=>⟨x8, .ae, ?_, ?_, .inl ⟨rfl, ?_⟩⟩⟩
  ·unfold dy;rw[aAI fV]
  ·have:bC (dy a sep b).cells=[bC a.cells,bC b.cells].flatten:=by unfold dy;rw[aAI fV,gS];simp
   rw[this];exact(a2.mono fun q hq=>al _ _ _ _ (by have:=(a3 q hq).1;omega)).sl fun q hq=>⟨fun h=>by have:=hX q h;have:=(a3 q hq).1;have:=sv.next;omega,(a3 q hq).2⟩
  ·unfold dy;rw[aAI fV];rfl
 |false=>
  rw[aAH (by decide),bt];have Hw:Kp [] s3 (St.skip (St.skip (St.skip s3))):=((Kp.refl _ s3).skip).skip.skip;have iE:=ku.fresh hf;have gm:∀q,(St.skip (St.skip (St.skip s3))).mem.get q=s3.mem.get q:=fun q=>rfl;have nsk:(St.skip (St.skip (St.skip s3))).next=s3.next+3:=rfl;have y1':(St.skip s3).next=s3.next+1:=rfl;have y2':(St.skip (St.skip s3)).next=s3.next+2:=rfl;have WC:(St.skip (St.skip (St.skip s3))).mem.get s3.next=none:=iE _ (aAE _);have Wz:(St.skip (St.skip (St.skip s3))).mem.get (s3.next+1)=none:=iE _ (by omega);have CM:(St.skip (St.skip (St.skip s3))).mem.get (s3.next+2)=none:=iE _ (by omega);rw[y1',y2'];generalize St.skip (St.skip (St.skip s3))=s6 at*;have Ou:=(Hw.keep st.next (by omega) (by simp)).trans qa;have XR:=(Hw.keep s1.next (by omega) (by simp)).trans HV;have g36:=(Hw.keep s2.next (by omega) (by simp)).trans g3;have aml:bD [.str [], .str [], .int .i64 0, .int .i64 0] [(0,1, .str sep)] s6= .ok (.agg (aU (fK sep))) s6:=rfl;simp only[aA,Ou,aq,aAA,aAy,av,aml,af];rw[jb WC (C0 (k:=4) rfl rfl rfl),aS];have k7:Kp [s3.next,s3.next+1,s3.next+2] s6 (St.set s6 s3.next (.cells (CV.agg (aU (fK sep))).cD 109 false)):=(Kp.refl _ s6).set _ (.inl (by simp)) (by omega);have g77:(St.set s6 s3.next (.cells (CV.agg (aU (fK sep))).cD 109 false)).mem.get s3.next=some (.cells (aU (fK sep)) 109 false):=ao _ _ _;have g71:(St.set s6 s3.next (.cells (CV.agg (aU (fK sep))).cD 109 false)).mem.get (s3.next+1)=none:=(al _ _ _ _ (by omega)).trans Wz;have g72:(St.set s6 s3.next (.cells (CV.agg (aU (fK sep))).cD 109 false)).mem.get (s3.next+2)=none:=(al _ _ _ _ (by omega)).trans CM;have n7:(St.set s6 s3.next (.cells (CV.agg (aU (fK sep))).cD 109 false)).next=s6.next:=rfl;generalize St.set s6 s3.next (.cells (CV.agg (aU (fK sep))).cD 109 false)=s7 at*;have g27:=(k7.keep s1.next (by omega) (by simp;omega)).trans XR;have Sc:=(k7.keep st.next (by omega) (by simp;omega)).trans Ou;have g37:=(k7.keep s2.next (by omega) (by simp;omega)).trans g36;simp only[aA,g27,aq,aAA,aAy,av]
  have alB:fX [(0,1,c1),(1,1, .slice s3.next 0 1 1 0),(2,1,c2)] (cH 3 [.ae])=some [c1, .slice s3.next 0 1 1 0,c2]:=by
   rw[cF,aAI ⟨⟨by rw[x3];rfl,x1⟩,by rw[x3];exact(by decide:0+1<=3)⟩,cF,aAI ⟨⟨rfl,rfl⟩,by rw[x3];exact(by decide:1+1<=3)⟩,cF,aAI ⟨⟨by rw[z3];rfl,z1⟩,by rw[z3,x3];exact(by decide:2+1<=3)⟩,kv,x3,z3];rfl
  rw[jb g71 alB,aS];have k8:Kp [s3.next,s3.next+1,s3.next+2] s6 (St.set s7 (s3.next+1) (.cells [c1, .slice s3.next 0 1 1 0,c2] 102 false)):=k7.set _ (.inl (by simp)) (by omega);have g88:(St.set s7 (s3.next+1) (.cells [c1, .slice s3.next 0 1 1 0,c2] 102 false)).mem.get (s3.next+1)=some (.cells [c1, .slice s3.next 0 1 1 0,c2] 102 false):=ao _ _ _;have g87:(St.set s7 (s3.next+1) (.cells [c1, .slice s3.next 0 1 1 0,c2] 102 false)).mem.get s3.next=some (.cells (aU (fK sep)) 109 false):=(al _ _ _ _ (by omega)).trans g77;have Zi:(St.set s7 (s3.next+1) (.cells [c1, .slice s3.next 0 1 1 0,c2] 102 false)).mem.get (s3.next+2)=none:=(al _ _ _ _ (by omega)).trans g72;have n8:(St.set s7 (s3.next+1) (.cells [c1, .slice s3.next 0 1 1 0,c2] 102 false)).next=s6.next:=n7;generalize St.set s7 (s3.next+1) (.cells [c1, .slice s3.next 0 1 1 0,c2] 102 false)=s8 at*;have Y2:Kp [] st s8:=(ku.trans Hw (by simp)).trans k8 (by intro q hq;simp at hq;omega);have ajK:Sl s8 [] (.slice (s3.next+1) 0 3 3 0) 1 [c1, .slice s3.next 0 1 1 0,c2]:= .inr ⟨s3.next+1,0,3,3,0,rfl,rfl,⟨aAE _, .inl rfl⟩, .inr ⟨by simp,by omega,_,_,_,g88,by simp,rfl⟩⟩;have abk:Sl s8 [] (.slice s3.next 0 1 1 0) 4 (aU (fK sep)):= .inr ⟨s3.next,0,1,1,0,rfl,rfl,⟨aAE _, .inl rfl⟩, .inr ⟨by simp,by omega,_,_,_,g87,by simp[aU],rfl⟩⟩;have Sb:=(k8.keep st.next (by omega) (by simp;omega)).trans Ou;have Zl:=(k8.keep s1.next (by omega) (by simp;omega)).trans XR;have g38:=(k8.keep s2.next (by omega) (by simp;omega)).trans g36;refine(Bt (Ls:=[bC a.cells,aU (fK sep),bC b.cells]) ajK ⟨⟨e1.mono Y2,jV (by omega)⟩,⟨abk,1,rfl,by omega⟩,⟨e2.mono Y2,jV (by omega)⟩,trivial⟩ (by simp) (by simp)).mono ?_;intro dZ s9 m9;have k9:=m9.kp;have n9:=k9.next;have Um:=(k9.keep st.next (by omega) (by simp)).trans Sb;have Zk:=(k9.keep s1.next (by omega) (by simp)).trans Zl;have Zj:=(k9.keep s2.next (by omega) (by simp)).trans g38;have g92:s9.mem.get (s3.next+2)=none:=(k9.keep (s3.next+2) (by omega) (by simp)).trans Zi;have PH:Kp [] st s9:=Y2.trans k9 (by simp)
  simp only[aA,Um,Zk,aq,aAF,aAA,aAy,av]
  have alC:fX [(0,1,d1),(1,1,d2)] (cH 2 [.ae])=some [d1,d2]:=by
   rw[cF,aAI ⟨⟨by rw[y3];rfl,y1⟩,by rw[y3];exact(by decide:0+1<=2)⟩,cF,aAI ⟨⟨by rw[w3];rfl,w1⟩,by rw[w3,y3];exact(by decide:1+1<=2)⟩,kv,y3,w3];rfl
  rw[jb g92 alC,aS];have so:Kp [s3.next+2] s9 (St.set s9 (s3.next+2) (.cells [d1,d2] 103 false)):=(Kp.refl _ s9).set _ (.inl (by simp)) (by omega);have PS:(St.set s9 (s3.next+2) (.cells [d1,d2] 103 false)).mem.get (s3.next+2)=some (.cells [d1,d2] 103 false):=ao _ _ _;have M5:(St.set s9 (s3.next+2) (.cells [d1,d2] 103 false)).next=s9.next:=rfl;have oC:Kp [] st (St.set s9 (s3.next+2) (.cells [d1,d2] 103 false)):=PH.trans so (by intro q hq;simp at hq;omega);obtain⟨F,a1,a2,a3⟩:=m9;have Sw:Own (St.set s9 (s3.next+2) (.cells [d1,d2] 103 false)) dZ 4 109 [bC a.cells,aU (fK sep),bC b.cells].flatten F:=a2.mono fun q hq=>al _ _ _ _ (by have:=(a3 q hq).1;omega);have XU:(St.set s9 (s3.next+2) (.cells [d1,d2] 103 false)).mem.get st.next=_:=(al _ _ _ _ (by omega)).trans Um;have XT:(St.set s9 (s3.next+2) (.cells [d1,d2] 103 false)).mem.get s1.next=_:=(al _ _ _ _ (by omega)).trans Zk;have HU:(St.set s9 (s3.next+2) (.cells [d1,d2] 103 false)).mem.get s2.next=_:=(al _ _ _ _ (by omega)).trans Zj;generalize St.set s9 (s3.next+2) (.cells [d1,d2] 103 false)=df at*;have abi:Sl df [] (.slice (s3.next+2) 0 2 2 0) 1 [d1,d2]:= .inr ⟨s3.next+2,0,2,2,0,rfl,rfl,⟨aAE _, .inl rfl⟩, .inr ⟨by simp,by omega,_,_,_,PS,by simp,rfl⟩⟩;refine(KW (Ls:=[ck a.kids,ck b.kids]) abi ⟨⟨f1.mono oC,a.kids.length,by simp,by omega⟩,⟨f2.mono oC,b.kids.length,by simp,by omega⟩,trivial⟩ (by simp) (by simp)).mono ?_;intro fO de m11;have qy:=m11.kp;have M4:=qy.next;have anA:=(qy.keep s2.next (by omega) (by simp)).trans HU;obtain⟨F2,b1,b2,b3⟩:=m11;obtain⟨p1,p2⟩:=a2.cr;have p3:dZ.isAny=false:=(a2.sl (X:=[]) fun b hb=>⟨by simp,(a3 b hb).2⟩).bG.1;obtain⟨q1,q2⟩:=b2.cr;have q3:fO.isAny=false:=(b2.sl (X:=[]) fun b hb=>⟨by simp,(b3 b hb).2⟩).bG.1
  have mC:bD [.bool false, .ae, .ae] [(1,1,dZ),(2,1,fO)] de= .ok (.agg [.bool false,dZ,fO]) de:=by
   rw[dN];simp[cF,bp,p2,p3,q2,q3]
  rw[mC,af,aF,anA,aR,aX,jZ];refine⟨⟨rfl,by simp[p1,q1],by simp⟩, ?_⟩;simp only[aA,Sb,Zl,XU,XT,Zi,aq,aAA,aAy,av,aCC,and_true];rw[aQ (n:=3) (ao _ _ _) rfl,af];refine⟨(oC.trans qy (by simp)).set _ (.inr (by omega)) (by omega),fun X hX=>⟨dZ,fO, ?_, ?_, ?_⟩⟩
  ·unfold dy;rw[aAH (by rw[fV];decide)]
  ·have:bC (dy a sep b).cells=[bC a.cells,aU (fK sep),bC b.cells].flatten:=by unfold dy;rw[aAH (by rw[fV];decide),gS];simp[bC]
   rw[this];have aof:=Sw.keep qy fun q hq=>⟨by have:=(a3 q hq).2;omega,by simp⟩;exact(aof.mono fun q hq=>al _ _ _ _ (by have:=(a3 q hq).1;omega)).sl fun q hq=>⟨fun h=>by have:=hX q h;have:=(a3 q hq).1;have:=Y2.next;omega,by have:=(a3 q hq).2;simp;omega⟩
  ·have:ck (dy a sep b).kids=[ck a.kids,ck b.kids].flatten:=by unfold dy;rw[aAH (by rw[fV];decide),mT];simp
   rw[this];exact(b2.mono fun q hq=>al _ _ _ _ (by have:=(b3 q hq).1;omega)).sl fun q hq=>⟨fun h=>by have:=hX q h;have:=(b3 q hq).1;have:=oC.next;omega,by have:=(b3 q hq).2;simp;omega⟩
end
section
variable {st st':St}
def kZ (k e:Nat)(L:List CV)(F:List Nat)(st:St)(x:CV)(st':St):Prop:=∃F',Own st' x k e L F'/\Kp F st st'/\∀b∈F',(b∈F\/st.next<=b)/\b<st'.next
theorem Ba {e k n i b vb:Nat}{L T:List CV}(hk:0<k)(hb:st.mem.get b=some (.cells L e true))(hv:st.mem.get vb=some (.cells T e false))(gL:b≠vb)(hL:L.length=n*k)(hT:T.length=k)(hi:i<n)(hn:n<=1000000)(ho:aV L=true)(Gl:aV T=true):
 mg e k [.slice b 0 n n k,I i, .slice vb 0 1 1 0] st=some (.ok (.slice st.next 0 (n+1) (n+1) k) ⟨(st.mem.put b none).put st.next (some (.cells (L.take (i*k)++(T++L.drop (i*k))) e true)),st.next+1⟩):=by
 have e0:mg e k [.slice b 0 n n k,I i, .slice vb 0 1 1 0] st=mg e k [.slice b 0 n n k, .int .i64 (.ofNat i), .slice vb 0 1 1 0] st:=rfl;rw[e0];simp only[mg,hb,hv];rw[aAI ⟨trivial,trivial,hk,hi,gL,trivial,trivial,hL,ho,Gl,hT,hn⟩]
theorem wT {e k n i b vb:Nat}{L T:List CV}(hk:0<k)(hlt:b<st.next)(hL:L.length=n*k)(hT:T.length=k)(hi:i<n):kZ k e (L.take (i*k)++(T++L.drop (i*k))) [b] st (.slice st.next 0 (n+1) (n+1) k) ⟨(st.mem.put b none).put st.next (some (.cells (L.take (i*k)++(T++L.drop (i*k))) e true)),st.next+1⟩:=by
 have E8:i*k<=n*k:=aBu k (by omega);refine⟨[st.next], .inr (.inr ⟨st.next,n+1,rfl,by omega, ?_,rfl,PT.cI _ _ _⟩),⟨by simp,fun q h1 h2=> ?_,fun hf q hq=> ?_⟩,fun q hq=>⟨.inr (by simp at hq;omega),by simp at hq;simp;omega⟩⟩
 ·rw[aAG,aAG,aAN,aAX,hT,hL,aBI];omega
 ·show((st.mem.put b none).put st.next _).get q=_;rw[PT.c9 _ _ _ _ (by omega),PT.c9 _ _ _ _ (by simpa using h2)]
 ·show((st.mem.put b none).put st.next _).get q=_;simp only at hq;rw[PT.c9 _ _ _ _ (by omega),PT.c9 _ _ _ _ (by omega)];exact hf q (by omega)
theorem I2 {k e bytes n vb:Nat}{v:CV}{L T z:List CV}{F:List Nat}{g:Bool}{K:CV->CV->Prop}(ho:Own st v k e L F)(hk:0<k)(hL:L.length=n*k)(hn:n<=1000000)(hF:∀b∈F,b<st.next)(hv:st.mem.get vb=some (.cells T e g))(hT:T.length=k)(Gl:aV T=true)(hkb:k<=4)(hb:bytes<=48):
 us (aL k v (some (I n)) none st) fun x1=>us (bh .slice (.slice vb 0 1 1 0) st) fun x2=>us (aj .eql (some .int) true x2 (.int .i64 0) st) fun x3=>aB x3 (kZ k e (L++T) F st v st) (us (bh .slice v st) fun x4=>us (aj .eql (some .int) false (I n) x4 st) fun x5=>
  aB x5 (upon (bM e k bytes v (cV .slice k z (.slice vb 0 1 1 0) st) st) fun x6 s1=>kZ k e (L++T) F st x6 s1) (K x2 x4)):=by
 have kL:Sl st [] v k L:=ho.sl fun b hb=>⟨by simp,hF b hb⟩;obtain⟨v',p1,_⟩:=kL.lo hk hL (aAE n) st;have e2:aj .eql (some .int) true (I ((1:Nat):Int)) (.int .i64 0) st= .ok (.bool false) st:=rfl;have e3:aj .eql (some .int) false (I n) (I n) st= .ok (.bool true) st:=by rw[aw,cz,aAJ rfl]
 have e1:bh .slice (.slice vb 0 1 1 0) st= .ok (I ((1:Nat):Int)) st:=rfl;rw[p1,af,e1,af,e2,af,ag,aAH (by decide),kL.len n hL hk st,af,e3,af,ag,aAI rfl,Em (k:=k) (n:=1) hv (by omega) (by omega)];have hnk:n*k<=1000000*4:=aDo hn hkb;have hsz:(L.length+T.length)*(bytes+1)<=(4000004)*49:=aDo (by omega) (by omega);obtain⟨x,s,F',a1,a2,a3,a4⟩:=ho.append (n:=1) (bytes:=bytes) (T:=T) hk (by omega) Gl hF (by omega);rw[a1,aS];exact⟨F',a2,a3,fun b hb=>⟨(a4 b hb).1.imp id fun h=>by omega,(a4 b hb).2⟩⟩
theorem lG {v:CV}{k e n:Nat}{L:List CV}{F:List Nat}(ho:Own st v k e L F)(hk:0<k)(hL:L.length=n*k)(hn:0<n):∃b,v= .slice b 0 n n k/\F=[b]/\st.mem.get b=some (.cells L e true):=by
 have hp:0<n*k:=Nat.mul_pos hn hk;rcases ho with⟨_,rfl,_⟩|⟨b,l,t,g,_,rfl,_⟩|⟨b,m,h1,h2,h3,h4,h5⟩
 ·simp at hL;omega
 ·simp at hL;omega
 ·have:m=n:=aBG hk (by omega);subst this;exact⟨b,h1,h4,h5⟩
theorem EL {v:CV}{L T:List CV}{F:List Nat}{n i vb:Nat}(ho:Own st v 4 109 L F)(hL:L.length=n*4)(hn:n<=1000000)(hF:∀b∈F,b<st.next)(hv:st.mem.get vb=some (.cells T 109 false))(hvF:vb∉F)(hT:T.length=4)(Ku:aV L=true)(Gl:aV T=true)(hi:i<=n):
 R 51 [v,I i, .slice vb 0 1 1 0] st (kZ 4 109 (L.take (i*4)++(T++L.drop (i*4))) F st):=by
 by_cases kW:i<n
 ·obtain⟨b,rfl,rfl,hb⟩:=lG ho (by omega) hL (by omega);refine Pb (st':=_) (v:=_) (show I0 51 _ st=some (.ok _ _)from ?_) (wT (e:=109) (vb:=vb) (by omega) (hF b (by simp)) hL hT kW);have:I0 51 [.slice b 0 n n 4,I i, .slice vb 0 1 1 0] st=mg 109 4 [.slice b 0 n n 4,I i, .slice vb 0 1 1 0] st:=rfl;rw[this];exact Ba (by omega) hb hv (fun e=>hvF (by simp[e])) hL hT kW hn Ku Gl
 ·have:i=n:=by omega
  subst this;refine bN ?_ ?_
  ·rw[w51];have e1:L.take (i*4)=L:=aAK (by omega);have e2:L.drop (i*4)=[]:=aBj (by omega);have e3:kZ 4 109 (L.take (i*4)++(T++L.drop (i*4))) F st=kZ 4 109 (L++T) F st:=by rw[e1,e2,aBz]
   rw[e3];exact I2 (bytes:=48) (z:=[.str [], .str [], .int .i64 0, .int .i64 0]) ho (by omega) hL hn hF hv hT Gl (by omega) (by omega)
  ·by_cases h0:i=0
   ·subst h0;rcases ho with⟨rfl,_⟩|⟨b,l,t,g,rfl,_⟩|⟨b,m,rfl,h2,h3,_⟩
    ·rfl
    ·have e9:∀args,I0 51 args st=mg 109 4 args st:=fun args=>rfl;rw[e9];have:mg 109 4 [.slice b 0 0 0 0,I ((0:Nat):Int), .slice vb 0 1 1 0] st=mg 109 4 [.slice b 0 0 0 0, .int .i64 (.ofNat 0), .slice vb 0 1 1 0] st:=rfl;rw[this];simp only[mg]
     split
     ·rw[aAH (by omega)]
     ·rfl
    ·rw[h3]at hL;omega
   ·obtain⟨b,rfl,rfl,hb⟩:=lG ho (by omega) hL (by omega);have e9:∀args,I0 51 args st=mg 109 4 args st:=fun args=>rfl;rw[e9];have:mg 109 4 [.slice b 0 i i 4,I i, .slice vb 0 1 1 0] st=mg 109 4 [.slice b 0 i i 4, .int .i64 (.ofNat i), .slice vb 0 1 1 0] st:=rfl;rw[this];simp only[mg]
    split
    ·rw[aAH (by omega)]
    ·rfl
theorem Kq {v:CV}{L T:List CV}{F:List Nat}{n i vb:Nat}(ho:Own st v 1 3 L F)(hL:L.length=n*1)(hn:n<=1000000)(hF:∀b∈F,b<st.next)(hv:st.mem.get vb=some (.cells T 3 false))(hvF:vb∉F)(hT:T.length=1)(Ku:aV L=true)(Gl:aV T=true)(hi:i<=n):
 R 144 [v,I i, .slice vb 0 1 1 0] st (kZ 1 3 (L.take (i*1)++(T++L.drop (i*1))) F st):=by
 by_cases kW:i<n
 ·obtain⟨b,rfl,rfl,hb⟩:=lG ho (by omega) hL (by omega);refine Pb (st':=_) (v:=_) (show I0 144 _ st=some (.ok _ _)from ?_) (wT (e:=3) (vb:=vb) (by omega) (hF b (by simp)) hL hT kW);have:I0 144 [.slice b 0 n n 1,I i, .slice vb 0 1 1 0] st=mg 3 1 [.slice b 0 n n 1,I i, .slice vb 0 1 1 0] st:=rfl;rw[this];exact Ba (by omega) hb hv (fun e=>hvF (by simp[e])) hL hT kW hn Ku Gl
 ·have:i=n:=by omega
  subst this;refine bN ?_ ?_
  ·rw[ZD];have e1:L.take (i*1)=L:=aAK (by omega);have e2:L.drop (i*1)=[]:=aBj (by omega);have e3:kZ 1 3 (L.take (i*1)++(T++L.drop (i*1))) F st=kZ 1 3 (L++T) F st:=by rw[e1,e2,aBz]
   rw[e3];exact I2 (bytes:=8) (z:=[.int .i64 0]) ho (by omega) hL hn hF hv hT Gl (by omega) (by omega)
  ·by_cases h0:i=0
   ·subst h0;rcases ho with⟨rfl,_⟩|⟨b,l,t,g,rfl,_⟩|⟨b,m,rfl,h2,h3,_⟩
    ·rfl
    ·have e9:∀args,I0 144 args st=mg 3 1 args st:=fun args=>rfl;rw[e9];have:mg 3 1 [.slice b 0 0 0 0,I ((0:Nat):Int), .slice vb 0 1 1 0] st=mg 3 1 [.slice b 0 0 0 0, .int .i64 (.ofNat 0), .slice vb 0 1 1 0] st:=rfl;rw[this];simp only[mg]
     split
     ·rw[aAH (by omega)]
     ·rfl
    ·rw[h3]at hL;omega
   ·obtain⟨b,rfl,rfl,hb⟩:=lG ho (by omega) hL (by omega);have e9:∀args,I0 144 args st=mg 3 1 args st:=fun args=>rfl;rw[e9];have:mg 3 1 [.slice b 0 i i 1,I i, .slice vb 0 1 1 0] st=mg 3 1 [.slice b 0 i i 1, .int .i64 (.ofNat i), .slice vb 0 1 1 0] st:=rfl;rw[this];simp only[mg]
    split
    ·rw[aAH (by omega)]
    ·rfl
theorem Ju {k e bytes n i:Nat}{v:CV}{L z:List CV}{F:List Nat}(ho:Own st v k e L F)(hk:0<k)(hL:L.length=n*k)(hn:n<=1000000)(hF:∀b∈F,b<st.next)(hz:z.length=k)(hoz:aV z=true)(Ku:aV L=true)(hi:i<n):
 us (bh .slice v st) fun x1=>us (iv k v (some (I i)) (I ((i+1:Nat):Int)) x1 st) fun x2=>us (aj .eql (some .int) false (I i) (I ((i+1:Nat):Int)) st) fun x3=>aB x3 False
  (us (bh .slice v st) fun x4=>bT (us (aL k v none (some (I i)) st) fun x5=>us (aL k v (some (I ((i+1:Nat):Int))) none st) fun x6=>upon (bM e k bytes x5 (cV .slice k z x6 st) st) fun x7 s1=>(True)/\(True)/\
   us (bh .slice x7 s1) fun x8=>us (aL k x7 (some x8) (some x4) s1) fun x9=>upon (qZ z x9 s1) fun _ s2=>(kK s2 F x7 k (L.take (i*k)++L.drop ((i+1)*k))/\Kp F st s2/\s2.next=st.next))):=by
 obtain⟨b,rfl,rfl,hb⟩:=lG ho hk hL (by omega);have sY:=hF b (by simp);have e1:bh .slice (.slice b 0 n n k) st= .ok (I n) st:=rfl
 have e2:∃y,iv k (.slice b 0 n n k) (some (I i)) (I ((i+1:Nat):Int)) (I n) st= .ok y st:=by
  unfold iv;dsimp only;rw[sK,aAI (aAE _)];dsimp only;rw[pk,aAI ⟨by omega,by omega⟩];simp only[dE,aO,aBB,aBe,aBi];rw[aAI (.inr (by omega))]
  split<;>exact⟨_,rfl⟩
 obtain⟨y,e2⟩:=e2;have e3:aj .eql (some .int) false (I i) (I ((i+1:Nat):Int)) st= .ok (.bool false) st:=by rw[aw,cz,aAB (by omega)]
 have E8:i*k+k<=n*k:=by
  calc i*k+k=(i+1)*k:=by rw[aBI,aCH]
   _<=n*k:=aBu k hi
 have avQ:(i+1)*k=i*k+k:=by rw[aBI,aCH]
 have EW:(n-1)*k+k=n*k:=by
  have:(n-1)*k+k=(n-1+1)*k:=by rw[aBI,aCH]
  rw[this];congr 1;omega
 have hmd:(n-(i+1))*k=n*k-(i+1)*k:=Nat.sub_mul _ _ _
 have YL:n-(i+1)=0->i*k=(n-1)*k/\i=n-1:=fun h=>by have:i=n-1:=by omega
                                                  subst this;exact⟨rfl,rfl⟩
 obtain⟨o5,p5,q5⟩:=iZ (k:=k) (b:=b) (off:=0) (len:=n) (cap:=n) (grow:=k) (l:=0) (h:=i) (lo:=none) (hi:=some (I i)) (st:=st) (by rw[sJ,aAI (by omega)]) (aAE _) (.inr rfl);have:o5=0:=by omega
 subst this;obtain⟨o6,p6,q6⟩:=iZ (k:=k) (b:=b) (off:=0) (len:=n) (cap:=n) (grow:=k) (l:=i+1) (h:=n) (lo:=some (I ((i+1:Nat):Int))) (hi:=none) (st:=st) (by rw[xH,aAI (by omega)]) (aAE _) (.inr rfl);simp only[Nat.sub_zero]at p5;simp only[e1,af,e2,e3,ag,aAz,aAO,bt,p5,p6];have h9:=fun C=>iZ (k:=k) (b:=b) (off:=0) (len:=n-1) (cap:=n) (grow:=k) (l:=n-1) (h:=n) (lo:=some (I ((n-1:Nat):Int))) (hi:=some (I n)) (st:=St.set st b (.cells C e true)) (by rw[pk,aAI ⟨by omega,by omega⟩]) (by omega) (.inr rfl);have hlw:∀(l:List CV) (off:Nat) (t:List CV),off+t.length<=l.length->dQ l off t=some (bp l off t):=fun l off t h=>by unfold dQ;rw[aAI h];rfl
 generalize hA:i*k=A at*;generalize hB:(i+1)*k=B at*;generalize hN:n*k=N at*;generalize hM:(n-1)*k=M at*;generalize hD:(n-(i+1))*k=D at*
 have hT:cV .slice k z (.slice b o6 (n-(i+1)) (n-(i+1)) k) st=some (n-(i+1),L.drop B):=by
  have e':cV .slice k z (.slice b o6 (n-(i+1)) (n-(i+1)) k) st=(match dG k (n-(i+1)) (.slice b o6 (n-(i+1)) (n-(i+1)) k) st with|some s=>some (n-(i+1),s)|none=>none):=rfl;rw[e',lB]
  by_cases h0:n-(i+1)=0
  ·rw[aAI h0];have:=YL h0;have:L.drop B=[]:=aBj (by omega);rw[this]
  ·rw[aAH h0,aAI (.inr (aAE _)),hb,hD];have ho6:o6=B:=by omega
   have:ig L o6 D=some (L.drop B):=by
    unfold ig;rw[aAI (by omega),ho6,aAK (by rw[aAX];omega)]
   dsimp only;rw[this]
 have zP:(L.drop B).length=N-B:=by rw[aAX,hL]
 have hTo:aV (L.drop B)=true:=by
  simp only[aV,aCO]at Ku⊢;exact fun x hx=>Ku x (aBv hx)
 have NZ:∃s1 C,bM e k bytes (.slice b 0 i n k) (some (n-(i+1),L.drop B)) st= .ok (.slice b 0 (n-1) n k) s1/\s1=St.set st b (.cells C e true)/\C.length=N/\C.take M=L.take A++L.drop B:=by
  by_cases h0:n-(i+1)=0
  ·obtain⟨hz1,hz2⟩:=YL h0;have hd:L.drop B=[]:=aBj (by omega);refine⟨St.set st b (.cells L e true),L, ?_,rfl,hL,by rw[hd,hz1];simp⟩;rw[h0,hd];have e':bM e k bytes (.slice b 0 i n k) (some (0,[])) st=bu (Nat.ble i n) (.ok (.slice b 0 i n k) st) .bad:=rfl
   have es:St.set st b (.cells L e true)=st:=by
    cases st with
    |mk mem nx=>
     simp only[St.set,St.mk.injEq,and_true]
     exact PT.ext fun p=>by
      rw[PT.eO];split
      ·rename_i h;rw[h];exact hb.symm
      ·rfl
   rw[e',aO,aAI (by rw[aBe];omega),es,<-hz2]
  ·refine⟨_,bp L A (L.drop B), ?_,rfl, ?_, ?_⟩
   ·unfold bM;simp only[aO,aBi,dE,aBe];have amp:Nat.add i (n-(i+1))=n-1:=by show i+(n-(i+1))=n-1;omega
    rw[aAH h0,amp,aAI (by omega),hb];dsimp only;rw[hTo,aAI rfl,hA,aAF,hlw _ _ _ (by omega)];rfl
   ·rw[l7 _ _ _ (by omega)];exact hL
   ·unfold bp;rw[aCv,aAK (i:=M) (l:=L.take A) (by rw[aAN];omega),aAN,aCv];have HH:min A L.length=A:=aBq (by omega);have:M-min A L.length-(L.drop B).length=0:=by omega
    rw[this,aCr,aBz,aAK (i:=M-min A L.length) (l:=L.drop B) (by omega)]
 obtain⟨s1,C,h1,rfl,h3,h4⟩:=NZ;have e7:bh .slice (.slice b 0 (n-1) n k) (St.set st b (.cells C e true))= .ok (I ((n-1:Nat):Int)) (St.set st b (.cells C e true)):=rfl;obtain⟨o9,p9,q9⟩:=h9 C;have:o9=M:=by omega
 subst this;have OL:n-(n-1)=1:=by omega
 rw[OL]at p9
 have Zn:qZ z (.slice b o9 1 1 k) (St.set st b (.cells C e true))= .ok .undef (St.set st b (.cells (bp C o9 z) e true)):=by
  have e':qZ z (.slice b o9 1 1 k) (St.set st b (.cells C e true))=bu (Nat.beq 1 0) (.ok .undef (St.set st b (.cells C e true))) (bu (Bool.or (Nat.beq k 0) (Nat.ble 1 1))
   (match (St.set st b (.cells C e true)).mem.get b with
   |some (.cells s ty g)=>(fun t=>bu (aV t) (Option.rec .bad (fun s'=> .ok .undef ⟨(St.set st b (.cells C e true)).mem.put b (some (.cells s' ty g)),(St.set st b (.cells C e true)).next⟩) (dQ s o9 t)) .bad) (cH 1 z)
   |_=> .bad) .bad):=rfl
  rw[e',ao];have er:cH 1 z=z:=by simp[cH]
  dsimp only;rw[er,hoz,hlw _ _ _ (by omega)];have e13:Bool.or (Nat.beq k 0) (Nat.ble 1 1)=true:=by simp
  have e14:Nat.beq 1 0=false:=rfl;rw[e13,e14];show OR.ok CV.undef (St.set (St.set st b (.cells C e true)) b (.cells (bp C o9 z) e true))=_;rw[set_set]
 rw[hT,h1];simp only[aS,e7,af,p9,Zn,aCC];have Ap:Kp [b] st (St.set st b (.cells (bp C o9 z) e true)):=(Kp.refl _ st).set _ (.inl (by simp)) sY;have hlen:(L.take A++L.drop B).length=(n-1)*k:=by rw[<-h4,aAN,hM];omega
 refine⟨fun X hX=> ?_,Ap,rfl⟩;refine .inr ⟨b,0,n-1,n,k,rfl,hlen,⟨by omega, .inr rfl⟩, .inr ⟨hX b (by simp),sY,_,_,_,ao _ _ _, ?_, ?_⟩⟩
 ·rw[l7 _ _ _ (by omega),hM];omega
 ·rw[aBg,hM,<-h4];unfold bp;rw[aCv,aAK (i:=o9) (l:=C.take o9) (by rw[aAN];omega),aAN];have HH:min o9 C.length=o9:=aBq (by omega);have:o9-min o9 C.length=0:=by omega
  rw[this];simp
theorem FB {v:CV}{L:List CV}{F:List Nat}{n i:Nat}(ho:Own st v 4 109 L F)(hL:L.length=n*4)(hn:n<=1000000)(hF:∀b∈F,b<st.next)(Ku:aV L=true)(hi:i<n):
 R 84 [v,I i,I ((i+1:Nat):Int)] st fun x s2=>kK s2 F x 4 (L.take (i*4)++L.drop ((i+1)*4))/\Kp F st s2/\s2.next=st.next:=by
 refine bN ?_;rw[w84];have:=Ju (bytes:=48) (z:=[.str [], .str [], .int .i64 0, .int .i64 0]) ho (by omega) hL hn hF rfl rfl Ku hi;refine kM this fun x1 h1=>kM h1 fun x2 h2=>kM h2 fun x3 h3=> ?_;unfold aB at h3⊢
 split at h3
 ·exact h3.elim
 ·exact h3
 ·exact h3
theorem KT {v:CV}{L:List CV}{F:List Nat}{n i:Nat}(ho:Own st v 1 3 L F)(hL:L.length=n*1)(hn:n<=1000000)(hF:∀b∈F,b<st.next)(Ku:aV L=true)(hi:i<n):
 R 108 [v,I i,I ((i+1:Nat):Int)] st fun x s2=>kK s2 F x 1 (L.take (i*1)++L.drop ((i+1)*1))/\Kp F st s2/\s2.next=st.next:=by
 refine bN ?_;rw[ahG];have:=Ju (bytes:=8) (z:=[.int .i64 0]) ho (by omega) hL hn hF rfl rfl Ku hi;refine kM this fun x1 h1=>kM h1 fun x2 h2=>kM h2 fun x3 h3=> ?_;unfold aB at h3⊢
 split at h3
 ·exact h3.elim
 ·exact h3
 ·exact h3
end
