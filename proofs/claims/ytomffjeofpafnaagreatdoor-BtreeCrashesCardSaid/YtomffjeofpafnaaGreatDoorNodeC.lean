import Derived.Test.YtomffjeofpafnaaGreatDoorNodeB
namespace Lim
open Go
noncomputable section
set_option linter.defProp false
set_option maxRecDepth 100000
section
variable {k e n:Nat}{z vs:List CV}{Ls:List (List CV)}{a0:CV}
section
variable {st st':St}
def Ov (n:Nat)(z:List CV):(cJ n z).length=n*z.length:=by
 unfold cJ;rw[fB (w:=z.length) (by intro x hx;rw[List.eq_of_mem_replicate hx])];simp
def Ly (n:Nat)(z:List CV)(i:Nat)(h:i<=n):(cJ n z).drop (i*z.length)=cJ (n-i) z:=by
 unfold cJ;rw[nE (w:=z.length) (by intro x hx;rw[List.eq_of_mem_replicate hx]) i R5,aFA]
def ur (k e:Nat)(z:List CV)(n:Nat)(st:St)(x:CV)(st':St):Prop:=if n=0 then x=.ae/\st'=st else x=.slice st.nx 0 0 n k/\st'=St.new st (.cells (cJ n z) e true)
def V4 {bytes:Nat}(hk:0<k)(hz:z.length=k)(hn:n<=100000)(hb:bytes<=1000):
 us (bj .cap .ae st) λx3=>us (bj .slice .ae st) λx4=>us (ai .sub none false x3 x4 st) λx5=>us (ai .sub none false (I n) x5 st) λx6=>us (ai .gtr none true x6 (.int .i64 0) st) λx7=>
  aA x7 (us (bj .cap .ae st) λx8=>us (aN k .ae none (some x8) st) λx9=>upon (bI e k bytes x9 (cW .zeros k z x6 st) st) λdf s2=>us (bj .slice .ae s2) λda=>us (aN k df none (some da) s2) λdv=>ur k e z n st dv s2) (ur k e z n st .ae st):=by
 have e1:bj .cap .ae st=.ok (.int .i64 0) st:=rfl;have e2:∀s,bj .slice .ae s=.ok (.int .i64 0) s:=λs=>rfl;have e3:ai .sub none false (.int .i64 0) (.int .i64 0) st=.ok (.int .i64 0) st:=rfl;have e4:ai .sub none false (I n) (.int .i64 0) st=.ok (I n) st:=by rw[ay,dX,bB pX];congr 2
 have e5:ai .gtr none true (I n) (.int .i64 0) st=.ok (.bool (decide (0<n))) st:=AS
 have e6:aN k .ae none (some (.int .i64 0)) st=.ok .ae st:=rfl;simp only[e1,e2,e3,e4,e5,af,ag,e6]
 by_cases h0:n=0
 .subst h0;rw[aDv wI];unfold ur;rw[aDy rfl];exact⟨rfl,rfl⟩
 .rw[aDy (by simpa using Nat.pos_of_ne_zero h0)]
  have e7:cW .zeros k z (I n) st=some (n,cJ n z):=by
   have:cW .zeros k z (I n) st=bz (Nat.ble n 1099511627776) (some (n,cJ n z)) none:=rfl;rw[this,aO,aDy aah]
  have Gj:=aGf hn hb
  have e8:bI e k bytes .ae (some (n,cJ n z)) st=.ok (.slice st.nx 0 n n k) (St.new st (.cells (cJ n z) e true)):=by
   have e:bI e k bytes .ae (some (n,cJ n z)) st=bz (Nat.beq n 0) (.ok .ae st) (bz (Bool.and (Nat.ble 1 k) (Bool.and (Nat.ble (Nat.mul n bytes) 140737488355328) (Nat.ble n 140737488355328)))
    (.ok (.slice st.nx 0 n n k) ⟨st.m.put st.nx (some (.cells (cJ n z) e true)),st.nx+1⟩) .bad):=rfl
   rw[e];simp only[aO,aDZ,aDK,aDW];rw[aDv h0,aDy ⟨hk,aEB Gj pX,pX⟩];rfl
  rw[e7,e8,aT]
  have e9:aN k (.slice st.nx 0 n n k) none (some (.int .i64 0)) (St.new st (.cells (cJ n z) e true))=.ok (.slice st.nx 0 0 n k) (St.new st (.cells (cJ n z) e true)):=by
   obtain⟨dA,q1,q2⟩:=jt (k:=k) (b:=st.nx) (off:=0) (len:=n) (cap:=n) (grow:=k) (l:=0) (h:=0) (lo:=none) (hi:=some (I ((0:Nat):Int))) (st:=St.new st (.cells (cJ n z) e true)) acI (aDt _) (.inr rfl);have:dA=0:=pX
   subst this;exact q1
  rw[e9,af];unfold ur;rw[aDv h0];exact⟨rfl,rfl⟩
def Uf (hn:n<=100000):R 189 [.ae,I n] st (ur 4 109 [.str [],.str [],.int .i64 0,.int .i64 0] n st):=by
 refine bN ?_;rw[aiV];have e0:ai .lss none true (I n) (.int .i64 0) st=.ok (.bool false) st:=WO
 rw[cK,e0,af,ag,aDv wI];simp only[aH,aI];exact V4 pX rfl hn pX
def Ue (hn:n<=100000):R 190 [.ae,I n] st (ur 1 3 [.int .i64 0] n st):=by
 refine bN ?_;rw[aiU];have e0:ai .lss none true (I n) (.int .i64 0) st=.ok (.bool false) st:=WO
 rw[cK,e0,af,ag,aDv wI];simp only[aH,aI];exact V4 pX rfl hn pX
def wC (st:St)(k:Nat):List CV->List (List CV)->Prop
 |[],[]=>True
 |v::vs,l::ls=>(Sl st [] v k l/\∃n,l.length=n*k/\n<=10000)/\wC st k vs ls
 |_,_=>False
def wC.mono (h:wC st k vs Ls)(hk:Kp [] st st'):wC st' k vs Ls:=by
 induction vs generalizing Ls with
 |nil=>cases Ls with|nil=>trivial|cons l L=>exact h
 |cons v vs ih=>cases Ls with|nil=>exact h|cons l L=>exact⟨⟨h.1.1.mono hk,h.1.2⟩,ih h.2⟩
def wC.len (h:wC st k vs Ls):vs.length=Ls.length:=by
 induction vs generalizing Ls with
 |nil=>cases Ls with|nil=>rfl|cons l L=>exact h.elim
 |cons v vs ih=>cases Ls with|nil=>exact h.elim|cons l L=>simp[ih h.2]
def wC.at (h:wC st k vs Ls){i:Nat}(hi:i<vs.length):∃ff:i<Ls.length,Sl st [] vs[i] k Ls[i]/\∃n,Ls[i].length=n*k/\n<=10000:=by
 induction vs generalizing Ls i with
 |nil=>simp at hi
 |cons v vs ih=>
  cases Ls with
  |nil=>exact h.elim
  |cons l L=>
   cases i with
   |zero=>exact⟨rq,h.1⟩
   |succ i=>obtain⟨a,b⟩:=ih h.2 (i:=i) Wv;exact⟨AI,b⟩
def pZ (k:Nat)(Ls:List (List CV))(i:Nat):Nat:=(Ls.take i).flatten.length/k
def wC.ja (hk:0<k)(h:wC st k vs Ls):∀i,(Ls.take i).flatten.length=pZ k Ls i*k/\pZ k Ls i<=10000*i:=by
 have key:∀(vs:List CV) (Ls:List (List CV)),wC st k vs Ls->∀i,∃m,(Ls.take i).flatten.length=m*k/\m<=10000*i:=by
  intro vs
  induction vs with
  |nil=>intro Ls h i;cases Ls with|nil=>exact⟨0,rq⟩|cons l L=>exact h.elim
  |cons v vs ih=>
   intro Ls h i;cases Ls with
   |nil=>exact h.elim
   |cons l L=>
    cases i with
    |zero=>exact⟨0,rq⟩
    |succ i=>
     obtain⟨m,h1,h2⟩:=ih L h.2 i;obtain⟨n,h3,h4⟩:=h.1.2;exact⟨n+m,by rw[List.take_succ_cons,aES,aDw,h1,h3,aEz],pX⟩
 intro i;obtain⟨m,h1,h2⟩:=key vs Ls h i;have:pZ k Ls i=m:=by unfold pZ;rw[h1,Nat.mul_div_cancel _ hk]
 rw[this];exact⟨h1,h2⟩
def wA (s:St)(x:CV)(k e:Nat)(z:List CV)(b m n:Nat)(L:List CV):Prop:=
 L.length=m*k/\m<=n/\((n=0/\x=.ae)\/(0<n/\x=.slice b 0 m n k/\s.m.g b=some (.cells (L++cJ (n-m) z) e true)))
def wA.append {s:St}{x v:CV}{bytes:Nat}{b m j:Nat}{L T:List CV}(h:wA s x k e z b m n L)(hk:0<k)(hz:z.length=k)(hb:b<s.nx\/n=0)(hv:Sl s [] v k T)(hT:T.length=j*k)(iY:aU T=true)(hj:m+j<=n):
 ∃x' s',bI e k bytes x (cW .slice k z v s) s=.ok x' s'/\wA s' x' k e z b (m+j) n (L++T)/\s'.nx=s.nx/\(∀q,q≠b->s'.m.g q=s.m.g q):=by
 obtain⟨h1,h2,h3⟩:=h;obtain⟨j',q1,q2⟩:=hv.src z;have:j'=j:=aEx hk (by rw[<-q1,hT]);subst this;rw[q2];have hlen:(L++T).length=(m+j')*k:=by rw[aDw,h1,hT,aEz]
 rcases h3 with⟨rfl,rfl⟩|⟨h4,rfl,h5⟩
 .have:j'=0:=by omega
  subst this;exact⟨.ae,s,rfl,⟨hlen,hj,.inl ⟨rfl,rfl⟩⟩,rfl,λ_ _=>rfl⟩
 .by_cases h0:j'=0
  .subst h0;have hT0:T=[]:=aDP.1 pX;subst hT0;refine⟨.slice b 0 m n k,s,?_,⟨Wx,h2,.inr ⟨h4,rfl,by simpa using h5⟩⟩,rfl,λ_ _=>rfl⟩;have e:bI e k bytes (.slice b 0 m n k) (some (0,[])) s=bz (Nat.ble m n) (.ok (.slice b 0 m n k) s) .bad:=rfl;rw[e,aO,aDy (by rw[aDW];exact h2)]
  .have e:bI e k bytes (.slice b 0 m n k) (some (j',T)) s=.ok (.slice b 0 (m+j') n k) (St.set s b (.cells (bo (L++cJ (n-m) z) (m*k) T) e true)):=by
    unfold bI;simp only[aO,aDZ,dH,aDW];rw[aDv h0,aDy (show Nat.add m j'<=n from hj),h5];dsimp only
    have hl:dU (L++cJ (n-m) z) (0+m*k) T=some (bo (L++cJ (n-m) z) (m*k) T):=by
     unfold dU;rw[aDx,aDy]
     .rfl
     .rw[aDw,Ov,h1,hT,hz,<-aEz,<-aEz];exact aEj k pX
    rw[iY,aDy rfl,hl];rfl
   refine⟨_,_,e,⟨hlen,hj,.inr ⟨h4,rfl,?_⟩⟩,rfl,λq hq=>al _ _ _ _ hq⟩;rw[aq]
   congr 2
   rw[<-h1,pG,aDY]
   congr 2
   rw[hT,<-hz,Ly _ _ _ pX]
   congr 1;omega
def KP {gr bytes:Nat}(hk:0<k)(hz:z.length=k)(hgr:∀(s:St) (n:Nat),n<=100000->R gr [.ae,I n] s (ur k e z n s))(ha:Sl st [] a0 1 vs)(h:wC st k vs Ls)(hl:vs.length<=9)(iY:∀l∈Ls,aU l=true):
 db (λv2 s2 k3=>us (ai .lss none false (au 4 v2) (au 3 v2) s2) λx5=>aA x5 (Lim.idx 1 (au 2 v2) (au 4 v2) s2 λx6=>us (bj .slice x6 s2) λx7=>us (ai .add none false (au 1 v2) x7 s2) λx8=>us (ai .lss none true x8 (.int .i64 0) s2) λx9=>
  aA x9 (us (uB 9 (.str [108,101,110,32,111,117,116,32,111,102,32,114,97,110,103,101]) s2) λdf=>False) (us (ai .add none true (au 4 v2) (.int .i64 1) s2) λda=>k3 [au 0 v2,x8,au 2 v2,au 3 v2,da] s2))
  (R gr [.ae,au 1 v2] s2 λdv s3=>dL (λlQ s4=>db (λfw s5 py=>us (ai .lss none false (au 3 fw) (au 2 fw) s5) λew=>aA ew (Lim.idx 1 (au 1 fw) (au 3 fw) s5 λeg=>upon (bI e k bytes (au 0 fw) (cW .slice k z eg s5) s5) λeh s6=>
   us (ai .add none true (au 3 fw) (.int .i64 1) s6) λeB=>py [eh,au 1 fw,au 2 fw,eB] s6) (Made k e Ls.flatten st (au 0 fw) s5)) [au 0 lQ,au 1 lQ,au 2 lQ,au 3 lQ] s4) λrl=>us (bj .slice (au 0 v2) s3) λdP=>rl [dv,au 0 v2,dP,.int .i64 0] s3))
  [a0,.int .i64 0,a0,I vs.length,.int .i64 0] st:=by
 have Vy:=h.len
 refine bK (λfu w s=>∃i,fu+i=vs.length/\w=[a0,I (pZ k Ls i),a0,I vs.length,I i]/\s=st) ?_ (n:=vs.length) ⟨0,rfl,by
  have:pZ k Ls 0=0:=by simp[pZ]
  rw[this];rfl,rfl⟩
 rintro fu w s kk ⟨i,hi,rfl,rfl⟩ next;obtain⟨Zh,Nb⟩:=h.ja hk i;simp only[aH,aI,dq,af,ag]
 by_cases hc:i<vs.length
 .rw[aDz hc,aDy rfl];refine ha.idx hc _ ?_;obtain⟨ff,hv,n,Cc,hn2⟩:=h.at hc;obtain⟨Na,AN⟩:=h.ja hk (i+1)
  have hcn:pZ k Ls (i+1)=pZ k Ls i+n:=by
   refine aEx hk ?_;rw[<-Na,aDH ff,aFP,aDw,Zh,aEz];simp[Cc]
  have e1:ai .add none false (I (pZ k Ls i)) (I n) s=.ok (I (pZ k Ls (i+1))) s:=by rw[ay,cI,bB pX,hcn];rfl
  have e2:ai .lss none true (I (pZ k Ls (i+1))) (.int .i64 0) s=.ok (.bool false) s:=WO
  simp only[hv.len n Cc hk s,af,e1,e2,ag,aDp,aDE,gT i pX];exact next (fu-1) _ _ pX ⟨i+1,pX,rfl,rfl⟩
 .rw[aDr hc,aDv wI];have B0:Ls.take i=Ls:=aDA pX;rw[B0]at Zh;refine(hgr s _ pX).mono ?_;intro dv s3 hg;generalize hN:pZ k Ls i=N at*
  have kV:Kp [] s s3:=by
   unfold ur at hg
   split at hg
   .rw[hg.2];exact Kp.refl _ _
   .rw[hg.2];exact(Kp.refl _ s).new _
  have hn3:s3.nx=s.nx+1\/N=0:=by
   unfold ur at hg
   split at hg
   .rename_i h0;exact .inr h0
   .rw[hg.2];exact .inl rfl
  have hF:wA s3 dv k e z s.nx 0 N []:=by
   unfold ur at hg;refine⟨rq,aFH _,?_⟩
   split at hg
   .rename_i h0;exact .inl ⟨h0,hg.1⟩
   .rename_i h0;rw[hg.2];exact .inr ⟨pX,hg.1,rq⟩
  have Kw:=(ha.mono kV).len vs.length pX pX s3;simp only[cK,aH,aI,Kw,af];refine bK (λfu w s'=>∃i x,fu+i=vs.length/\w=[x,a0,I vs.length,I i]/\wA s' x k e z s.nx (pZ k Ls i) N (Ls.take i).flatten/\Kp [] s s'/\(s.nx<s'.nx\/N=0)) ?_ (n:=vs.length) ⟨0,dv,rfl,rfl,by simpa[pZ]using hF,kV,pX⟩;rintro fu w s' kk ⟨i,x,hi,rfl,P9,mc,hlt⟩ next;simp only[aH,aI,dq,af,ag]
  by_cases Ac:i<vs.length
  .rw[aDz Ac,aDy rfl];refine(ha.mono mc).idx Ac _ ?_;obtain⟨ff,hv,n,Cc,hn2⟩:=(h.mono mc).at Ac;obtain⟨Jb,_⟩:=h.ja hk i;obtain⟨Na,AN⟩:=h.ja hk (i+1)
   have hcn:pZ k Ls (i+1)=pZ k Ls i+n:=by
    refine aEx hk ?_;rw[<-Na,aDH ff,aFP,aDw,Jb,aEz];simp[Cc]
   have hle:pZ k Ls i+n<=N:=by
    rw[<-hcn];refine Nat.le_of_mul_le_mul_right ?_ hk;rw[<-Na,<-Zh]
    conv=>rhs;rw[<-aEd (i+1) Ls]
    rw[aFP,aDw];omega
   obtain⟨x',s6,q1,q2,q3,q4⟩:=P9.append (bytes:=bytes) hk hz hlt hv Cc (iY _ (aDL ff)) hle;rw[q1,aT,gT i pX,af];have e5:(Ls.take i).flatten++Ls[i]=(Ls.take (i+1)).flatten:=by rw[aDH ff,aFP];simp
   rw[e5,<-hcn]at q2;refine next (fu-1) _ _ pX ⟨i+1,x',pX,rfl,q2,⟨by rw[q3];exact mc.nx,λb hb Gj=>(q4 b pX).trans (mc.keep b hb Gj),λiw b hb=>?_⟩,by rw[q3];exact hlt⟩;rw[q3]at hb;rcases hlt with hlt|hlt
   .rw[q4 b pX];exact mc.fresh iw b hb
   .rcases P9.2.2 with⟨_,rfl⟩|⟨h4,_⟩
    .have:n=0:=by omega
     subst this;have hT0:Ls[i]=[]:=aDP.1 pX;obtain⟨j',r1,r2⟩:=hv.src z
     have:j'=0:=by
      have h9:j'*k=0:=by rw[<-r1,hT0];rfl
      rcases Nat.mul_eq_zero.1 h9 with h|h
      .exact h
      .omega
     subst this;rw[r2]at q1;cases q1;exact mc.fresh iw b hb
    .omega
  .rw[aDr Ac,aDv wI];have ht:Ls.take i=Ls:=aDA pX;obtain⟨Jb,_⟩:=h.ja hk i;rw[ht]at Jb P9;have hiN:pZ k Ls i=N:=aEx hk (by rw[<-Jb,Zh]);rw[hiN]at P9;obtain⟨f1,f2,f3⟩:=P9;rcases f3 with⟨h0,rfl⟩|⟨h0,rfl,f4⟩
   .have:=aDP.1 (by rw[f1,h0];simp);exact⟨[],mc,.inl ⟨rfl,this,rfl⟩,rq⟩
   .refine⟨[s.nx],mc,.inr (.inr ⟨s.nx,N,rfl,h0,f1,rfl,?_⟩),λb hb=>?_⟩
    .rw[f4];simp[cJ]
    .simp at hb;subst hb;omega
def Cs (ha:Sl st [] a0 1 vs)(h:wC st 4 vs Ls)(hl:vs.length<=9)(iY:∀l∈Ls,aU l=true):R 147 [a0] st (Made 4 109 Ls.flatten st):=by
 refine bN ?_;rw[ajB];have hlen:=ha.len vs.length pX pX st;have:=KP (gr:=189) (k:=4) (e:=109) (bytes:=48) (z:=[.str [],.str [],.int .i64 0,.int .i64 0]) pX rfl (λs n hn=>Uf hn) ha h hl iY;simp only[cK,aH,aI,hlen,af]at this⊢;exact this
def MD (ha:Sl st [] a0 1 vs)(h:wC st 1 vs Ls)(hl:vs.length<=9)(iY:∀l∈Ls,aU l=true):R 148 [a0] st (Made 1 3 Ls.flatten st):=by
 refine bN ?_;rw[ajA];have hlen:=ha.len vs.length pX pX st;have:=KP (gr:=190) (k:=1) (e:=3) (bytes:=8) (z:=[.int .i64 0]) pX rfl (λs n hn=>Ue hn) ha h hl iY;simp only[cK,aH,aI,hlen,af]at this⊢;exact this
end
end
section
variable {st st':St}
def kG {l:List dh}(h:l.length<=10000):∃n,(bG l).length=n*4/\n<=10000:=⟨l.length,bM l,h⟩
def UF {va vb:CV}{a b:bg}{sep:cn}(hf:eM st)(ha:IsNode st [] va a)(hb:IsNode st [] vb b)(h1:a.cells.length<=1000)(h2:b.cells.length<=1000)(h3:a.kids.length<=1001)(h4:b.kids.length<=1001):
 R 107 [va,.str sep,vb] st λx st'=>Kp [] st st'/\∀X,(∀b∈X,b<st.nx)->IsNode st' X x (dB a sep b):=by
 obtain⟨c1,d1,rfl,e1,f1⟩:=ha;obtain⟨c2,d2,rfl,e2,f2⟩:=hb;obtain⟨x1,x2,x3⟩:=e1.bD;obtain⟨y1,y2,y3⟩:=f1.bD;obtain⟨z1,z2,z3⟩:=e2.bD;obtain⟨w1,w2,w3⟩:=f2.bD;refine bN ?_;rw[akg];rw[bW,aV];refine⟨rfl,?_⟩;have k1:Kp [] st (St.new st (.cells [.bool a.leaf,c1,d1] 105 false)):=(Kp.refl [] st).new _;have g1:(St.new st (.cells [.bool a.leaf,c1,d1] 105 false)).m.g st.nx=some (.cells [.bool a.leaf,c1,d1] 105 false):=aw _ _;have n1:(St.new st (.cells [.bool a.leaf,c1,d1] 105 false)).nx=st.nx+1:=rfl;generalize St.new st (.cells [.bool a.leaf,c1,d1] 105 false)=s1 at*;rw[bW,aV];refine⟨rfl,?_⟩;have k2:Kp [] s1 (St.new s1 (.cells [.bool b.leaf,c2,d2] 105 false)):=(Kp.refl [] s1).new _;have g2:(St.new s1 (.cells [.bool b.leaf,c2,d2] 105 false)).m.g s1.nx=some (.cells [.bool b.leaf,c2,d2] 105 false):=aw _ _;have n2:(St.new s1 (.cells [.bool b.leaf,c2,d2] 105 false)).nx=s1.nx+1:=rfl;generalize St.new s1 (.cells [.bool b.leaf,c2,d2] 105 false)=s2 at*;have k3:Kp [] s2 (St.new s2 (.cells [.bool false,.ae,.ae] 105 false)):=(Kp.refl [] s2).new _;have g3:(St.new s2 (.cells [.bool false,.ae,.ae] 105 false)).m.g s2.nx=some (.cells [.bool false,.ae,.ae] 105 false):=aw _ _;have n3:(St.new s2 (.cells [.bool false,.ae,.ae] 105 false)).nx=s2.nx+1:=rfl;rw[cE,aT];generalize St.new s2 (.cells [.bool false,.ae,.ae] 105 false)=s3 at*;have qZ:=(k3.keep st.nx pX rq).trans ((k2.keep st.nx pX rq).trans g1);have Jk:=(k3.keep s1.nx pX rq).trans g2;have kV:=(k1.trans k2 rq).trans k3 rq;have kq:∀a b c:CV,bo [.bool false,.ae,.ae] 0 [a,b,c]=[a,b,c]:=λa b c=>rfl;simp only[fl,ah,af,aC,qZ,ar,aDx,aDq,aDo,az,ag];cases fY:a.leaf with
 |true=>
  have Nc:bO 102 2 (cJ 2 [.ae]) [(0,1,c1),(1,1,c2)] s3=.ok (.slice s3.nx 0 2 2 0) (St.new s3 (.cells [c1,c2] 102 false)):=by
   have e:gf [(0,1,c1),(1,1,c2)] (cJ 2 [.ae])=some [c1,c2]:=by
    rw[cq,aDy ⟨⟨by rw[x3];rfl,x1⟩,by rw[x3];exact(by decide:0+1<=2)⟩,cq,aDy ⟨⟨by rw[z3];rfl,z1⟩,by rw[z3,x3];exact(by decide:1+1<=2)⟩,kY,x3,z3];rfl
   unfold bO;rw[e];rfl
  simp only[aDQ,Jk,ar,aDq,aDo,az,Nc,aT];have k4:Kp [] s3 (St.new s3 (.cells [c1,c2] 102 false)):=(Kp.refl [] s3).new _;have g4:(St.new s3 (.cells [c1,c2] 102 false)).m.g s3.nx=some (.cells [c1,c2] 102 false):=aw _ _;have n4:(St.new s3 (.cells [c1,c2] 102 false)).nx=s3.nx+1:=rfl;generalize St.new s3 (.cells [c1,c2] 102 false)=s4 at*;have th:=kV.trans k4 rq;have lu:Sl s4 [] (.slice s3.nx 0 2 2 0) 1 [c1,c2]:=.inr ⟨s3.nx,0,2,2,0,rfl,rfl,⟨aDt _,.inl rfl⟩,.inr ⟨rq,pX,_,_,_,g4,rq,rfl⟩⟩;refine(Cs (Ls:=[bG a.cells,bG b.cells]) lu ⟨⟨e1.mono th,kG pX⟩,⟨e2.mono th,kG pX⟩,adu⟩ rq rq).mono ?_;intro x8 s5 m5;have k5:=m5.kp;have n5:=k5.nx;have g35:=(k5.keep s2.nx pX rq).trans ((k4.keep s2.nx pX rq).trans g3);obtain⟨F,a1,a2,a3⟩:=m5;obtain⟨p1,p2⟩:=a2.ck;have p3:=(a2.sl (X:=[]) λb hb=>⟨rq,(a3 b hb).2⟩).bD.1
  have mR:bu [.bool false,.ae,.ae] [(0,1,.bool true),(1,1,x8)] s5=.ok (.agg [.bool true,x8,.ae]) s5:=by
   rw[dw];simp[cq,bo,p2,p3]
  rw[mR,af,aF,g35,aS,aV,kq];refine⟨⟨rfl,by simp[p1],rq⟩,?_⟩;rw[aR (n:=3) (aq _ _ _) rfl,af];refine⟨(th.trans k5 rq).set _ (.inr pX) pX,λX hX=>⟨x8,.ae,?_,?_,.inl ⟨rfl,?_⟩⟩⟩
  .unfold dB;rw[aDy fY]
  .have:bG (dB a sep b).cells=[bG a.cells,bG b.cells].flatten:=by unfold dB;rw[aDy fY,gX];simp
   rw[this];exact(a2.mono λq hq=>al _ _ _ _ abL).sl λq hq=>⟨λh=>by have:=hX q h;have:=(a3 q hq).1;have:=th.nx;omega,(a3 q hq).2⟩
  .unfold dB;rw[aDy fY];rfl
 |false=>
  rw[aDv wI,bA];have IM:Kp [] s3 (St.skip (St.skip (St.skip s3))):=((Kp.refl _ s3).skip).skip.skip;have iw:=kV.fresh hf;have gm:∀q,(St.skip (St.skip (St.skip s3))).m.g q=s3.m.g q:=λq=>rfl;have nsk:(St.skip (St.skip (St.skip s3))).nx=s3.nx+3:=rfl;have y1':(St.skip s3).nx=s3.nx+1:=rfl;have y2':(St.skip (St.skip s3)).nx=s3.nx+2:=rfl;have YC:(St.skip (St.skip (St.skip s3))).m.g s3.nx=none:=iw _ (aDt _);have YB:(St.skip (St.skip (St.skip s3))).m.g (s3.nx+1)=none:=iw _ pX;have DP:(St.skip (St.skip (St.skip s3))).m.g (s3.nx+2)=none:=iw _ pX;rw[y1',y2'];generalize St.skip (St.skip (St.skip s3))=s6 at*;have Qh:=(IM.keep st.nx pX rq).trans qZ;have ZG:=(IM.keep s1.nx pX rq).trans Jk;have g36:=(IM.keep s2.nx pX rq).trans g3;have aoP:bu [.str [],.str [],.int .i64 0,.int .i64 0] [(0,1,.str sep)] s6=.ok (.agg (aZ (fN sep))) s6:=rfl;simp only[Qh,ar,aDq,aDo,az,aoP,af];rw[jw YC (Ea (k:=4) rfl rfl rfl),aT];have k7:Kp [s3.nx,s3.nx+1,s3.nx+2] s6 (St.set s6 s3.nx (.cells (CV.agg (aZ (fN sep))).cA 109 false)):=(Kp.refl _ s6).set _ (.inl rq) pX;have g77:(St.set s6 s3.nx (.cells (CV.agg (aZ (fN sep))).cA 109 false)).m.g s3.nx=some (.cells (aZ (fN sep)) 109 false):=aq _ _ _;have g71:(St.set s6 s3.nx (.cells (CV.agg (aZ (fN sep))).cA 109 false)).m.g (s3.nx+1)=none:=(al _ _ _ _ pX).trans YB;have g72:(St.set s6 s3.nx (.cells (CV.agg (aZ (fN sep))).cA 109 false)).m.g (s3.nx+2)=none:=(al _ _ _ _ pX).trans DP;have n7:(St.set s6 s3.nx (.cells (CV.agg (aZ (fN sep))).cA 109 false)).nx=s6.nx:=rfl;generalize St.set s6 s3.nx (.cells (CV.agg (aZ (fN sep))).cA 109 false)=s7 at*;have g27:=(k7.keep s1.nx pX AI).trans ZG;have Ui:=(k7.keep st.nx pX AI).trans Qh;have g37:=(k7.keep s2.nx pX AI).trans g36;simp only[g27,ar,aDq,aDo,az]
  have aog:gf [(0,1,c1),(1,1,.slice s3.nx 0 1 1 0),(2,1,c2)] (cJ 3 [.ae])=some [c1,.slice s3.nx 0 1 1 0,c2]:=by
   rw[cq,aDy ⟨⟨by rw[x3];rfl,x1⟩,by rw[x3];exact(by decide:0+1<=3)⟩,cq,aDy ⟨⟨rfl,rfl⟩,by rw[x3];exact(by decide:1+1<=3)⟩,cq,aDy ⟨⟨by rw[z3];rfl,z1⟩,by rw[z3,x3];exact(by decide:2+1<=3)⟩,kY,x3,z3];rfl
  rw[jw g71 aog,aT];have k8:Kp [s3.nx,s3.nx+1,s3.nx+2] s6 (St.set s7 (s3.nx+1) (.cells [c1,.slice s3.nx 0 1 1 0,c2] 102 false)):=k7.set _ (.inl rq) pX;have g88:(St.set s7 (s3.nx+1) (.cells [c1,.slice s3.nx 0 1 1 0,c2] 102 false)).m.g (s3.nx+1)=some (.cells [c1,.slice s3.nx 0 1 1 0,c2] 102 false):=aq _ _ _;have g87:(St.set s7 (s3.nx+1) (.cells [c1,.slice s3.nx 0 1 1 0,c2] 102 false)).m.g s3.nx=some (.cells (aZ (fN sep)) 109 false):=(al _ _ _ _ pX).trans g77;have g82:(St.set s7 (s3.nx+1) (.cells [c1,.slice s3.nx 0 1 1 0,c2] 102 false)).m.g (s3.nx+2)=none:=(al _ _ _ _ pX).trans g72;have n8:(St.set s7 (s3.nx+1) (.cells [c1,.slice s3.nx 0 1 1 0,c2] 102 false)).nx=s6.nx:=n7;generalize St.set s7 (s3.nx+1) (.cells [c1,.slice s3.nx 0 1 1 0,c2] 102 false)=s8 at*;have hk8:=(kV.trans IM rq).trans k8 (by intro q hq;simp at hq;omega);have amj:Sl s8 [] (.slice (s3.nx+1) 0 3 3 0) 1 [c1,.slice s3.nx 0 1 1 0,c2]:=.inr ⟨s3.nx+1,0,3,3,0,rfl,rfl,⟨aDt _,.inl rfl⟩,.inr ⟨rq,pX,_,_,_,g88,rq,rfl⟩⟩;have adD:Sl s8 [] (.slice s3.nx 0 1 1 0) 4 (aZ (fN sep)):=.inr ⟨s3.nx,0,1,1,0,rfl,rfl,⟨aDt _,.inl rfl⟩,.inr ⟨rq,pX,_,_,_,g87,aaq,rfl⟩⟩;have Uh:=(k8.keep st.nx pX AI).trans Qh;have g28:=(k8.keep s1.nx pX AI).trans ZG;have g38:=(k8.keep s2.nx pX AI).trans g36;refine(Cs (Ls:=[bG a.cells,aZ (fN sep),bG b.cells]) amj ⟨⟨e1.mono hk8,kG pX⟩,⟨adD,1,rfl,pX⟩,⟨e2.mono hk8,kG pX⟩,adu⟩ rq rq).mono ?_;intro eg s9 m9;have k9:=m9.kp;have n9:=k9.nx;have V9:=(k9.keep st.nx pX rq).trans Uh;have g29:=(k9.keep s1.nx pX rq).trans g28;have g39:=(k9.keep s2.nx pX rq).trans g38;have g92:=(k9.keep (s3.nx+2) pX rq).trans g82;have RH:=hk8.trans k9 rq;simp only[V9,g29,ar,aDq,aDo,az]
  have aoh:gf [(0,1,d1),(1,1,d2)] (cJ 2 [.ae])=some [d1,d2]:=by
   rw[cq,aDy ⟨⟨by rw[y3];rfl,y1⟩,by rw[y3];exact(by decide:0+1<=2)⟩,cq,aDy ⟨⟨by rw[w3];rfl,w1⟩,by rw[w3,y3];exact(by decide:1+1<=2)⟩,kY,y3,w3];rfl
  rw[jw g92 aoh,aT];have rn:Kp [s3.nx+2] s9 (St.set s9 (s3.nx+2) (.cells [d1,d2] 103 false)):=(Kp.refl _ s9).set _ (.inl rq) pX;have RQ:(St.set s9 (s3.nx+2) (.cells [d1,d2] 103 false)).m.g (s3.nx+2)=some (.cells [d1,d2] 103 false):=aq _ _ _;have LR:(St.set s9 (s3.nx+2) (.cells [d1,d2] 103 false)).nx=s9.nx:=rfl;have oY:=RH.trans rn (by intro q hq;simp at hq;omega);obtain⟨F,a1,a2,a3⟩:=m9;have Uw:Own (St.set s9 (s3.nx+2) (.cells [d1,d2] 103 false)) eg 4 109 [bG a.cells,aZ (fN sep),bG b.cells].flatten F:=a2.mono λq hq=>al _ _ _ _ abL;have ZK:(St.set s9 (s3.nx+2) (.cells [d1,d2] 103 false)).m.g st.nx=_:=(al _ _ _ _ pX).trans V9;have ZI:(St.set s9 (s3.nx+2) (.cells [d1,d2] 103 false)).m.g s1.nx=_:=(al _ _ _ _ pX).trans g29;have Jj:(St.set s9 (s3.nx+2) (.cells [d1,d2] 103 false)).m.g s2.nx=_:=(al _ _ _ _ pX).trans g39;generalize St.set s9 (s3.nx+2) (.cells [d1,d2] 103 false)=dp at*;have adB:Sl dp [] (.slice (s3.nx+2) 0 2 2 0) 1 [d1,d2]:=.inr ⟨s3.nx+2,0,2,2,0,rfl,rfl,⟨aDt _,.inl rfl⟩,.inr ⟨rq,pX,_,_,_,RQ,rq,rfl⟩⟩;refine(MD (Ls:=[cF a.kids,cF b.kids]) adB ⟨⟨f1.mono oY,a.kids.length,rq,pX⟩,⟨f2.mono oY,b.kids.length,rq,pX⟩,adu⟩ rq rq).mono ?_;intro fR c9 m11;have rh:=m11.kp;have MX:=rh.nx;have aqg:=(rh.keep s2.nx pX rq).trans Jj;obtain⟨F2,b1,b2,b3⟩:=m11;obtain⟨p1,p2⟩:=a2.ck;have p3:=(a2.sl (X:=[]) λb hb=>⟨rq,(a3 b hb).2⟩).bD.1;obtain⟨q1,q2⟩:=b2.ck;have q3:=(b2.sl (X:=[]) λb hb=>⟨rq,(b3 b hb).2⟩).bD.1
  have mR:bu [.bool false,.ae,.ae] [(1,1,eg),(2,1,fR)] c9=.ok (.agg [.bool false,eg,fR]) c9:=by
   rw[dw];simp[cq,bo,p2,p3,q2,q3]
  rw[mR,af,aF,aqg,aS,aV,kq];refine⟨⟨rfl,by simp[p1,q1],rq⟩,?_⟩;simp only[Uh,g28,ZK,ZI,g82,ar,aDq,aDo,az,aFw,and_true];rw[aR (n:=3) (aq _ _ _) rfl,af];refine⟨(oY.trans rh rq).set _ (.inr pX) pX,λX hX=>⟨eg,fR,?_,?_,?_⟩⟩
  .unfold dB;rw[aDv aaV]
  .have:bG (dB a sep b).cells=[bG a.cells,aZ (fN sep),bG b.cells].flatten:=by unfold dB;rw[aDv aaV,gX];simp[bG]
   rw[this];have aqL:=Uw.keep rh λq hq=>⟨by have:=(a3 q hq).2;omega,rq⟩;exact(aqL.mono λq hq=>al _ _ _ _ abL).sl λq hq=>⟨λh=>by have:=hX q h;have:=(a3 q hq).1;have:=hk8.nx;omega,by have:=(a3 q hq).2;simp;omega⟩
  .have:cF (dB a sep b).kids=[cF a.kids,cF b.kids].flatten:=by unfold dB;rw[aDv aaV,ns];simp
   rw[this];exact(b2.mono λq hq=>al _ _ _ _ (by have:=(b3 q hq).1;omega)).sl λq hq=>⟨λh=>by have:=hX q h;have:=(b3 q hq).1;have:=oY.nx;omega,by have:=(b3 q hq).2;simp;omega⟩
end
section
variable {e k n i vb:Nat}{L T:List CV}{v:CV}{z:List CV}{F:List Nat}
section
variable {st st':St}
def lO (k e:Nat)(L:List CV)(F:List Nat)(st:St)(x:CV)(st':St):Prop:=∃F',Own st' x k e L F'/\Kp F st st'/\∀b∈F',(b∈F\/st.nx<=b)/\b<st'.nx
def BX {b:Nat}(hk:0<k)(hb:st.m.g b=some (.cells L e true))(hv:st.m.g vb=some (.cells T e false))(gq:b≠vb)(hL:L.length=n*k)(hT:T.length=k)(hi:i<n)(hn:n<=1000000)(ho:aU L=true)(HD:aU T=true):
 mF e k [.slice b 0 n n k,I i,.slice vb 0 1 1 0] st=some (.ok (.slice st.nx 0 (n+1) (n+1) k) ⟨(st.m.put b none).put st.nx (some (.cells (L.take (i*k)++(T++L.drop (i*k))) e true)),st.nx+1⟩):=by
 have e0:mF e k [.slice b 0 n n k,I i,.slice vb 0 1 1 0] st=mF e k [.slice b 0 n n k,.int .i64 (.ofNat i),.slice vb 0 1 1 0] st:=rfl;rw[e0];simp only[mF,hb,hv];rw[aDy ⟨adu,adu,hk,hi,gq,adu,adu,hL,ho,HD,hT,hn⟩]
def xR {e k n i b vb:Nat}{L T:List CV}(hk:0<k)(hlt:b<st.nx)(hL:L.length=n*k)(hT:T.length=k)(hi:i<n):lO k e (L.take (i*k)++(T++L.drop (i*k))) [b] st (.slice st.nx 0 (n+1) (n+1) k) ⟨(st.m.put b none).put st.nx (some (.cells (L.take (i*k)++(T++L.drop (i*k))) e true)),st.nx+1⟩:=by
 have Gw:i*k<=n*k:=aEj k pX;refine⟨[st.nx],.inr (.inr ⟨st.nx,n+1,rfl,pX,?_,rfl,PT.dg _ _ _⟩),⟨rq,λq h1 h2=>?_,λhf q hq=>?_⟩,λq hq=>⟨.inr (by simp at hq;omega),by simp at hq;simp;omega⟩⟩
 .rw[aDw,aDw,aDF,aDO,hT,hL,aEz];omega
 .show((st.m.put b none).put st.nx _).g q=_;rw[PT.dn _ _ _ _ pX,PT.dn _ _ _ _ WJ]
 .show((st.m.put b none).put st.nx _).g q=_;simp only at hq;rw[PT.dn _ _ _ _ pX,PT.dn _ _ _ _ pX];exact hf q pX
def Kf {bytes:Nat}{g:Bool}{K:CV->CV->Prop}(ho:Own st v k e L F)(hk:0<k)(hL:L.length=n*k)(hn:n<=1000000)(hF:∀b∈F,b<st.nx)(hv:st.m.g vb=some (.cells T e g))(hT:T.length=k)(HD:aU T=true)(hkb:k<=4)(hb:bytes<=48):
 us (aN k v (some (I n)) none st) λx1=>us (bj .slice (.slice vb 0 1 1 0) st) λx2=>us (ai .eql (some .int) true x2 (.int .i64 0) st) λx3=>aA x3 (lO k e (L++T) F st v st) (us (bj .slice v st) λx4=>us (ai .eql (some .int) false (I n) x4 st) λx5=>
  aA x5 (upon (bI e k bytes v (cW .slice k z (.slice vb 0 1 1 0) st) st) λx6 s1=>lO k e (L++T) F st x6 s1) (K x2 x4)):=by
 have lu:Sl st [] v k L:=ho.sl λb hb=>⟨rq,hF b hb⟩;obtain⟨v',p1,_⟩:=lu.lo hk hL (aDt n) st;have e2:ai .eql (some .int) true (I ((1:Nat):Int)) (.int .i64 0) st=.ok (.bool false) st:=rfl;have e3:ai .eql (some .int) false (I n) (I n) st=.ok (.bool true) st:=by rw[ay,cz,aDz rfl]
 have e1:bj .slice (.slice vb 0 1 1 0) st=.ok (I ((1:Nat):Int)) st:=rfl;rw[p1,af,e1,af,e2,af,ag,aDv wI,lu.len n hL hk st,af,e3,af,ag,aDy rfl,Fx (k:=k) (n:=1) hv pX pX];have hnk:=aGf hn hkb;have hsz:(L.length+T.length)*(bytes+1)<=(4000004)*49:=aGf pX pX;obtain⟨x,s,F',a1,a2,a3,a4⟩:=ho.append (n:=1) (bytes:=bytes) (T:=T) hk pX HD hF pX;rw[a1,aT];exact⟨F',a2,a3,λb hb=>⟨(a4 b hb).1.imp id λh=>pX,(a4 b hb).2⟩⟩
def ma (ho:Own st v k e L F)(hk:0<k)(hL:L.length=n*k)(hn:0<n):∃b,v=.slice b 0 n n k/\F=[b]/\st.m.g b=some (.cells L e true):=by
 have hp:=Nat.mul_pos hn hk;rcases ho with⟨_,rfl,_⟩|⟨b,l,t,g,_,rfl,_⟩|⟨b,m,h1,h2,h3,h4,h5⟩
 .simp at hL;omega
 .simp at hL;omega
 .have:m=n:=aEx hk pX;subst this;exact⟨b,h1,h4,h5⟩
def FZ (ho:Own st v 4 109 L F)(hL:L.length=n*4)(hn:n<=1000000)(hF:∀b∈F,b<st.nx)(hv:st.m.g vb=some (.cells T 109 false))(hvF:vb∉F)(hT:T.length=4)(Mc:aU L=true)(HD:aU T=true)(hi:i<=n):
 R 51 [v,I i,.slice vb 0 1 1 0] st (lO 4 109 (L.take (i*4)++(T++L.drop (i*4))) F st):=by
 by_cases kX:i<n
 .obtain⟨b,rfl,rfl,hb⟩:=ma ho pX hL pX;refine Re (st':=_) (v:=_) (show I0 51 _ st=some (.ok _ _)from ?_) (xR (e:=109) (vb:=vb) pX (hF b rq) hL hT kX);have:I0 51 [.slice b 0 n n 4,I i,.slice vb 0 1 1 0] st=mF 109 4 [.slice b 0 n n 4,I i,.slice vb 0 1 1 0] st:=rfl;rw[this];exact BX pX hb hv (λe=>hvF (by simp[e])) hL hT kX hn Mc HD
 .have:i=n:=by omega
  subst this;refine bN ?_ ?_
  .rw[w51];have e1:L.take (i*4)=L:=aDA pX;have e2:L.drop (i*4)=[]:=aEa pX;have e3:lO 4 109 (L.take (i*4)++(T++L.drop (i*4))) F st=lO 4 109 (L++T) F st:=by rw[e1,e2,aEs]
   rw[e3];exact Kf (bytes:=48) (z:=[.str [],.str [],.int .i64 0,.int .i64 0]) ho pX hL hn hF hv hT HD pX pX
  .by_cases h0:i=0
   .subst h0;rcases ho with⟨rfl,_⟩|⟨b,l,t,g,rfl,_⟩|⟨b,m,rfl,h2,h3,_⟩
    .rfl
    .have e9:∀args,I0 51 args st=mF 109 4 args st:=λargs=>rfl;rw[e9];have:mF 109 4 [.slice b 0 0 0 0,I ((0:Nat):Int),.slice vb 0 1 1 0] st=mF 109 4 [.slice b 0 0 0 0,.int .i64 (.ofNat 0),.slice vb 0 1 1 0] st:=rfl;rw[this];simp only[mF]
     split
     .rw[aDv pX]
     .rfl
    .rw[h3]at hL;omega
   .obtain⟨b,rfl,rfl,hb⟩:=ma ho pX hL pX;have e9:∀args,I0 51 args st=mF 109 4 args st:=λargs=>rfl;rw[e9];have:mF 109 4 [.slice b 0 i i 4,I i,.slice vb 0 1 1 0] st=mF 109 4 [.slice b 0 i i 4,.int .i64 (.ofNat i),.slice vb 0 1 1 0] st:=rfl;rw[this];simp only[mF]
    split
    .rw[aDv pX]
    .rfl
def L5 (ho:Own st v 1 3 L F)(hL:L.length=n*1)(hn:n<=1000000)(hF:∀b∈F,b<st.nx)(hv:st.m.g vb=some (.cells T 3 false))(hvF:vb∉F)(hT:T.length=1)(Mc:aU L=true)(HD:aU T=true)(hi:i<=n):
 R 144 [v,I i,.slice vb 0 1 1 0] st (lO 1 3 (L.take (i*1)++(T++L.drop (i*1))) F st):=by
 by_cases kX:i<n
 .obtain⟨b,rfl,rfl,hb⟩:=ma ho pX hL pX;refine Re (st':=_) (v:=_) (show I0 144 _ st=some (.ok _ _)from ?_) (xR (e:=3) (vb:=vb) pX (hF b rq) hL hT kX);have:I0 144 [.slice b 0 n n 1,I i,.slice vb 0 1 1 0] st=mF 3 1 [.slice b 0 n n 1,I i,.slice vb 0 1 1 0] st:=rfl;rw[this];exact BX pX hb hv (λe=>hvF (by simp[e])) hL hT kX hn Mc HD
 .have:i=n:=by omega
  subst this;refine bN ?_ ?_
  .rw[abE];have e1:L.take (i*1)=L:=aDA pX;have e2:L.drop (i*1)=[]:=aEa pX;have e3:lO 1 3 (L.take (i*1)++(T++L.drop (i*1))) F st=lO 1 3 (L++T) F st:=by rw[e1,e2,aEs]
   rw[e3];exact Kf (bytes:=8) (z:=[.int .i64 0]) ho pX hL hn hF hv hT HD pX pX
  .by_cases h0:i=0
   .subst h0;rcases ho with⟨rfl,_⟩|⟨b,l,t,g,rfl,_⟩|⟨b,m,rfl,h2,h3,_⟩
    .rfl
    .have e9:∀args,I0 144 args st=mF 3 1 args st:=λargs=>rfl;rw[e9];have:mF 3 1 [.slice b 0 0 0 0,I ((0:Nat):Int),.slice vb 0 1 1 0] st=mF 3 1 [.slice b 0 0 0 0,.int .i64 (.ofNat 0),.slice vb 0 1 1 0] st:=rfl;rw[this];simp only[mF]
     split
     .rw[aDv pX]
     .rfl
    .rw[h3]at hL;omega
   .obtain⟨b,rfl,rfl,hb⟩:=ma ho pX hL pX;have e9:∀args,I0 144 args st=mF 3 1 args st:=λargs=>rfl;rw[e9];have:mF 3 1 [.slice b 0 i i 1,I i,.slice vb 0 1 1 0] st=mF 3 1 [.slice b 0 i i 1,.int .i64 (.ofNat i),.slice vb 0 1 1 0] st:=rfl;rw[this];simp only[mF]
    split
    .rw[aDv pX]
    .rfl
def KK {bytes:Nat}(ho:Own st v k e L F)(hk:0<k)(hL:L.length=n*k)(hn:n<=1000000)(hF:∀b∈F,b<st.nx)(hz:z.length=k)(hoz:aU z=true)(Mc:aU L=true)(hi:i<n):
 us (bj .slice v st) λx1=>us (iD k v (some (I i)) (I ((i+1:Nat):Int)) x1 st) λx2=>us (ai .eql (some .int) false (I i) (I ((i+1:Nat):Int)) st) λx3=>aA x3 False
  (us (bj .slice v st) λx4=>bU (us (aN k v none (some (I i)) st) λx5=>us (aN k v (some (I ((i+1:Nat):Int))) none st) λx6=>upon (bI e k bytes x5 (cW .slice k z x6 st) st) λx7 s1=>(True)/\(True)/\
   us (bj .slice x7 s1) λx8=>us (aN k x7 (some x8) (some x4) s1) λx9=>upon (rL z x9 s1) λ_ s2=>(lB s2 F x7 k (L.take (i*k)++L.drop ((i+1)*k))/\Kp F st s2/\s2.nx=st.nx))):=by
 obtain⟨b,rfl,rfl,hb⟩:=ma ho hk hL pX;have si:=hF b rq;have e1:bj .slice (.slice b 0 n n k) st=.ok (I n) st:=rfl
 have e2:∃y,iD k (.slice b 0 n n k) (some (I i)) (I ((i+1:Nat):Int)) (I n) st=.ok y st:=by
  unfold iD;dsimp only;rw[tx,aDy (aDt _)];dsimp only;rw[pP,aDy ⟨pX,pX⟩];simp only[dH,aO,aEu,aDW,aDZ];rw[aDy (.inr pX)]
  split<;>exact⟨_,rfl⟩
 obtain⟨y,e2⟩:=e2;have e3:ai .eql (some .int) false (I i) (I ((i+1:Nat):Int)) st=.ok (.bool false) st:=R6
 have Gw:i*k+k<=n*k:=by
  calc i*k+k=(i+1)*k:=by rw[aEz,aFy]
   _<=n*k:=aEj k hi
 have ayH:(i+1)*k=i*k+k:=by rw[aEz,aFy]
 have zU:(n-1)*k+k=n*k:=by
  have:(n-1)*k+k=(n-1+1)*k:=by rw[aEz,aFy]
  rw[this];congr 1;omega
 have hmd:(n-(i+1))*k=n*k-(i+1)*k:=Nat.sub_mul _ _ _
 have hz0:n-(i+1)=0->i*k=(n-1)*k/\i=n-1:=λh=>by have:i=n-1:=by omega
                                                subst this;exact⟨rfl,rfl⟩
 obtain⟨o5,p5,q5⟩:=jt (k:=k) (b:=b) (off:=0) (len:=n) (cap:=n) (grow:=k) (l:=0) (h:=i) (lo:=none) (hi:=some (I i)) (st:=st) acI (aDt _) (.inr rfl);have:o5=0:=pX
 subst this;obtain⟨o6,p6,q6⟩:=jt (k:=k) (b:=b) (off:=0) (len:=n) (cap:=n) (grow:=k) (l:=i+1) (h:=n) (lo:=some (I ((i+1:Nat):Int))) (hi:=none) (st:=st) (by rw[yG,aDy pX]) (aDt _) (.inr rfl);simp only[Nat.sub_zero]at p5;simp only[e1,af,e2,e3,ag,aDp,aDE,bA,p5,p6];have h9:=λC=>jt (k:=k) (b:=b) (off:=0) (len:=n-1) (cap:=n) (grow:=k) (l:=n-1) (h:=n) (lo:=some (I ((n-1:Nat):Int))) (hi:=some (I n)) (st:=St.set st b (.cells C e true)) (by rw[pP,aDy ⟨pX,pX⟩]) pX (.inr rfl);have hlw:∀(l:List CV) (off:Nat) (t:List CV),off+t.length<=l.length->dU l off t=some (bo l off t):=λl off t h=>by unfold dU;rw[aDy h];rfl
 generalize hA:i*k=A at*;generalize hB:(i+1)*k=B at*;generalize hN:n*k=N at*;generalize hM:(n-1)*k=M at*;generalize hD:(n-(i+1))*k=D at*
 have hT:cW .slice k z (.slice b o6 (n-(i+1)) (n-(i+1)) k) st=some (n-(i+1),L.drop B):=by
  have e':cW .slice k z (.slice b o6 (n-(i+1)) (n-(i+1)) k) st=(match dD k (n-(i+1)) (.slice b o6 (n-(i+1)) (n-(i+1)) k) st with|some s=>some (n-(i+1),s)|none=>none):=rfl;rw[e',jI]
  by_cases h0:n-(i+1)=0
  .rw[aDy h0];have:=hz0 h0;have:L.drop B=[]:=aEa pX;rw[this]
  .rw[aDv h0,aDy (.inr (aDt _)),hb,hD];have ho6:o6=B:=by omega
   have:ia L o6 D=some (L.drop B):=by
    unfold ia;rw[aDy pX,ho6,aDA WK]
   dsimp only;rw[this]
 have AO:(L.drop B).length=N-B:=by rw[aDO,hL]
 have hTo:aU (L.drop B)=true:=by
  simp only[aU,aFu]at Mc⊢;exact λx hx=>Mc x (aEk hx)
 have PW:∃s1 C,bI e k bytes (.slice b 0 i n k) (some (n-(i+1),L.drop B)) st=.ok (.slice b 0 (n-1) n k) s1/\s1=St.set st b (.cells C e true)/\C.length=N/\C.take M=L.take A++L.drop B:=by
  by_cases h0:n-(i+1)=0
  .obtain⟨hz1,hz2⟩:=hz0 h0;have hd:L.drop B=[]:=aEa pX;refine⟨St.set st b (.cells L e true),L,?_,rfl,hL,by rw[hd,hz1];simp⟩;rw[h0,hd];have e':bI e k bytes (.slice b 0 i n k) (some (0,[])) st=bz (Nat.ble i n) (.ok (.slice b 0 i n k) st) .bad:=rfl
   have es:St.set st b (.cells L e true)=st:=by
    cases st with
    |mk mem nx=>
     simp only[St.set,St.mk.injEq,and_true]
     exact PT.ext λp=>by
      rw[PT.eO];split
      .rename_i h;rw[h];exact hb.symm
      .rfl
   rw[e',aO,aDy aah,es,<-hz2]
  .refine⟨_,bo L A (L.drop B),?_,rfl,?_,?_⟩
   .unfold bI;simp only[aO,aDZ,dH,aDW];have aoU:Nat.add i (n-(i+1))=n-1:=by show i+(n-(i+1))=n-1;omega
    rw[aDv h0,aoU,aDy pX,hb];dsimp only;rw[hTo,aDy rfl,hA,aDx,hlw _ _ _ pX];rfl
   .rw[mC _ _ _ pX];exact hL
   .unfold bo;rw[aFm,aDA (i:=M) (l:=L.take A) Ws,aDF,aFm];have I4:min A L.length=A:=aEi pX;have:M-min A L.length-(L.drop B).length=0:=by omega
    rw[this,aFj,aEs,aDA (i:=M-min A L.length) (l:=L.drop B) pX]
 obtain⟨s1,C,h1,rfl,h3,h4⟩:=PW;have e7:bj .slice (.slice b 0 (n-1) n k) (St.set st b (.cells C e true))=.ok (I ((n-1:Nat):Int)) (St.set st b (.cells C e true)):=rfl;obtain⟨o9,p9,q9⟩:=h9 C;have:o9=M:=pX
 subst this;have Qz:n-(n-1)=1:=pX
 rw[Qz]at p9
 have e11:rL z (.slice b o9 1 1 k) (St.set st b (.cells C e true))=.ok .undef (St.set st b (.cells (bo C o9 z) e true)):=by
  have e':rL z (.slice b o9 1 1 k) (St.set st b (.cells C e true))=bz (Nat.beq 1 0) (.ok .undef (St.set st b (.cells C e true))) (bz (Bool.or (Nat.beq k 0) (Nat.ble 1 1))
   (match (St.set st b (.cells C e true)).m.g b with
   |some (.cells s ty g)=>(λt=>bz (aU t) (Option.rec .bad (λs'=>.ok .undef ⟨(St.set st b (.cells C e true)).m.put b (some (.cells s' ty g)),(St.set st b (.cells C e true)).nx⟩) (dU s o9 t)) .bad) (cJ 1 z)
   |_=>.bad) .bad):=rfl
  rw[e',aq];have er:cJ 1 z=z:=by simp[cJ]
  dsimp only;rw[er,hoz,hlw _ _ _ pX];have e13:Bool.or (Nat.beq k 0) (Nat.ble 1 1)=true:=rq
  have e14:Nat.beq 1 0=false:=rfl;rw[e13,e14];show OR.ok CV.undef (St.set (St.set st b (.cells C e true)) b (.cells (bo C o9 z) e true))=_;rw[set_set]
 rw[hT,h1];simp only[aT,e7,af,p9,e11,aFw];have vY:Kp [b] st (St.set st b (.cells (bo C o9 z) e true)):=(Kp.refl _ st).set _ (.inl rq) si;have hlen:(L.take A++L.drop B).length=(n-1)*k:=by rw[<-h4,aDF,hM];omega
 refine⟨λX hX=>?_,vY,rfl⟩;refine .inr ⟨b,0,n-1,n,k,rfl,hlen,⟨pX,.inr rfl⟩,.inr ⟨hX b rq,si,_,_,_,aq _ _ _,?_,?_⟩⟩
 .rw[mC _ _ _ pX,hM];omega
 .rw[aDX,hM,<-h4];unfold bo;rw[aFm,aDA (i:=o9) (l:=C.take o9) Ws,aDF];have I4:min o9 C.length=o9:=aEi pX;have:o9-min o9 C.length=0:=by omega
  rw[this];simp
def GV (ho:Own st v 4 109 L F)(hL:L.length=n*4)(hn:n<=1000000)(hF:∀b∈F,b<st.nx)(Mc:aU L=true)(hi:i<n):
 R 84 [v,I i,I ((i+1:Nat):Int)] st λx s2=>lB s2 F x 4 (L.take (i*4)++L.drop ((i+1)*4))/\Kp F st s2/\s2.nx=st.nx:=by
 refine bN ?_;rw[w84];have:=KK (bytes:=48) (z:=[.str [],.str [],.int .i64 0,.int .i64 0]) ho pX hL hn hF rfl rfl Mc hi;refine lC this λx1 h1=>lC h1 λx2 h2=>lC h2 λx3 h3=>?_;unfold aA at h3⊢
 split at h3
 .exact h3.elim
 .exact h3
 .exact h3
def MA (ho:Own st v 1 3 L F)(hL:L.length=n*1)(hn:n<=1000000)(hF:∀b∈F,b<st.nx)(Mc:aU L=true)(hi:i<n):
 R 108 [v,I i,I ((i+1:Nat):Int)] st λx s2=>lB s2 F x 1 (L.take (i*1)++L.drop ((i+1)*1))/\Kp F st s2/\s2.nx=st.nx:=by
 refine bN ?_;rw[akf];have:=KK (bytes:=8) (z:=[.int .i64 0]) ho pX hL hn hF rfl rfl Mc hi;refine lC this λx1 h1=>lC h1 λx2 h2=>lC h2 λx3 h3=>?_;unfold aA at h3⊢
 split at h3
 .exact h3.elim
 .exact h3
 .exact h3
end
end
