import Derived.Test.YtomffjeofpafnaaGreatDoorNodeB
namespace Lim
open Go
noncomputable section
set_option linter.defProp false
set_option maxRecDepth 100000
section
variable {k e n:Nat}{z vs:List CV}{Ls:List (List CV)}{a0:CV}
section
variable {st st':St}
def PS (n:Nat)(z:List CV):(cM n z).length=n*z.length:=by
 unfold cM;rw[fJ (w:=z.length) (by intro x hx;rw[List.eq_of_mem_replicate hx])];simp
def ML (n:Nat)(z:List CV)(i:Nat)(h:i<=n):(cM n z).drop (i*z.length)=cM (n-i) z:=by
 unfold cM;rw[qp (w:=z.length) (by intro x hx;rw[List.eq_of_mem_replicate hx]) i OY,aGW]
def uX (k e:Nat)(z:List CV)(n:Nat)(st:St)(x:CV)(st':St):Prop:=if n=0 then x=.ae/\st'=st else x=.slice st.nx 0 0 n k/\st'=St.new st (.cells (cM n z) e true)
def XY {bytes:Nat}(hk:0<k)(hz:z.length=k)(hn:n<=100000)(hb:bytes<=1000):
 us (bo .cap .ae st) λx3=>us (bo .slice .ae st) λx4=>us (ai .sub none false x3 x4 st) λx5=>us (ai .sub none false (I n) x5 st) λx6=>us (ai .gtr none true x6 (.int .i64 0) st) λx7=>
  aD x7 (us (bo .cap .ae st) λx8=>us (aQ k .ae none (some x8) st) λx9=>upon (bT e k bytes x9 (de .zeros k z x6 st) st) λdd s2=>us (bo .slice .ae s2) λdm=>us (aQ k dd none (some dm) s2) λdw=>uX k e z n st dw s2) (uX k e z n st .ae st):=by
 have e1:bo .cap .ae st=.ok (.int .i64 0) st:=rfl;have e2:∀s,bo .slice .ae s=.ok (.int .i64 0) s:=λs=>rfl;have e3:ai .sub none false (.int .i64 0) (.int .i64 0) st=.ok (.int .i64 0) st:=rfl;have e4:ai .sub none false (I n) (.int .i64 0) st=.ok (I n) st:=by rw[az,dR,bz qE];congr 2
 have e5:ai .gtr none true (I n) (.int .i64 0) st=.ok (.bool (decide (0<n))) st:=zz
 have e6:aQ k .ae none (some (.int .i64 0)) st=.ok .ae st:=rfl;simp only[e1,e2,e3,e4,e5,af,ag,e6]
 by_cases h0:n=0
 .subst h0;rw[aET u7];unfold uX;rw[aEW rfl];exact⟨rfl,rfl⟩
 .rw[aEW (by simpa using Nat.pos_of_ne_zero h0)]
  have e7:de .zeros k z (I n) st=some (n,cM n z):=by
   have:de .zeros k z (I n) st=bH (Nat.ble n 1099511627776) (some (n,cM n z)) none:=rfl;rw[this,aP,aEW abG]
  have G0:=aHC hn hb
  have e8:bT e k bytes .ae (some (n,cM n z)) st=.ok (.slice st.nx 0 n n k) (St.new st (.cells (cM n z) e true)):=by
   have e:bT e k bytes .ae (some (n,cM n z)) st=bH (Nat.beq n 0) (.ok .ae st) (bH (Bool.and (Nat.ble 1 k) (Bool.and (Nat.ble (Nat.mul n bytes) 140737488355328) (Nat.ble n 140737488355328)))
    (.ok (.slice st.nx 0 n n k) ⟨st.m.put st.nx (some (.cells (cM n z) e true)),st.nx+1⟩) .bad):=rfl
   rw[e];simp only[aP,aFw,aFl,aFs];rw[aET h0,aEW ⟨hk,aGb G0 qE,qE⟩];rfl
  rw[e7,e8,aS]
  have e9:aQ k (.slice st.nx 0 n n k) none (some (.int .i64 0)) (St.new st (.cells (cM n z) e true))=.ok (.slice st.nx 0 0 n k) (St.new st (.cells (cM n z) e true)):=by
   obtain⟨dE,q1,q2⟩:=jF (k:=k) (b:=st.nx) (off:=0) (len:=n) (cap:=n) (grow:=k) (l:=0) (h:=0) (lo:=none) (hi:=some (I ((0:Nat):Int))) (st:=St.new st (.cells (cM n z) e true)) adb (aEQ _) (.inr rfl);have:dE=0:=qE
   subst this;exact q1
  rw[e9,af];unfold uX;rw[aET h0];exact⟨rfl,rfl⟩
def VG (hn:n<=100000):R 189 [.ae,I n] st (uX 4 109 [.str [],.str [],.int .i64 0,.int .i64 0] n st):=by
 refine bP ?_;rw[ajV];have e0:ai .lss none true (I n) (.int .i64 0) st=.ok (.bool false) st:=Yl
 rw[cV,e0,af,ag,aET u7];simp only[aL,aM];exact XY qE rfl hn qE
def VF (hn:n<=100000):R 190 [.ae,I n] st (uX 1 3 [.int .i64 0] n st):=by
 refine bP ?_;rw[ajU];have e0:ai .lss none true (I n) (.int .i64 0) st=.ok (.bool false) st:=Yl
 rw[cV,e0,af,ag,aET u7];simp only[aL,aM];exact XY qE rfl hn qE
def xm (st:St)(k:Nat):List CV->List (List CV)->Prop
 |[],[]=>True
 |v::vs,l::ls=>(Sl st [] v k l/\∃n,l.length=n*k/\n<=10000)/\xm st k vs ls
 |_,_=>False
def xm.mono (h:xm st k vs Ls)(hk:Kp [] st st'):xm st' k vs Ls:=by
 induction vs generalizing Ls with
 |nil=>cases Ls with|nil=>trivial|cons l L=>exact h
 |cons v vs ih=>cases Ls with|nil=>exact h|cons l L=>exact⟨⟨h.1.1.mono hk,h.1.2⟩,ih h.2⟩
def xm.len (h:xm st k vs Ls):vs.length=Ls.length:=by
 induction vs generalizing Ls with
 |nil=>cases Ls with|nil=>rfl|cons l L=>exact h.elim
 |cons v vs ih=>cases Ls with|nil=>exact h.elim|cons l L=>simp[ih h.2]
def xm.at (h:xm st k vs Ls){i:Nat}(hi:i<vs.length):∃fk:i<Ls.length,Sl st [] vs[i] k Ls[i]/\∃n,Ls[i].length=n*k/\n<=10000:=by
 induction vs generalizing Ls i with
 |nil=>simp at hi
 |cons v vs ih=>
  cases Ls with
  |nil=>exact h.elim
  |cons l L=>
   cases i with
   |zero=>exact⟨uG,h.1⟩
   |succ i=>obtain⟨a,b⟩:=ih h.2 (i:=i) O1;exact⟨vR,b⟩
def qG (k:Nat)(Ls:List (List CV))(i:Nat):Nat:=(Ls.take i).flatten.length/k
def xm.jC (hk:0<k)(h:xm st k vs Ls):∀i,(Ls.take i).flatten.length=qG k Ls i*k/\qG k Ls i<=10000*i:=by
 have key:∀(vs:List CV) (Ls:List (List CV)),xm st k vs Ls->∀i,∃m,(Ls.take i).flatten.length=m*k/\m<=10000*i:=by
  intro vs
  induction vs with
  |nil=>intro Ls h i;cases Ls with|nil=>exact⟨0,uG⟩|cons l L=>exact h.elim
  |cons v vs ih=>
   intro Ls h i;cases Ls with
   |nil=>exact h.elim
   |cons l L=>
    cases i with
    |zero=>exact⟨0,uG⟩
    |succ i=>
     obtain⟨m,h1,h2⟩:=ih L h.2 i;obtain⟨n,h3,h4⟩:=h.1.2;exact⟨n+m,by rw[List.take_succ_cons,aGq,aEU,h1,h3,aFW],qE⟩
 intro i;obtain⟨m,h1,h2⟩:=key vs Ls h i;have:qG k Ls i=m:=by unfold qG;rw[h1,Nat.mul_div_cancel _ hk]
 rw[this];exact⟨h1,h2⟩
def xl (s:St)(x:CV)(k e:Nat)(z:List CV)(b m n:Nat)(L:List CV):Prop:=
 L.length=m*k/\m<=n/\((n=0/\x=.ae)\/(0<n/\x=.slice b 0 m n k/\s.m.g b=some (.cells (L++cM (n-m) z) e true)))
def xl.append {s:St}{x v:CV}{bytes:Nat}{b m j:Nat}{L T:List CV}(h:xl s x k e z b m n L)(hk:0<k)(hz:z.length=k)(hb:b<s.nx\/n=0)(hv:Sl s [] v k T)(hT:T.length=j*k)(kz:bj T=true)(hj:m+j<=n):
 ∃x' s',bT e k bytes x (de .slice k z v s) s=.ok x' s'/\xl s' x' k e z b (m+j) n (L++T)/\s'.nx=s.nx/\(∀q,q≠b->s'.m.g q=s.m.g q):=by
 obtain⟨h1,h2,h3⟩:=h;obtain⟨j',q1,q2⟩:=hv.src z;have:j'=j:=aFU hk (by rw[<-q1,hT]);subst this;rw[q2];have hlen:(L++T).length=(m+j')*k:=by rw[aEU,h1,hT,aFW]
 rcases h3 with⟨rfl,rfl⟩|⟨h4,rfl,h5⟩
 .have:j'=0:=by omega
  subst this;exact⟨.ae,s,rfl,⟨hlen,hj,.inl ⟨rfl,rfl⟩⟩,rfl,λ_ _=>rfl⟩
 .by_cases h0:j'=0
  .subst h0;have hT0:T=[]:=aFi.1 qE;subst hT0;refine⟨.slice b 0 m n k,s,?_,⟨O8,h2,.inr ⟨h4,rfl,by simpa using h5⟩⟩,rfl,λ_ _=>rfl⟩;have e:bT e k bytes (.slice b 0 m n k) (some (0,[])) s=bH (Nat.ble m n) (.ok (.slice b 0 m n k) s) .bad:=rfl;rw[e,aP,aEW (by rw[aFs];exact h2)]
  .have e:bT e k bytes (.slice b 0 m n k) (some (j',T)) s=.ok (.slice b 0 (m+j') n k) (St.set s b (.cells (bD (L++cM (n-m) z) (m*k) T) e true)):=by
    unfold bT;simp only[aP,aFw,dI,aFs];rw[aET h0,aEW (show Nat.add m j'<=n from hj),h5];dsimp only
    have hl:dY (L++cM (n-m) z) (0+m*k) T=some (bD (L++cM (n-m) z) (m*k) T):=by
     unfold dY;rw[aER,aEW]
     .rfl
     .rw[aEU,PS,h1,hT,hz,<-aFW,<-aFW];exact aFH k qE
    rw[kz,aEW rfl,hl];rfl
   refine⟨_,_,e,⟨hlen,hj,.inr ⟨h4,rfl,?_⟩⟩,rfl,λq hq=>al _ _ _ _ hq⟩;rw[ar]
   congr 2
   rw[<-h1,qa,aFx]
   congr 2
   rw[hT,<-hz,ML _ _ _ qE]
   congr 1;omega
def Mc {gr bytes:Nat}(hk:0<k)(hz:z.length=k)(hgr:∀(s:St) (n:Nat),n<=100000->R gr [.ae,I n] s (uX k e z n s))(ha:Sl st [] a0 1 vs)(h:xm st k vs Ls)(hl:vs.length<=9)(kz:∀l∈Ls,bj l=true):
 cZ (λv2 s2 k3=>us (ai .lss none false (au 4 v2) (au 3 v2) s2) λx5=>aD x5 (Lim.idx 1 (au 2 v2) (au 4 v2) s2 λx6=>us (bo .slice x6 s2) λx7=>us (ai .add none false (au 1 v2) x7 s2) λx8=>us (ai .lss none true x8 (.int .i64 0) s2) λx9=>
  aD x9 (us (vo 9 (.str [108,101,110,32,111,117,116,32,111,102,32,114,97,110,103,101]) s2) λdd=>False) (us (ai .add none true (au 4 v2) (.int .i64 1) s2) λdm=>k3 [au 0 v2,x8,au 2 v2,au 3 v2,dm] s2))
  (R gr [.ae,au 1 v2] s2 λdw s3=>dK (λkI s4=>cZ (λeJ s5 nz=>us (ai .lss none false (au 3 eJ) (au 2 eJ) s5) λeV=>aD eV (Lim.idx 1 (au 1 eJ) (au 3 eJ) s5 λeg=>upon (bT e k bytes (au 0 eJ) (de .slice k z eg s5) s5) λef s6=>
   us (ai .add none true (au 3 eJ) (.int .i64 1) s6) λeF=>nz [ef,au 1 eJ,au 2 eJ,eF] s6) (Made k e Ls.flatten st (au 0 eJ) s5)) [au 0 kI,au 1 kI,au 2 kI,au 3 kI] s4) λoM=>us (bo .slice (au 0 v2) s3) λdQ=>oM [dw,au 0 v2,dQ,.int .i64 0] s3))
  [a0,.int .i64 0,a0,I vs.length,.int .i64 0] st:=by
 have Xu:=h.len
 refine bN (λfu w s=>∃i,fu+i=vs.length/\w=[a0,I (qG k Ls i),a0,I vs.length,I i]/\s=st) ?_ (n:=vs.length) ⟨0,rfl,by
  have:qG k Ls 0=0:=by simp[qG]
  rw[this];rfl,rfl⟩
 rintro fu w s kk ⟨i,hi,rfl,rfl⟩ next;obtain⟨hc1,Nu⟩:=h.jC hk i;simp only[aL,aM,dC,af,ag]
 by_cases hc:i<vs.length
 .rw[aEV hc,aEW rfl];refine ha.idx hc _ ?_;obtain⟨fk,hv,n,BU,Xq⟩:=h.at hc;obtain⟨TD,Fg⟩:=h.jC hk (i+1)
  have VA:qG k Ls (i+1)=qG k Ls i+n:=by
   refine aFU hk ?_;rw[<-TD,aFe fk,aGJ,aEU,hc1,aFW];simp[BU]
  have e1:ai .add none false (I (qG k Ls i)) (I n) s=.ok (I (qG k Ls (i+1))) s:=by rw[az,cO,bz qE,VA];rfl
  have e2:ai .lss none true (I (qG k Ls (i+1))) (.int .i64 0) s=.ok (.bool false) s:=Yl
  simp only[hv.len n BU hk s,af,e1,e2,ag,aEM,aFa,gH i qE];exact next (fu-1) _ _ qE ⟨i+1,qE,rfl,rfl⟩
 .rw[aEO hc,aET u7];have yv:Ls.take i=Ls:=aEX qE;rw[yv]at hc1;refine(hgr s _ qE).mono ?_;intro dw s3 hg;generalize hN:qG k Ls i=N at*
  have jN:Kp [] s s3:=by
   unfold uX at hg
   split at hg
   .rw[hg.2];exact Kp.refl _ _
   .rw[hg.2];exact(Kp.refl _ s).new _
  have hn3:s3.nx=s.nx+1\/N=0:=by
   unfold uX at hg
   split at hg
   .rename_i h0;exact .inr h0
   .rw[hg.2];exact .inl rfl
  have hF:xl s3 dw k e z s.nx 0 N []:=by
   unfold uX at hg;refine⟨uG,aHt _,?_⟩
   split at hg
   .rename_i h0;exact .inl ⟨h0,hg.1⟩
   .rename_i h0;rw[hg.2];exact .inr ⟨qE,hg.1,uG⟩
  have LK:=(ha.mono jN).len vs.length qE qE s3;simp only[cV,aL,aM,LK,af];refine bN (λfu w s'=>∃i x,fu+i=vs.length/\w=[x,a0,I vs.length,I i]/\xl s' x k e z s.nx (qG k Ls i) N (Ls.take i).flatten/\Kp [] s s'/\(s.nx<s'.nx\/N=0)) ?_ (n:=vs.length) ⟨0,dw,rfl,rfl,by simpa[qG]using hF,jN,qE⟩;rintro fu w s' kk ⟨i,x,hi,rfl,RQ,mr,hlt⟩ next;simp only[aL,aM,dC,af,ag]
  by_cases wR:i<vs.length
  .rw[aEV wR,aEW rfl];refine(ha.mono mr).idx wR _ ?_;obtain⟨fk,hv,n,BU,Xq⟩:=(h.mono mr).at wR;obtain⟨J7,_⟩:=h.jC hk i;obtain⟨TD,Fg⟩:=h.jC hk (i+1)
   have VA:qG k Ls (i+1)=qG k Ls i+n:=by
    refine aFU hk ?_;rw[<-TD,aFe fk,aGJ,aEU,J7,aFW];simp[BU]
   have hle:qG k Ls i+n<=N:=by
    rw[<-VA];refine Nat.le_of_mul_le_mul_right ?_ hk;rw[<-TD,<-hc1]
    conv=>rhs;rw[<-aFD (i+1) Ls]
    rw[aGJ,aEU];omega
   obtain⟨x',s6,q1,q2,q3,q4⟩:=RQ.append (bytes:=bytes) hk hz hlt hv BU (kz _ (aFj fk)) hle;rw[q1,aS,gH i qE,af];have e5:(Ls.take i).flatten++Ls[i]=(Ls.take (i+1)).flatten:=by rw[aFe fk,aGJ];simp
   rw[e5,<-VA]at q2;refine next (fu-1) _ _ qE ⟨i+1,x',qE,rfl,q2,⟨by rw[q3];exact mr.nx,λb hb G0=>(q4 b qE).trans (mr.keep b hb G0),λj0 b hb=>?_⟩,by rw[q3];exact hlt⟩;rw[q3]at hb;rcases hlt with hlt|hlt
   .rw[q4 b qE];exact mr.fresh j0 b hb
   .rcases RQ.2.2 with⟨_,rfl⟩|⟨h4,_⟩
    .have:n=0:=by omega
     subst this;have hT0:Ls[i]=[]:=aFi.1 qE;obtain⟨j',r1,r2⟩:=hv.src z
     have:j'=0:=by
      have h9:j'*k=0:=by rw[<-r1,hT0];rfl
      rcases Nat.mul_eq_zero.1 h9 with h|h
      .exact h
      .omega
     subst this;rw[r2]at q1;cases q1;exact mr.fresh j0 b hb
    .omega
  .rw[aEO wR,aET u7];have ht:Ls.take i=Ls:=aEX qE;obtain⟨J7,_⟩:=h.jC hk i;rw[ht]at J7 RQ;have hiN:qG k Ls i=N:=aFU hk (by rw[<-J7,hc1]);rw[hiN]at RQ;obtain⟨f1,f2,f3⟩:=RQ;rcases f3 with⟨h0,rfl⟩|⟨h0,rfl,f4⟩
   .have:=aFi.1 (by rw[f1,h0];simp);exact⟨[],mr,.inl ⟨rfl,this,rfl⟩,uG⟩
   .refine⟨[s.nx],mr,.inr (.inr ⟨s.nx,N,rfl,h0,f1,rfl,?_⟩),λb hb=>?_⟩
    .rw[f4];simp[cM]
    .simp at hb;subst hb;omega
def Df (ha:Sl st [] a0 1 vs)(h:xm st 4 vs Ls)(hl:vs.length<=9)(kz:∀l∈Ls,bj l=true):R 147 [a0] st (Made 4 109 Ls.flatten st):=by
 refine bP ?_;rw[akC];have hlen:=ha.len vs.length qE qE st;have:=Mc (gr:=189) (k:=4) (e:=109) (bytes:=48) (z:=[.str [],.str [],.int .i64 0,.int .i64 0]) qE rfl (λs n hn=>VG hn) ha h hl kz;simp only[cV,aL,aM,hlen,af]at this⊢;exact this
def NQ (ha:Sl st [] a0 1 vs)(h:xm st 1 vs Ls)(hl:vs.length<=9)(kz:∀l∈Ls,bj l=true):R 148 [a0] st (Made 1 3 Ls.flatten st):=by
 refine bP ?_;rw[akB];have hlen:=ha.len vs.length qE qE st;have:=Mc (gr:=190) (k:=1) (e:=3) (bytes:=8) (z:=[.int .i64 0]) qE rfl (λs n hn=>VF hn) ha h hl kz;simp only[cV,aL,aM,hlen,af]at this⊢;exact this
end
end
section
variable {st st':St}
def kL {l:List dh}(h:l.length<=10000):∃n,(bC l).length=n*4/\n<=10000:=⟨l.length,bB l,h⟩
def Wi {va vb:CV}{a b:bp}{sep:cn}(hf:eH st)(ha:IsNode st [] va a)(hb:IsNode st [] vb b)(h1:a.cells.length<=1000)(h2:b.cells.length<=1000)(h3:a.kids.length<=1001)(h4:b.kids.length<=1001):
 R 107 [va,.str sep,vb] st λx st'=>Kp [] st st'/\∀X,(∀b∈X,b<st.nx)->IsNode st' X x (dG a sep b):=by
 obtain⟨c1,d1,rfl,e1,f1⟩:=ha;obtain⟨c2,d2,rfl,e2,f2⟩:=hb;obtain⟨x1,x2,x3⟩:=e1.bE;obtain⟨y1,y2,y3⟩:=f1.bE;obtain⟨z1,z2,z3⟩:=e2.bE;obtain⟨w1,w2,w3⟩:=f2.bE;refine bP ?_;rw[alm];rw[bV,aT];refine⟨rfl,?_⟩;have k1:Kp [] st (St.new st (.cells [.bool a.leaf,c1,d1] 105 false)):=(Kp.refl [] st).new _;have g1:(St.new st (.cells [.bool a.leaf,c1,d1] 105 false)).m.g st.nx=some (.cells [.bool a.leaf,c1,d1] 105 false):=ao _ _;have n1:(St.new st (.cells [.bool a.leaf,c1,d1] 105 false)).nx=st.nx+1:=rfl;generalize St.new st (.cells [.bool a.leaf,c1,d1] 105 false)=s1 at*;rw[bV,aT];refine⟨rfl,?_⟩;have k2:Kp [] s1 (St.new s1 (.cells [.bool b.leaf,c2,d2] 105 false)):=(Kp.refl [] s1).new _;have g2:(St.new s1 (.cells [.bool b.leaf,c2,d2] 105 false)).m.g s1.nx=some (.cells [.bool b.leaf,c2,d2] 105 false):=ao _ _;have n2:(St.new s1 (.cells [.bool b.leaf,c2,d2] 105 false)).nx=s1.nx+1:=rfl;generalize St.new s1 (.cells [.bool b.leaf,c2,d2] 105 false)=s2 at*;have k3:Kp [] s2 (St.new s2 (.cells [.bool false,.ae,.ae] 105 false)):=(Kp.refl [] s2).new _;have g3:(St.new s2 (.cells [.bool false,.ae,.ae] 105 false)).m.g s2.nx=some (.cells [.bool false,.ae,.ae] 105 false):=ao _ _;have n3:(St.new s2 (.cells [.bool false,.ae,.ae] 105 false)).nx=s2.nx+1:=rfl;rw[cH,aS];generalize St.new s2 (.cells [.bool false,.ae,.ae] 105 false)=s3 at*;have nE:=(k3.keep st.nx qE uG).trans ((k2.keep st.nx qE uG).trans g1);have Hu:=(k3.keep s1.nx qE uG).trans g2;have jN:=(k1.trans k2 uG).trans k3 uG;have kP:∀a b c:CV,bD [.bool false,.ae,.ae] 0 [a,b,c]=[a,b,c]:=λa b c=>rfl;simp only[fl,ah,af,aB,nE,aq,aER,aEN,aEL,ay,ag];cases fL:a.leaf with
 |true=>
  have Oz:bM 102 2 (cM 2 [.ae]) [(0,1,c1),(1,1,c2)] s3=.ok (.slice s3.nx 0 2 2 0) (St.new s3 (.cells [c1,c2] 102 false)):=by
   have e:gC [(0,1,c1),(1,1,c2)] (cM 2 [.ae])=some [c1,c2]:=by
    rw[cR,aEW ⟨⟨by rw[x3];rfl,x1⟩,by rw[x3];exact(by decide:0+1<=2)⟩,cR,aEW ⟨⟨by rw[z3];rfl,z1⟩,by rw[z3,x3];exact(by decide:1+1<=2)⟩,ld,x3,z3];rfl
   unfold bM;rw[e];rfl
  simp only[aFm,Hu,aq,aEN,aEL,ay,Oz,aS];have k4:Kp [] s3 (St.new s3 (.cells [c1,c2] 102 false)):=(Kp.refl [] s3).new _;have g4:(St.new s3 (.cells [c1,c2] 102 false)).m.g s3.nx=some (.cells [c1,c2] 102 false):=ao _ _;have n4:(St.new s3 (.cells [c1,c2] 102 false)).nx=s3.nx+1:=rfl;generalize St.new s3 (.cells [c1,c2] 102 false)=s4 at*;have rQ:=jN.trans k4 uG;have lq:Sl s4 [] (.slice s3.nx 0 2 2 0) 1 [c1,c2]:=.inr ⟨s3.nx,0,2,2,0,rfl,rfl,⟨aEQ _,.inl rfl⟩,.inr ⟨uG,qE,_,_,_,g4,uG,rfl⟩⟩;refine(Df (Ls:=[bC a.cells,bC b.cells]) lq ⟨⟨e1.mono rQ,kL qE⟩,⟨e2.mono rQ,kL qE⟩,aer⟩ uG uG).mono ?_;intro x8 s5 m5;have k5:=m5.kp;have n5:=k5.nx;have g35:=(k5.keep s2.nx qE uG).trans ((k4.keep s2.nx qE uG).trans g3);obtain⟨F,a1,a2,a3⟩:=m5;obtain⟨p1,p2⟩:=a2.cE;have p3:=(a2.sl (X:=[]) λb hb=>⟨uG,(a3 b hb).2⟩).bE.1
  have nD:bk [.bool false,.ae,.ae] [(0,1,.bool true),(1,1,x8)] s5=.ok (.agg [.bool true,x8,.ae]) s5:=by
   rw[dV];simp[cR,bD,p2,p3]
  rw[nD,af,aJ,g35,aW,aT,kP];refine⟨⟨rfl,by simp[p1],uG⟩,?_⟩;rw[aK (n:=3) (ar _ _ _) rfl,af];refine⟨(rQ.trans k5 uG).set _ (.inr qE) qE,λX hX=>⟨x8,.ae,?_,?_,.inl ⟨rfl,?_⟩⟩⟩
  .unfold dG;rw[aEW fL]
  .have:bC (dG a sep b).cells=[bC a.cells,bC b.cells].flatten:=by unfold dG;rw[aEW fL,gE];simp
   rw[this];exact(a2.mono λq hq=>al _ _ _ _ acQ).sl λq hq=>⟨λh=>by have:=hX q h;have:=(a3 q hq).1;have:=rQ.nx;omega,(a3 q hq).2⟩
  .unfold dG;rw[aEW fL];rfl
 |false=>
  rw[aET u7,bG];have JI:Kp [] s3 (St.skip (St.skip (St.skip s3))):=((Kp.refl _ s3).skip).skip.skip;have j0:=jN.fresh hf;have gm:∀q,(St.skip (St.skip (St.skip s3))).m.g q=s3.m.g q:=λq=>rfl;have nsk:(St.skip (St.skip (St.skip s3))).nx=s3.nx+3:=rfl;have y1':(St.skip s3).nx=s3.nx+1:=rfl;have y2':(St.skip (St.skip s3)).nx=s3.nx+2:=rfl;have ZU:(St.skip (St.skip (St.skip s3))).m.g s3.nx=none:=j0 _ (aEQ _);have ZT:(St.skip (St.skip (St.skip s3))).m.g (s3.nx+1)=none:=j0 _ qE;have ED:(St.skip (St.skip (St.skip s3))).m.g (s3.nx+2)=none:=j0 _ qE;rw[y1',y2'];generalize St.skip (St.skip (St.skip s3))=s6 at*;have Iy:=(JI.keep st.nx qE uG).trans nE;have g26:=(JI.keep s1.nx qE uG).trans Hu;have g36:=(JI.keep s2.nx qE uG).trans g3;have aqk:bk [.str [],.str [],.int .i64 0,.int .i64 0] [(0,1,.str sep)] s6=.ok (.agg (aU (fW sep))) s6:=rfl;simp only[Iy,aq,aEN,aEL,ay,aqk,af];rw[jH ZU (ER (k:=4) rfl rfl rfl),aS];have k7:Kp [s3.nx,s3.nx+1,s3.nx+2] s6 (St.set s6 s3.nx (.cells (CV.agg (aU (fW sep))).cN 109 false)):=(Kp.refl _ s6).set _ (.inl uG) qE;have g77:(St.set s6 s3.nx (.cells (CV.agg (aU (fW sep))).cN 109 false)).m.g s3.nx=some (.cells (aU (fW sep)) 109 false):=ar _ _ _;have g71:(St.set s6 s3.nx (.cells (CV.agg (aU (fW sep))).cN 109 false)).m.g (s3.nx+1)=none:=(al _ _ _ _ qE).trans ZT;have g72:(St.set s6 s3.nx (.cells (CV.agg (aU (fW sep))).cN 109 false)).m.g (s3.nx+2)=none:=(al _ _ _ _ qE).trans ED;have n7:(St.set s6 s3.nx (.cells (CV.agg (aU (fW sep))).cN 109 false)).nx=s6.nx:=rfl;generalize St.set s6 s3.nx (.cells (CV.agg (aU (fW sep))).cN 109 false)=s7 at*;have g27:=(k7.keep s1.nx qE vR).trans g26;have NF:=(k7.keep st.nx qE vR).trans Iy;have g37:=(k7.keep s2.nx qE vR).trans g36;simp only[g27,aq,aEN,aEL,ay]
  have apv:gC [(0,1,c1),(1,1,.slice s3.nx 0 1 1 0),(2,1,c2)] (cM 3 [.ae])=some [c1,.slice s3.nx 0 1 1 0,c2]:=by
   rw[cR,aEW ⟨⟨by rw[x3];rfl,x1⟩,by rw[x3];exact(by decide:0+1<=3)⟩,cR,aEW ⟨⟨rfl,rfl⟩,by rw[x3];exact(by decide:1+1<=3)⟩,cR,aEW ⟨⟨by rw[z3];rfl,z1⟩,by rw[z3,x3];exact(by decide:2+1<=3)⟩,ld,x3,z3];rfl
  rw[jH g71 apv,aS];have k8:Kp [s3.nx,s3.nx+1,s3.nx+2] s6 (St.set s7 (s3.nx+1) (.cells [c1,.slice s3.nx 0 1 1 0,c2] 102 false)):=k7.set _ (.inl uG) qE;have g88:(St.set s7 (s3.nx+1) (.cells [c1,.slice s3.nx 0 1 1 0,c2] 102 false)).m.g (s3.nx+1)=some (.cells [c1,.slice s3.nx 0 1 1 0,c2] 102 false):=ar _ _ _;have g87:(St.set s7 (s3.nx+1) (.cells [c1,.slice s3.nx 0 1 1 0,c2] 102 false)).m.g s3.nx=some (.cells (aU (fW sep)) 109 false):=(al _ _ _ _ qE).trans g77;have g82:(St.set s7 (s3.nx+1) (.cells [c1,.slice s3.nx 0 1 1 0,c2] 102 false)).m.g (s3.nx+2)=none:=(al _ _ _ _ qE).trans g72;have n8:(St.set s7 (s3.nx+1) (.cells [c1,.slice s3.nx 0 1 1 0,c2] 102 false)).nx=s6.nx:=n7;generalize St.set s7 (s3.nx+1) (.cells [c1,.slice s3.nx 0 1 1 0,c2] 102 false)=s8 at*;have hk8:=(jN.trans JI uG).trans k8 (by intro q hq;simp at hq;omega);have ant:Sl s8 [] (.slice (s3.nx+1) 0 3 3 0) 1 [c1,.slice s3.nx 0 1 1 0,c2]:=.inr ⟨s3.nx+1,0,3,3,0,rfl,rfl,⟨aEQ _,.inl rfl⟩,.inr ⟨uG,qE,_,_,_,g88,uG,rfl⟩⟩;have afd:Sl s8 [] (.slice s3.nx 0 1 1 0) 4 (aU (fW sep)):=.inr ⟨s3.nx,0,1,1,0,rfl,rfl,⟨aEQ _,.inl rfl⟩,.inr ⟨uG,qE,_,_,_,g87,TT,rfl⟩⟩;have VJ:=(k8.keep st.nx qE vR).trans Iy;have g28:=(k8.keep s1.nx qE vR).trans g26;have g38:=(k8.keep s2.nx qE vR).trans g36;refine(Df (Ls:=[bC a.cells,aU (fW sep),bC b.cells]) ant ⟨⟨e1.mono hk8,kL qE⟩,⟨afd,1,rfl,qE⟩,⟨e2.mono hk8,kL qE⟩,aer⟩ uG uG).mono ?_;intro eg s9 m9;have k9:=m9.kp;have n9:=k9.nx;have X3:=(k9.keep st.nx qE uG).trans VJ;have g29:=(k9.keep s1.nx qE uG).trans g28;have g39:=(k9.keep s2.nx qE uG).trans g38;have g92:=(k9.keep (s3.nx+2) qE uG).trans g82;have Z8:=hk8.trans k9 uG;simp only[X3,g29,aq,aEN,aEL,ay]
  have apw:gC [(0,1,d1),(1,1,d2)] (cM 2 [.ae])=some [d1,d2]:=by
   rw[cR,aEW ⟨⟨by rw[y3];rfl,y1⟩,by rw[y3];exact(by decide:0+1<=2)⟩,cR,aEW ⟨⟨by rw[w3];rfl,w1⟩,by rw[w3,y3];exact(by decide:1+1<=2)⟩,ld,y3,w3];rfl
  rw[jH g92 apw,aS];have qh:Kp [s3.nx+2] s9 (St.set s9 (s3.nx+2) (.cells [d1,d2] 103 false)):=(Kp.refl _ s9).set _ (.inl uG) qE;have LV:(St.set s9 (s3.nx+2) (.cells [d1,d2] 103 false)).m.g (s3.nx+2)=some (.cells [d1,d2] 103 false):=ar _ _ _;have On:(St.set s9 (s3.nx+2) (.cells [d1,d2] 103 false)).nx=s9.nx:=rfl;have pG:=Z8.trans qh (by intro q hq;simp at hq;omega);obtain⟨F,a1,a2,a3⟩:=m9;have Wb:Own (St.set s9 (s3.nx+2) (.cells [d1,d2] 103 false)) eg 4 109 [bC a.cells,aU (fW sep),bC b.cells].flatten F:=a2.mono λq hq=>al _ _ _ _ acQ;have aaW:(St.set s9 (s3.nx+2) (.cells [d1,d2] 103 false)).m.g st.nx=_:=(al _ _ _ _ qE).trans X3;have aaU:(St.set s9 (s3.nx+2) (.cells [d1,d2] 103 false)).m.g s1.nx=_:=(al _ _ _ _ qE).trans g29;have Kf:(St.set s9 (s3.nx+2) (.cells [d1,d2] 103 false)).m.g s2.nx=_:=(al _ _ _ _ qE).trans g39;generalize St.set s9 (s3.nx+2) (.cells [d1,d2] 103 false)=s10 at*;have afb:Sl s10 [] (.slice (s3.nx+2) 0 2 2 0) 1 [d1,d2]:=.inr ⟨s3.nx+2,0,2,2,0,rfl,rfl,⟨aEQ _,.inl rfl⟩,.inr ⟨uG,qE,_,_,_,LV,uG,rfl⟩⟩;refine(NQ (Ls:=[cJ a.kids,cJ b.kids]) afb ⟨⟨f1.mono pG,a.kids.length,uG,qE⟩,⟨f2.mono pG,b.kids.length,uG,qE⟩,aer⟩ uG uG).mono ?_;intro fM dq m11;have qx:=m11.kp;have UR:=qx.nx;have arA:=(qx.keep s2.nx qE uG).trans Kf;obtain⟨F2,b1,b2,b3⟩:=m11;obtain⟨p1,p2⟩:=a2.cE;have p3:=(a2.sl (X:=[]) λb hb=>⟨uG,(a3 b hb).2⟩).bE.1;obtain⟨q1,q2⟩:=b2.cE;have q3:=(b2.sl (X:=[]) λb hb=>⟨uG,(b3 b hb).2⟩).bE.1
  have nD:bk [.bool false,.ae,.ae] [(1,1,eg),(2,1,fM)] dq=.ok (.agg [.bool false,eg,fM]) dq:=by
   rw[dV];simp[cR,bD,p2,p3,q2,q3]
  rw[nD,af,aJ,arA,aW,aT,kP];refine⟨⟨rfl,by simp[p1,q1],uG⟩,?_⟩;simp only[VJ,g28,aaW,aaU,g82,aq,aEN,aEL,ay,aHa,and_true];rw[aK (n:=3) (ar _ _ _) rfl,af];refine⟨(pG.trans qx uG).set _ (.inr qE) qE,λX hX=>⟨eg,fM,?_,?_,?_⟩⟩
  .unfold dG;rw[aET abX]
  .have:bC (dG a sep b).cells=[bC a.cells,aU (fW sep),bC b.cells].flatten:=by unfold dG;rw[aET abX,gE];simp[bC]
   rw[this];have asi:=Wb.keep qx λq hq=>⟨by have:=(a3 q hq).2;omega,uG⟩;exact(asi.mono λq hq=>al _ _ _ _ acQ).sl λq hq=>⟨λh=>by have:=hX q h;have:=(a3 q hq).1;have:=hk8.nx;omega,by have:=(a3 q hq).2;simp;omega⟩
  .have:cJ (dG a sep b).kids=[cJ a.kids,cJ b.kids].flatten:=by unfold dG;rw[aET abX,ny];simp
   rw[this];exact(b2.mono λq hq=>al _ _ _ _ (by have:=(b3 q hq).1;omega)).sl λq hq=>⟨λh=>by have:=hX q h;have:=(b3 q hq).1;have:=pG.nx;omega,by have:=(b3 q hq).2;simp;omega⟩
end
section
variable {e k n i vb:Nat}{L T:List CV}{v:CV}{z:List CV}{F:List Nat}
section
variable {st st':St}
def lI (k e:Nat)(L:List CV)(F:List Nat)(st:St)(x:CV)(st':St):Prop:=∃F',Own st' x k e L F'/\Kp F st st'/\∀b∈F',(b∈F\/st.nx<=b)/\b<st'.nx
def CN {b:Nat}(hk:0<k)(hb:st.m.g b=some (.cells L e true))(hv:st.m.g vb=some (.cells T e false))(ij:b≠vb)(hL:L.length=n*k)(hT:T.length=k)(hi:i<n)(hn:n<=1000000)(ho:bj L=true)(Iq:bj T=true):
 mJ e k [.slice b 0 n n k,I i,.slice vb 0 1 1 0] st=some (.ok (.slice st.nx 0 (n+1) (n+1) k) ⟨(st.m.put b none).put st.nx (some (.cells (L.take (i*k)++(T++L.drop (i*k))) e true)),st.nx+1⟩):=by
 have e0:mJ e k [.slice b 0 n n k,I i,.slice vb 0 1 1 0] st=mJ e k [.slice b 0 n n k,.int .i64 (.ofNat i),.slice vb 0 1 1 0] st:=rfl;rw[e0];simp only[mJ,hb,hv];rw[aEW ⟨aer,aer,hk,hi,ij,aer,aer,hL,ho,Iq,hT,hn⟩]
def yr {e k n i b vb:Nat}{L T:List CV}(hk:0<k)(hlt:b<st.nx)(hL:L.length=n*k)(hT:T.length=k)(hi:i<n):lI k e (L.take (i*k)++(T++L.drop (i*k))) [b] st (.slice st.nx 0 (n+1) (n+1) k) ⟨(st.m.put b none).put st.nx (some (.cells (L.take (i*k)++(T++L.drop (i*k))) e true)),st.nx+1⟩:=by
 have Hh:i*k<=n*k:=aFH k qE;refine⟨[st.nx],.inr (.inr ⟨st.nx,n+1,rfl,qE,?_,rfl,PT.dn _ _ _⟩),⟨uG,λq h1 h2=>?_,λhf q hq=>?_⟩,λq hq=>⟨.inr (by simp at hq;omega),by simp at hq;simp;omega⟩⟩
 .rw[aEU,aEU,aFc,aFn,hT,hL,aFW];omega
 .show((st.m.put b none).put st.nx _).g q=_;rw[PT.dv _ _ _ _ qE,PT.dv _ _ _ _ TV]
 .show((st.m.put b none).put st.nx _).g q=_;simp only at hq;rw[PT.dv _ _ _ _ qE,PT.dv _ _ _ _ qE];exact hf q qE
def Lu {bytes:Nat}{g:Bool}{K:CV->CV->Prop}(ho:Own st v k e L F)(hk:0<k)(hL:L.length=n*k)(hn:n<=1000000)(hF:∀b∈F,b<st.nx)(hv:st.m.g vb=some (.cells T e g))(hT:T.length=k)(Iq:bj T=true)(hkb:k<=4)(hb:bytes<=48):
 us (aQ k v (some (I n)) none st) λx1=>us (bo .slice (.slice vb 0 1 1 0) st) λx2=>us (ai .eql (some .int) true x2 (.int .i64 0) st) λx3=>aD x3 (lI k e (L++T) F st v st) (us (bo .slice v st) λx4=>us (ai .eql (some .int) false (I n) x4 st) λx5=>
  aD x5 (upon (bT e k bytes v (de .slice k z (.slice vb 0 1 1 0) st) st) λx6 s1=>lI k e (L++T) F st x6 s1) (K x2 x4)):=by
 have lq:Sl st [] v k L:=ho.sl λb hb=>⟨uG,hF b hb⟩;obtain⟨v',p1,_⟩:=lq.lo hk hL (aEQ n) st;have e2:ai .eql (some .int) true (I ((1:Nat):Int)) (.int .i64 0) st=.ok (.bool false) st:=rfl;have e3:ai .eql (some .int) false (I n) (I n) st=.ok (.bool true) st:=by rw[az,cI,aEV rfl]
 have e1:bo .slice (.slice vb 0 1 1 0) st=.ok (I ((1:Nat):Int)) st:=rfl;rw[p1,af,e1,af,e2,af,ag,aET u7,lq.len n hL hk st,af,e3,af,ag,aEW rfl,Gp (k:=k) (n:=1) hv qE qE];have hnk:=aHC hn hkb;have hsz:(L.length+T.length)*(bytes+1)<=(4000004)*49:=aHC qE qE;obtain⟨x,s,F',a1,a2,a3,a4⟩:=ho.append (n:=1) (bytes:=bytes) (T:=T) hk qE Iq hF qE;rw[a1,aS];exact⟨F',a2,a3,λb hb=>⟨(a4 b hb).1.imp id λh=>qE,(a4 b hb).2⟩⟩
def kZ (ho:Own st v k e L F)(hk:0<k)(hL:L.length=n*k)(hn:0<n):∃b,v=.slice b 0 n n k/\F=[b]/\st.m.g b=some (.cells L e true):=by
 have hp:=Nat.mul_pos hn hk;rcases ho with⟨_,rfl,_⟩|⟨b,l,t,g,_,rfl,_⟩|⟨b,m,h1,h2,h3,h4,h5⟩
 .simp at hL;omega
 .simp at hL;omega
 .have:m=n:=aFU hk qE;subst this;exact⟨b,h1,h4,h5⟩
def Ay (ho:Own st v 4 109 L F)(hL:L.length=n*4)(hn:n<=1000000)(hF:∀b∈F,b<st.nx)(hv:st.m.g vb=some (.cells T 109 false))(hvF:vb∉F)(hT:T.length=4)(Nk:bj L=true)(Iq:bj T=true)(hi:i<=n):
 R 51 [v,I i,.slice vb 0 1 1 0] st (lI 4 109 (L.take (i*4)++(T++L.drop (i*4))) F st):=by
 by_cases jB:i<n
 .obtain⟨b,rfl,rfl,hb⟩:=kZ ho qE hL qE;refine SU (st':=_) (v:=_) (show I0 51 _ st=some (.ok _ _)from ?_) (yr (e:=109) (vb:=vb) qE (hF b uG) hL hT jB);have:I0 51 [.slice b 0 n n 4,I i,.slice vb 0 1 1 0] st=mJ 109 4 [.slice b 0 n n 4,I i,.slice vb 0 1 1 0] st:=rfl;rw[this];exact CN qE hb hv (λe=>hvF (by simp[e])) hL hT jB hn Nk Iq
 .have:i=n:=by omega
  subst this;refine bP ?_ ?_
  .rw[w51];have e1:L.take (i*4)=L:=aEX qE;have e2:L.drop (i*4)=[]:=aFu qE;have e3:lI 4 109 (L.take (i*4)++(T++L.drop (i*4))) F st=lI 4 109 (L++T) F st:=by rw[e1,e2,aFN]
   rw[e3];exact Lu (bytes:=48) (z:=[.str [],.str [],.int .i64 0,.int .i64 0]) ho qE hL hn hF hv hT Iq qE qE
  .by_cases h0:i=0
   .subst h0;rcases ho with⟨rfl,_⟩|⟨b,l,t,g,rfl,_⟩|⟨b,m,rfl,h2,h3,_⟩
    .rfl
    .have e9:∀args,I0 51 args st=mJ 109 4 args st:=λargs=>rfl;rw[e9];have:mJ 109 4 [.slice b 0 0 0 0,I ((0:Nat):Int),.slice vb 0 1 1 0] st=mJ 109 4 [.slice b 0 0 0 0,.int .i64 (.ofNat 0),.slice vb 0 1 1 0] st:=rfl;rw[this];simp only[mJ]
     split
     .rw[aET qE]
     .rfl
    .rw[h3]at hL;omega
   .obtain⟨b,rfl,rfl,hb⟩:=kZ ho qE hL qE;have e9:∀args,I0 51 args st=mJ 109 4 args st:=λargs=>rfl;rw[e9];have:mJ 109 4 [.slice b 0 i i 4,I i,.slice vb 0 1 1 0] st=mJ 109 4 [.slice b 0 i i 4,.int .i64 (.ofNat i),.slice vb 0 1 1 0] st:=rfl;rw[this];simp only[mJ]
    split
    .rw[aET qE]
    .rfl
def Nc (ho:Own st v 1 3 L F)(hL:L.length=n*1)(hn:n<=1000000)(hF:∀b∈F,b<st.nx)(hv:st.m.g vb=some (.cells T 3 false))(hvF:vb∉F)(hT:T.length=1)(Nk:bj L=true)(Iq:bj T=true)(hi:i<=n):
 R 144 [v,I i,.slice vb 0 1 1 0] st (lI 1 3 (L.take (i*1)++(T++L.drop (i*1))) F st):=by
 by_cases jB:i<n
 .obtain⟨b,rfl,rfl,hb⟩:=kZ ho qE hL qE;refine SU (st':=_) (v:=_) (show I0 144 _ st=some (.ok _ _)from ?_) (yr (e:=3) (vb:=vb) qE (hF b uG) hL hT jB);have:I0 144 [.slice b 0 n n 1,I i,.slice vb 0 1 1 0] st=mJ 3 1 [.slice b 0 n n 1,I i,.slice vb 0 1 1 0] st:=rfl;rw[this];exact CN qE hb hv (λe=>hvF (by simp[e])) hL hT jB hn Nk Iq
 .have:i=n:=by omega
  subst this;refine bP ?_ ?_
  .rw[adj];have e1:L.take (i*1)=L:=aEX qE;have e2:L.drop (i*1)=[]:=aFu qE;have e3:lI 1 3 (L.take (i*1)++(T++L.drop (i*1))) F st=lI 1 3 (L++T) F st:=by rw[e1,e2,aFN]
   rw[e3];exact Lu (bytes:=8) (z:=[.int .i64 0]) ho qE hL hn hF hv hT Iq qE qE
  .by_cases h0:i=0
   .subst h0;rcases ho with⟨rfl,_⟩|⟨b,l,t,g,rfl,_⟩|⟨b,m,rfl,h2,h3,_⟩
    .rfl
    .have e9:∀args,I0 144 args st=mJ 3 1 args st:=λargs=>rfl;rw[e9];have:mJ 3 1 [.slice b 0 0 0 0,I ((0:Nat):Int),.slice vb 0 1 1 0] st=mJ 3 1 [.slice b 0 0 0 0,.int .i64 (.ofNat 0),.slice vb 0 1 1 0] st:=rfl;rw[this];simp only[mJ]
     split
     .rw[aET qE]
     .rfl
    .rw[h3]at hL;omega
   .obtain⟨b,rfl,rfl,hb⟩:=kZ ho qE hL qE;have e9:∀args,I0 144 args st=mJ 3 1 args st:=λargs=>rfl;rw[e9];have:mJ 3 1 [.slice b 0 i i 1,I i,.slice vb 0 1 1 0] st=mJ 3 1 [.slice b 0 i i 1,.int .i64 (.ofNat i),.slice vb 0 1 1 0] st:=rfl;rw[this];simp only[mJ]
    split
    .rw[aET qE]
    .rfl
def L6 {bytes:Nat}(ho:Own st v k e L F)(hk:0<k)(hL:L.length=n*k)(hn:n<=1000000)(hF:∀b∈F,b<st.nx)(hz:z.length=k)(hoz:bj z=true)(Nk:bj L=true)(hi:i<n):
 us (bo .slice v st) λx1=>us (iU k v (some (I i)) (I ((i+1:Nat):Int)) x1 st) λx2=>us (ai .eql (some .int) false (I i) (I ((i+1:Nat):Int)) st) λx3=>aD x3 False
  (us (bo .slice v st) λx4=>bX (us (aQ k v none (some (I i)) st) λx5=>us (aQ k v (some (I ((i+1:Nat):Int))) none st) λx6=>upon (bT e k bytes x5 (de .slice k z x6 st) st) λx7 s1=>(True)/\(True)/\
   us (bo .slice x7 s1) λx8=>us (aQ k x7 (some x8) (some x4) s1) λx9=>upon (sH z x9 s1) λ_ s2=>(lr s2 F x7 k (L.take (i*k)++L.drop ((i+1)*k))/\Kp F st s2/\s2.nx=st.nx))):=by
 obtain⟨b,rfl,rfl,hb⟩:=kZ ho hk hL qE;have uy:=hF b uG;have e1:bo .slice (.slice b 0 n n k) st=.ok (I n) st:=rfl
 have e2:∃y,iU k (.slice b 0 n n k) (some (I i)) (I ((i+1:Nat):Int)) (I n) st=.ok y st:=by
  unfold iU;dsimp only;rw[ua,aEW (aEQ _)];dsimp only;rw[qt,aEW ⟨qE,qE⟩];simp only[dI,aP,aFO,aFs,aFw];rw[aEW (.inr qE)]
  split<;>exact⟨_,rfl⟩
 obtain⟨y,e2⟩:=e2;have e3:ai .eql (some .int) false (I i) (I ((i+1:Nat):Int)) st=.ok (.bool false) st:=Ft
 have Hh:i*k+k<=n*k:=by
  calc i*k+k=(i+1)*k:=by rw[aFW,aGT]
   _<=n*k:=aFH k hi
 have aAc:(i+1)*k=i*k+k:=by rw[aFW,aGT]
 have G9:(n-1)*k+k=n*k:=by
  have:(n-1)*k+k=(n-1+1)*k:=by rw[aFW,aGT]
  rw[this];congr 1;omega
 have hmd:(n-(i+1))*k=n*k-(i+1)*k:=Nat.sub_mul _ _ _
 have hz0:n-(i+1)=0->i*k=(n-1)*k/\i=n-1:=λh=>by have:i=n-1:=by omega
                                                subst this;exact⟨rfl,rfl⟩
 obtain⟨o5,p5,q5⟩:=jF (k:=k) (b:=b) (off:=0) (len:=n) (cap:=n) (grow:=k) (l:=0) (h:=i) (lo:=none) (hi:=some (I i)) (st:=st) adb (aEQ _) (.inr rfl);have:o5=0:=qE
 subst this;obtain⟨o6,p6,q6⟩:=jF (k:=k) (b:=b) (off:=0) (len:=n) (cap:=n) (grow:=k) (l:=i+1) (h:=n) (lo:=some (I ((i+1:Nat):Int))) (hi:=none) (st:=st) (by rw[xd,aEW qE]) (aEQ _) (.inr rfl);simp only[Nat.sub_zero]at p5;simp only[e1,af,e2,e3,ag,aEM,aFa,bG,p5,p6];have h9:=λC=>jF (k:=k) (b:=b) (off:=0) (len:=n-1) (cap:=n) (grow:=k) (l:=n-1) (h:=n) (lo:=some (I ((n-1:Nat):Int))) (hi:=some (I n)) (st:=St.set st b (.cells C e true)) (by rw[qt,aEW ⟨qE,qE⟩]) qE (.inr rfl);have hlw:∀(l:List CV) (off:Nat) (t:List CV),off+t.length<=l.length->dY l off t=some (bD l off t):=λl off t h=>by unfold dY;rw[aEW h];rfl
 generalize hA:i*k=A at*;generalize hB:(i+1)*k=B at*;generalize hN:n*k=N at*;generalize hM:(n-1)*k=M at*;generalize hD:(n-(i+1))*k=D at*
 have hT:de .slice k z (.slice b o6 (n-(i+1)) (n-(i+1)) k) st=some (n-(i+1),L.drop B):=by
  have e':de .slice k z (.slice b o6 (n-(i+1)) (n-(i+1)) k) st=(match dN k (n-(i+1)) (.slice b o6 (n-(i+1)) (n-(i+1)) k) st with|some s=>some (n-(i+1),s)|none=>none):=rfl;rw[e',lZ]
  by_cases h0:n-(i+1)=0
  .rw[aEW h0];have:=hz0 h0;have:L.drop B=[]:=aFu qE;rw[this]
  .rw[aET h0,aEW (.inr (aEQ _)),hb,hD];have ho6:o6=B:=by omega
   have:gV L o6 D=some (L.drop B):=by
    unfold gV;rw[aEW qE,ho6,aEX Pc]
   dsimp only;rw[this]
 have Bs:(L.drop B).length=N-B:=by rw[aFn,hL]
 have hTo:bj (L.drop B)=true:=by
  simp only[bj,List.all_eq_true]at Nk⊢;exact λx hx=>Nk x (aFF hx)
 have RE:∃s1 C,bT e k bytes (.slice b 0 i n k) (some (n-(i+1),L.drop B)) st=.ok (.slice b 0 (n-1) n k) s1/\s1=St.set st b (.cells C e true)/\C.length=N/\C.take M=L.take A++L.drop B:=by
  by_cases h0:n-(i+1)=0
  .obtain⟨hz1,hz2⟩:=hz0 h0;have hd:L.drop B=[]:=aFu qE;refine⟨St.set st b (.cells L e true),L,?_,rfl,hL,by rw[hd,hz1];simp⟩;rw[h0,hd];have e':bT e k bytes (.slice b 0 i n k) (some (0,[])) st=bH (Nat.ble i n) (.ok (.slice b 0 i n k) st) .bad:=rfl
   have es:St.set st b (.cells L e true)=st:=by
    cases st with
    |mk mem nx=>
     simp only[St.set,St.mk.injEq,and_true]
     exact PT.ext λp=>by
      rw[PT.eZ];split
      .rename_i h;rw[h];exact hb.symm
      .rfl
   rw[e',aP,aEW abG,es,<-hz2]
  .refine⟨_,bD L A (L.drop B),?_,rfl,?_,?_⟩
   .unfold bT;simp only[aP,aFw,dI,aFs];have aqp:Nat.add i (n-(i+1))=n-1:=by show i+(n-(i+1))=n-1;omega
    rw[aET h0,aqp,aEW qE,hb];dsimp only;rw[hTo,aEW rfl,hA,aER,hlw _ _ _ qE];rfl
   .rw[mF _ _ _ qE];exact hL
   .unfold bD;rw[aGH,aEX (i:=M) (l:=L.take A) O0,aFc,aGH];have JU:min A L.length=A:=aFG qE;have:M-min A L.length-(L.drop B).length=0:=by omega
    rw[this,aGM,aFN,aEX (i:=M-min A L.length) (l:=L.drop B) qE]
 obtain⟨s1,C,h1,rfl,h3,h4⟩:=RE;have e7:bo .slice (.slice b 0 (n-1) n k) (St.set st b (.cells C e true))=.ok (I ((n-1:Nat):Int)) (St.set st b (.cells C e true)):=rfl;obtain⟨o9,p9,q9⟩:=h9 C;have:o9=M:=qE
 subst this;have Sm:n-(n-1)=1:=qE
 rw[Sm]at p9
 have e11:sH z (.slice b o9 1 1 k) (St.set st b (.cells C e true))=.ok .undef (St.set st b (.cells (bD C o9 z) e true)):=by
  have e':sH z (.slice b o9 1 1 k) (St.set st b (.cells C e true))=bH (Nat.beq 1 0) (.ok .undef (St.set st b (.cells C e true))) (bH (Bool.or (Nat.beq k 0) (Nat.ble 1 1))
   (match (St.set st b (.cells C e true)).m.g b with
   |some (.cells s ty g)=>(λt=>bH (bj t) (Option.rec .bad (λs'=>.ok .undef ⟨(St.set st b (.cells C e true)).m.put b (some (.cells s' ty g)),(St.set st b (.cells C e true)).nx⟩) (dY s o9 t)) .bad) (cM 1 z)
   |_=>.bad) .bad):=rfl
  rw[e',ar];have er:cM 1 z=z:=by simp[cM]
  dsimp only;rw[er,hoz,hlw _ _ _ qE];have e13:Bool.or (Nat.beq k 0) (Nat.ble 1 1)=true:=uG
  have e14:Nat.beq 1 0=false:=rfl;rw[e13,e14];show OR.ok CV.undef (St.set (St.set st b (.cells C e true)) b (.cells (bD C o9 z) e true))=_;rw[set_set]
 rw[hT,h1];simp only[aS,e7,af,p9,e11,aHa];have BW:Kp [b] st (St.set st b (.cells (bD C o9 z) e true)):=(Kp.refl _ st).set _ (.inl uG) uy;have hlen:(L.take A++L.drop B).length=(n-1)*k:=by rw[<-h4,aFc,hM];omega
 refine⟨λX hX=>?_,BW,rfl⟩;refine .inr ⟨b,0,n-1,n,k,rfl,hlen,⟨qE,.inr rfl⟩,.inr ⟨hX b uG,uy,_,_,_,ar _ _ _,?_,?_⟩⟩
 .rw[mF _ _ _ qE,hM];omega
 .rw[aFr,hM,<-h4];unfold bD;rw[aGH,aEX (i:=o9) (l:=C.take o9) O0,aFc];have JU:min o9 C.length=o9:=aFG qE;have:o9-min o9 C.length=0:=by omega
  rw[this];simp
def HC (ho:Own st v 4 109 L F)(hL:L.length=n*4)(hn:n<=1000000)(hF:∀b∈F,b<st.nx)(Nk:bj L=true)(hi:i<n):
 R 84 [v,I i,I ((i+1:Nat):Int)] st λx s2=>lr s2 F x 4 (L.take (i*4)++L.drop ((i+1)*4))/\Kp F st s2/\s2.nx=st.nx:=by
 refine bP ?_;rw[w84];have:=L6 (bytes:=48) (z:=[.str [],.str [],.int .i64 0,.int .i64 0]) ho qE hL hn hF rfl rfl Nk hi;refine lz this λx1 h1=>lz h1 λx2 h2=>lz h2 λx3 h3=>?_;unfold aD at h3⊢
 split at h3
 .exact h3.elim
 .exact h3
 .exact h3
def NO (ho:Own st v 1 3 L F)(hL:L.length=n*1)(hn:n<=1000000)(hF:∀b∈F,b<st.nx)(Nk:bj L=true)(hi:i<n):
 R 108 [v,I i,I ((i+1:Nat):Int)] st λx s2=>lr s2 F x 1 (L.take (i*1)++L.drop ((i+1)*1))/\Kp F st s2/\s2.nx=st.nx:=by
 refine bP ?_;rw[alk];have:=L6 (bytes:=8) (z:=[.int .i64 0]) ho qE hL hn hF rfl rfl Nk hi;refine lz this λx1 h1=>lz h1 λx2 h2=>lz h2 λx3 h3=>?_;unfold aD at h3⊢
 split at h3
 .exact h3.elim
 .exact h3
 .exact h3
end
end
