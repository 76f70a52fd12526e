import Derived.Test.YtomffjeofpafnaaGreatDoorNodeB
namespace Lim
open Go
noncomputable section
set_option linter.defProp false
set_option maxRecDepth 100000
section
variable {k e n:Nat}{z vs:List CV}{Ls:List (List CV)}{a0:CV}
section
variable {st st':St}
def PV (n:Nat)(z:List CV):(cH n z).length=n*z.length:=by
 unfold cH;rw[fg (w:=z.length) (by intro x a;rw[List.eq_of_mem_replicate a])];simp
def Nf (n:Nat)(z:List CV)(i:Nat)(h:i<=n):(cH n z).drop (i*z.length)=cH (n-i) z:=by
 unfold cH;rw[ue (w:=z.length) (by intro x a;rw[List.eq_of_mem_replicate a]) i TK,aJY]
def vg (k e:Nat)(z:List CV)(n:Nat)(st:St)(x:CV)(st':St):Prop:=if n=0 then x=.ae/\st'=st else x=.slice st.nx 0 0 n k/\st'=St.new st (.cells (cH n z) e true)
def X7 {bytes:Nat}(r:0<k)(M:z.length=k)(q:n<=100000)(u:bytes<=1000):
 us (bt .cap .ae st) λo=>us (bt .slice .ae st) λj=>us (aj .sub none false o j st) λi=>us (aj .sub none false (I n) i st) λc=>us (aj .gtr none true c (.int .i64 0) st) λg=>
  aC g (us (bt .cap .ae st) λf=>us (aR k .ae none (some f) st) λd=>upon (bJ e k bytes d (cT .zeros k z c st) st) λF s2=>us (bt .slice .ae s2) λH=>us (aR k F none (some H) s2) λG=>vg k e z n st G s2) (vg k e z n st .ae st):=by
 have E:bt .cap .ae st=.ok (.int .i64 0) st:=rfl;have D:∀s,bt .slice .ae s=.ok (.int .i64 0) s:=λs=>rfl;have C:aj .sub none false (.int .i64 0) (.int .i64 0) st=.ok (.int .i64 0) st:=rfl;have B:aj .sub none false (I n) (.int .i64 0) st=.ok (I n) st:=by rw[av,dS,bA uM];congr 2
 have A:aj .gtr none true (I n) (.int .i64 0) st=.ok (.bool (decide (0<n))) st:=BT
 have y:aR k .ae none (some (.int .i64 0)) st=.ok .ae st:=rfl;simp only[E,D,C,B,A,af,ag,y]
 by_cases a:n=0
 .subst a;rw[aHM xI];unfold vg;rw[aHP rfl];exact⟨rfl,rfl⟩
 .rw[aHP (by simpa using Nat.pos_of_ne_zero a)]
  have x:cT .zeros k z (I n) st=some (n,cH n z):=by
   have:cT .zeros k z (I n) st=bE (Nat.ble n 1099511627776) (some (n,cH n z)) none:=rfl;rw[this,aO,aHP acd]
  have K:=aKK q u
  have w:bJ e k bytes .ae (some (n,cH n z)) st=.ok (.slice st.nx 0 n n k) (St.new st (.cells (cH n z) e true)):=by
   have e:bJ e k bytes .ae (some (n,cH n z)) st=bE (Nat.beq n 0) (.ok .ae st) (bE (Bool.and (Nat.ble 1 k) (Bool.and (Nat.ble (Nat.mul n bytes) 140737488355328) (Nat.ble n 140737488355328)))
    (.ok (.slice st.nx 0 n n k) ⟨st.m.put st.nx (some (.cells (cH n z) e true)),st.nx+1⟩) .bad):=rfl
   rw[e];simp only[aO,aIs,aIf,aIr];rw[aHM a,aHP ⟨r,aIz K uM,uM⟩];rfl
  rw[x,w,aP]
  have v:aR k (.slice st.nx 0 n n k) none (some (.int .i64 0)) (St.new st (.cells (cH n z) e true))=.ok (.slice st.nx 0 0 n k) (St.new st (.cells (cH n z) e true)):=by
   obtain⟨J,p,L⟩:=jN (k:=k) (b:=st.nx) (off:=0) (len:=n) (cap:=n) (grow:=k) (l:=0) (h:=0) (lo:=none) (hi:=some (I ((0:Nat):Int))) (st:=St.new st (.cells (cH n z) e true)) adP (aHK _) (.inr rfl);have:J=0:=uM
   subst this;exact p
  rw[v,af];unfold vg;rw[aHM a];exact⟨rfl,rfl⟩
def VO (a:n<=100000):R 189 [.ae,I n] st (vg 4 109 [.str [],.str [],.int .i64 0,.int .i64 0] n st):=by
 refine bK ?_;rw[amm];have b:aj .lss none true (I n) (.int .i64 0) st=.ok (.bool false) st:=abu
 rw[cM,b,af,ag,aHM xI];simp only[aK,aL];exact X7 uM rfl a uM
def VN (a:n<=100000):R 190 [.ae,I n] st (vg 1 3 [.int .i64 0] n st):=by
 refine bK ?_;rw[aml];have b:aj .lss none true (I n) (.int .i64 0) st=.ok (.bool false) st:=abu
 rw[cM,b,af,ag,aHM xI];simp only[aK,aL];exact X7 uM rfl a uM
def xH (st:St)(k:Nat):List CV->List (List CV)->Prop
 |[],[]=>True
 |v::vs,l::ls=>(Sl st [] v k l/\∃n,l.length=n*k/\n<=10000)/\xH st k vs ls
 |_,_=>False
def xH.mono (h:xH st k vs Ls)(b:Kp [] st st'):xH st' k vs Ls:=by
 induction vs generalizing Ls with
 |nil=>cases Ls with|nil=>trivial|cons l L=>exact h
 |cons v vs a=>cases Ls with|nil=>exact h|cons l L=>exact⟨⟨h.1.1.mono b,h.1.2⟩,a h.2⟩
def xH.len (h:xH st k vs Ls):vs.length=Ls.length:=by
 induction vs generalizing Ls with
 |nil=>cases Ls with|nil=>rfl|cons l L=>exact h.elim
 |cons v vs a=>cases Ls with|nil=>exact h.elim|cons l L=>simp[a h.2]
def xH.at (h:xH st k vs Ls){i:Nat}(hi:i<vs.length):∃d:i<Ls.length,Sl st [] vs[i] k Ls[i]/\∃n,Ls[i].length=n*k/\n<=10000:=by
 induction vs generalizing Ls i with
 |nil=>simp at hi
 |cons v vs c=>
  cases Ls with
  |nil=>exact h.elim
  |cons l L=>
   cases i with
   |zero=>exact⟨wb,h.1⟩
   |succ i=>obtain⟨a,b⟩:=c h.2 (i:=i) Yy;exact⟨zS,b⟩
def rf (k:Nat)(Ls:List (List CV))(i:Nat):Nat:=(Ls.take i).flatten.length/k
def xH.ef (f:0<k)(h:xH st k vs Ls):∀i,(Ls.take i).flatten.length=rf k Ls i*k/\rf k Ls i<=10000*i:=by
 have b:∀(vs:List CV) (Ls:List (List CV)),xH st k vs Ls->∀i,∃m,(Ls.take i).flatten.length=m*k/\m<=10000*i:=by
  intro vs
  induction vs with
  |nil=>intro Ls h i;cases Ls with|nil=>exact⟨0,wb⟩|cons l L=>exact h.elim
  |cons v vs d=>
   intro Ls h i;cases Ls with
   |nil=>exact h.elim
   |cons l L=>
    cases i with
    |zero=>exact⟨0,wb⟩
    |succ i=>
     obtain⟨m,a,c⟩:=d L h.2 i;obtain⟨n,g,j⟩:=h.1.2;exact⟨n+m,by rw[List.take_succ_cons,aJx,aHR,a,g,aIV],uM⟩
 intro i;obtain⟨m,a,c⟩:=b vs Ls h i;have:rf k Ls i=m:=by unfold rf;rw[a,Nat.mul_div_cancel _ f]
 rw[this];exact⟨a,c⟩
def xF (s:St)(x:CV)(k e:Nat)(z:List CV)(b m n:Nat)(L:List CV):Prop:=
 L.length=m*k/\m<=n/\((n=0/\x=.ae)\/(0<n/\x=.slice b 0 m n k/\s.m.g b=some (.cells (L++cH (n-m) z) e true)))
def xF.append {s:St}{x v:CV}{bytes:Nat}{b m j:Nat}{L T:List CV}(h:xF s x k e z b m n L)(E:0<k)(o:z.length=k)(G:b<s.nx\/n=0)(B:Sl s [] v k T)(d:T.length=j*k)(A:bh T=true)(f:m+j<=n):
 ∃l s',bJ e k bytes x (cT .slice k z v s) s=.ok l s'/\xF s' l k e z b (m+j) n (L++T)/\s'.nx=s.nx/\(∀q,q≠b->s'.m.g q=s.m.g q):=by
 obtain⟨h1,u,F⟩:=h;obtain⟨c,y,w⟩:=B.src z;have:c=j:=aIT E (by rw[<-y,d]);subst this;rw[w];have a:(L++T).length=(m+c)*k:=by rw[aHR,h1,d,aIV]
 rcases F with⟨rfl,rfl⟩|⟨r,rfl,p⟩
 .have:c=0:=by omega
  subst this;exact⟨.ae,s,rfl,⟨a,f,.inl ⟨rfl,rfl⟩⟩,rfl,λ_ _=>rfl⟩
 .by_cases h0:c=0
  .subst h0;have i:T=[]:=aIh.1 uM;subst i;refine⟨.slice b 0 m n k,s,?_,⟨aal,u,.inr ⟨r,rfl,by simpa using p⟩⟩,rfl,λ_ _=>rfl⟩;have e:bJ e k bytes (.slice b 0 m n k) (some (0,[])) s=bE (Nat.ble m n) (.ok (.slice b 0 m n k) s) .bad:=rfl;rw[e,aO,aHP (by rw[aIr];exact u)]
  .have e:bJ e k bytes (.slice b 0 m n k) (some (c,T)) s=.ok (.slice b 0 (m+c) n k) (St.set s b (.cells (bz (L++cH (n-m) z) (m*k) T) e true)):=by
    unfold bJ;simp only[aO,aIs,dH,aIr];rw[aHM h0,aHP (show Nat.add m c<=n from f),p];dsimp only
    have D:dZ (L++cH (n-m) z) (0+m*k) T=some (bz (L++cH (n-m) z) (m*k) T):=by
     unfold dZ;rw[aHN,aHP]
     .rfl
     .rw[aHR,PV,h1,d,o,<-aIV,<-aIV];exact aIB k uM
    rw[A,aHP rfl,D];rfl
   refine⟨_,_,e,⟨a,f,.inr ⟨r,rfl,?_⟩⟩,rfl,λq C=>ak _ _ _ _ C⟩;rw[an]
   congr 2
   rw[<-h1,qG,aIq]
   congr 2
   rw[d,<-o,Nf _ _ _ uM]
   congr 1;omega
def ML {gr bytes:Nat}(f:0<k)(hz:z.length=k)(O:∀(s:St) (n:Nat),n<=100000->R gr [.ae,I n] s (vg k e z n s))(P:Sl st [] a0 1 vs)(h:xH st k vs Ls)(hl:vs.length<=9)(ku:∀l∈Ls,bh l=true):
 df (λa s2 k3=>us (aj .lss none false (ay 4 a) (ay 3 a) s2) λx5=>aC x5 (Lim.idx 1 (ay 2 a) (ay 4 a) s2 λx6=>us (bt .slice x6 s2) λx7=>us (aj .add none false (ay 1 a) x7 s2) λS=>us (aj .lss none true S (.int .i64 0) s2) λZ=>
  aC Z (us (vt 9 (.str [108,101,110,32,111,117,116,32,111,102,32,114,97,110,103,101]) s2) λdn=>False) (us (aj .add none true (ay 4 a) (.int .i64 1) s2) λdg=>k3 [ay 0 a,S,ay 2 a,ay 3 a,dg] s2))
  (R gr [.ae,ay 1 a] s2 λC s3=>dX (λy s4=>df (λg p mM=>us (aj .lss none false (ay 3 g) (ay 2 g) p) λeN=>aC eN (Lim.idx 1 (ay 1 g) (ay 3 g) p λeh=>upon (bJ e k bytes (ay 0 g) (cT .slice k z eh p) p) λew H=>
   us (aj .add none true (ay 3 g) (.int .i64 1) H) λdW=>mM [ew,ay 1 g,ay 2 g,dW] H) (Made k e Ls.flatten st (ay 0 g) p)) [ay 0 y,ay 1 y,ay 2 y,ay 3 y] s4) λnI=>us (bt .slice (ay 0 a) s3) λdP=>nI [C,ay 0 a,dP,.int .i64 0] s3))
  [a0,.int .i64 0,a0,I vs.length,.int .i64 0] st:=by
 have Xz:=h.len
 refine bG (λfu w s=>∃i,fu+i=vs.length/\w=[a0,I (rf k Ls i),a0,I vs.length,I i]/\s=st) ?_ (n:=vs.length) ⟨0,rfl,by
  have:rf k Ls 0=0:=by simp[rf]
  rw[this];rfl,rfl⟩
 rintro fu w s kk ⟨i,hi,rfl,rfl⟩ next;obtain⟨D,Mv⟩:=h.ef f i;simp only[aK,aL,dD,af,ag]
 by_cases B:i<vs.length
 .rw[aHQ B,aHP rfl];refine P.idx B _ ?_;obtain⟨q,A,n,u,Z7⟩:=h.at B;obtain⟨E,Dy⟩:=h.ef f (i+1)
  have F:rf k Ls (i+1)=rf k Ls i+n:=by
   refine aIT f ?_;rw[<-E,aIa q,aKa,aHR,D,aIV];simp[u]
  have e1:aj .add none false (I (rf k Ls i)) (I n) s=.ok (I (rf k Ls (i+1))) s:=by rw[av,cI,bA uM,F];rfl
  have e2:aj .lss none true (I (rf k Ls (i+1))) (.int .i64 0) s=.ok (.bool false) s:=abu
  simp only[A.len n u f s,af,e1,e2,ag,aHH,aHV,gJ i uM];exact next (fu-1) _ _ uM ⟨i+1,uM,rfl,rfl⟩
 .rw[aHL B,aHM xI];have Ds:Ls.take i=Ls:=aHS uM;rw[Ds]at D;refine(O s _ uM).mono ?_;intro C s3 c;generalize hN:rf k Ls i=N at*
  have V:Kp [] s s3:=by
   unfold vg at c
   split at c
   .rw[c.2];exact Kp.refl _ _
   .rw[c.2];exact(Kp.refl _ s).new _
  have Z6:s3.nx=s.nx+1\/N=0:=by
   unfold vg at c
   split at c
   .rename_i o;exact .inr o
   .rw[c.2];exact .inl rfl
  have hF:xF s3 C k e z s.nx 0 N []:=by
   unfold vg at c;refine⟨wb,aJL _,?_⟩
   split at c
   .rename_i o;exact .inl ⟨o,c.1⟩
   .rename_i o;rw[c.2];exact .inr ⟨uM,c.1,wb⟩
  have Ml:=(P.mono V).len vs.length uM uM s3;simp only[cM,aK,aL,Ml,af];refine bG (λfu w s'=>∃i x,fu+i=vs.length/\w=[x,a0,I vs.length,I i]/\xF s' x k e z s.nx (rf k Ls i) N (Ls.take i).flatten/\Kp [] s s'/\(s.nx<s'.nx\/N=0)) ?_ (n:=vs.length) ⟨0,C,rfl,rfl,by simpa[rf]using hF,V,uM⟩;rintro fu w s' kk ⟨i,x,hi,rfl,r,j,d⟩ next;simp only[aK,aL,dD,af,ag]
  by_cases v:i<vs.length
  .rw[aHQ v,aHP rfl];refine(P.mono j).idx v _ ?_;obtain⟨q,A,n,u,Z7⟩:=(h.mono j).at v;obtain⟨G,_⟩:=h.ef f i;obtain⟨E,Dy⟩:=h.ef f (i+1)
   have F:rf k Ls (i+1)=rf k Ls i+n:=by
    refine aIT f ?_;rw[<-E,aIa q,aKa,aHR,G,aIV];simp[u]
   have L:rf k Ls i+n<=N:=by
    rw[<-F];refine Nat.le_of_mul_le_mul_right ?_ f;rw[<-E,<-D]
    conv=>rhs;rw[<-aIA (i+1) Ls]
    rw[aKa,aHR];omega
   obtain⟨x',H,K,U,J,T⟩:=r.append (bytes:=bytes) f hz d A u (ku _ (aIc q)) L;rw[K,aP,gJ i uM,af];have e5:(Ls.take i).flatten++Ls[i]=(Ls.take (i+1)).flatten:=by rw[aIa q,aKa];simp
   rw[e5,<-F]at U;refine next (fu-1) _ _ uM ⟨i+1,x',uM,rfl,U,⟨by rw[J];exact j.nx,λb m HH=>(T b uM).trans (j.keep b m HH),λW b m=>?_⟩,by rw[J];exact d⟩;rw[J]at m;rcases d with d|d
   .rw[T b uM];exact j.fresh W b m
   .rcases r.2.2 with⟨_,rfl⟩|⟨h4,_⟩
    .have:n=0:=by omega
     subst this;have Q:Ls[i]=[]:=aIh.1 uM;obtain⟨X,r1,r2⟩:=A.src z
     have:X=0:=by
      have h9:X*k=0:=by rw[<-r1,Q];rfl
      rcases Nat.mul_eq_zero.1 h9 with h|h
      .exact h
      .omega
     subst this;rw[r2]at K;cases K;exact j.fresh W b m
    .omega
  .rw[aHL v,aHM xI];have ht:Ls.take i=Ls:=aHS uM;obtain⟨G,_⟩:=h.ef f i;rw[ht]at G r;have M:rf k Ls i=N:=aIT f (by rw[<-G,D]);rw[M]at r;obtain⟨Y,f2,f3⟩:=r;rcases f3 with⟨o,rfl⟩|⟨o,rfl,f4⟩
   .have:=aIh.1 (by rw[Y,o];simp);exact⟨[],j,.inl ⟨rfl,this,rfl⟩,wb⟩
   .refine⟨[s.nx],j,.inr (.inr ⟨s.nx,N,rfl,o,Y,rfl,?_⟩),λb m=>?_⟩
    .rw[f4];simp[cH]
    .simp at m;subst m;omega
def DH (a:Sl st [] a0 1 vs)(h:xH st 4 vs Ls)(d:vs.length<=9)(b:∀l∈Ls,bh l=true):R 147 [a0] st (Made 4 109 Ls.flatten st):=by
 refine bK ?_;rw[amT];have hlen:=a.len vs.length uM uM st;have:=ML (gr:=189) (k:=4) (e:=109) (bytes:=48) (z:=[.str [],.str [],.int .i64 0,.int .i64 0]) uM rfl (λs n c=>VO c) a h d b;simp only[cM,aK,aL,hlen,af]at this⊢;exact this
def Ow (a:Sl st [] a0 1 vs)(h:xH st 1 vs Ls)(d:vs.length<=9)(b:∀l∈Ls,bh l=true):R 148 [a0] st (Made 1 3 Ls.flatten st):=by
 refine bK ?_;rw[amS];have hlen:=a.len vs.length uM uM st;have:=ML (gr:=190) (k:=1) (e:=3) (bytes:=8) (z:=[.int .i64 0]) uM rfl (λs n c=>VN c) a h d b;simp only[cM,aK,aL,hlen,af]at this⊢;exact this
end
end
section
variable {st st':St}
def lb {l:List dq}(h:l.length<=10000):∃n,(bM l).length=n*4/\n<=10000:=⟨l.length,bQ l,h⟩
def Wn {va vb:CV}{a b:bo}{d:bY}(hf:eA st)(ha:IsNode st [] va a)(u:IsNode st [] vb b)(h1:a.cells.length<=1000)(h2:b.cells.length<=1000)(h3:a.kids.length<=1001)(h4:b.kids.length<=1001):
 R 107 [va,.str d,vb] st λx st'=>Kp [] st st'/\∀X,(∀b∈X,b<st.nx)->IsNode st' X x (dx a d b):=by
 obtain⟨i,l,rfl,e1,f1⟩:=ha;obtain⟨f,j,rfl,e2,f2⟩:=u;obtain⟨x1,x2,r⟩:=e1.bL;obtain⟨y1,y2,H⟩:=f1.bL;obtain⟨z1,z2,w⟩:=e2.bL;obtain⟨w1,w2,V⟩:=f2.bL;refine bK ?_;rw[anD];rw[bS,aT];refine⟨rfl,?_⟩;have k1:Kp [] st (St.new st (.cells [.bool a.leaf,i,l] 105 false)):=(Kp.refl [] st).new _;have g1:(St.new st (.cells [.bool a.leaf,i,l] 105 false)).m.g st.nx=some (.cells [.bool a.leaf,i,l] 105 false):=au _ _;have n1:(St.new st (.cells [.bool a.leaf,i,l] 105 false)).nx=st.nx+1:=rfl;generalize St.new st (.cells [.bool a.leaf,i,l] 105 false)=s1 at*;rw[bS,aT];refine⟨rfl,?_⟩;have k2:Kp [] s1 (St.new s1 (.cells [.bool b.leaf,f,j] 105 false)):=(Kp.refl [] s1).new _;have g2:(St.new s1 (.cells [.bool b.leaf,f,j] 105 false)).m.g s1.nx=some (.cells [.bool b.leaf,f,j] 105 false):=au _ _;have n2:(St.new s1 (.cells [.bool b.leaf,f,j] 105 false)).nx=s1.nx+1:=rfl;generalize St.new s1 (.cells [.bool b.leaf,f,j] 105 false)=s2 at*;have k3:Kp [] s2 (St.new s2 (.cells [.bool false,.ae,.ae] 105 false)):=(Kp.refl [] s2).new _;have g3:(St.new s2 (.cells [.bool false,.ae,.ae] 105 false)).m.g s2.nx=some (.cells [.bool false,.ae,.ae] 105 false):=au _ _;have n3:(St.new s2 (.cells [.bool false,.ae,.ae] 105 false)).nx=s2.nx+1:=rfl;rw[cz,aP];generalize St.new s2 (.cells [.bool false,.ae,.ae] 105 false)=s3 at*;have qS:=(k3.keep st.nx uM wb).trans ((k2.keep st.nx uM wb).trans g1);have Ih:=(k3.keep s1.nx uM wb).trans g2;have lH:=(k1.trans k2 wb).trans k3 wb;have kW:∀a b c:CV,bz [.bool false,.ae,.ae] 0 [a,b,c]=[a,b,c]:=λa b c=>rfl;simp only[fl,ah,af,az,qS,ar,aHN,aHI,aHG,aw,ag];cases gO:a.leaf with
 |true=>
  have OW:bC 102 2 (cH 2 [.ae]) [(0,1,i),(1,1,f)] s3=.ok (.slice s3.nx 0 2 2 0) (St.new s3 (.cells [i,f] 102 false)):=by
   have e:gC [(0,1,i),(1,1,f)] (cH 2 [.ae])=some [i,f]:=by
    rw[cE,aHP ⟨⟨by rw[r];rfl,x1⟩,by rw[r];exact(by decide:0+1<=2)⟩,cE,aHP ⟨⟨by rw[w];rfl,z1⟩,by rw[w,r];exact(by decide:1+1<=2)⟩,lJ,r,w];rfl
   unfold bC;rw[e];rfl
  simp only[aIj,Ih,ar,aHI,aHG,aw,OW,aP];have k4:Kp [] s3 (St.new s3 (.cells [i,f] 102 false)):=(Kp.refl [] s3).new _;have g4:(St.new s3 (.cells [i,f] 102 false)).m.g s3.nx=some (.cells [i,f] 102 false):=au _ _;have n4:(St.new s3 (.cells [i,f] 102 false)).nx=s3.nx+1:=rfl;generalize St.new s3 (.cells [i,f] 102 false)=s4 at*;have I:=lH.trans k4 wb;have jS:Sl s4 [] (.slice s3.nx 0 2 2 0) 1 [i,f]:=.inr ⟨s3.nx,0,2,2,0,rfl,rfl,⟨aHK _,.inl rfl⟩,.inr ⟨wb,uM,_,_,_,g4,wb,rfl⟩⟩;refine(DH (Ls:=[bM a.cells,bM b.cells]) jS ⟨⟨e1.mono I,lb uM⟩,⟨e2.mono I,lb uM⟩,afp⟩ wb wb).mono ?_;intro U s5 m5;have k5:=m5.kp;have n5:=k5.nx;have ap:=(k5.keep s2.nx uM wb).trans ((k4.keep s2.nx uM wb).trans g3);obtain⟨F,a1,v,a3⟩:=m5;obtain⟨Z,Y⟩:=v.cF;have p3:=(v.sl (X:=[]) λb u=>⟨wb,(a3 b u).2⟩).bL.1
  have mo:aZ [.bool false,.ae,.ae] [(0,1,.bool true),(1,1,U)] s5=.ok (.agg [.bool true,U,.ae]) s5:=by
   rw[dB];simp[cE,bz,Y,p3]
  rw[mo,af,aH,ap,aS,aT,kW];refine⟨⟨rfl,by simp[Z],wb⟩,?_⟩;rw[aM (n:=3) (an _ _ _) rfl,af];refine⟨(I.trans k5 wb).set _ (.inr uM) uM,λX N=>⟨U,.ae,?_,?_,.inl ⟨rfl,?_⟩⟩⟩
  .unfold dx;rw[aHP gO]
  .have:bM (dx a d b).cells=[bM a.cells,bM b.cells].flatten:=by unfold dx;rw[aHP gO,iA];simp
   rw[this];exact(v.mono λq hq=>ak _ _ _ _ adE).sl λq hq=>⟨λh=>by have:=N q h;have:=(a3 q hq).1;have:=I.nx;omega,(a3 q hq).2⟩
  .unfold dx;rw[aHP gO];rfl
 |false=>
  rw[aHM xI,bD];have Q:Kp [] s3 (St.skip (St.skip (St.skip s3))):=((Kp.refl _ s3).skip).skip.skip;have jH:=lH.fresh hf;have gm:∀q,(St.skip (St.skip (St.skip s3))).m.g q=s3.m.g q:=λq=>rfl;have aI:(St.skip (St.skip (St.skip s3))).nx=s3.nx+3:=rfl;have T:(St.skip s3).nx=s3.nx+1:=rfl;have S:(St.skip (St.skip s3)).nx=s3.nx+2:=rfl;have Z4:(St.skip (St.skip (St.skip s3))).m.g s3.nx=none:=jH _ (aHK _);have Z3:(St.skip (St.skip (St.skip s3))).m.g (s3.nx+1)=none:=jH _ uM;have E6:(St.skip (St.skip (St.skip s3))).m.g (s3.nx+2)=none:=jH _ uM;rw[T,S];generalize St.skip (St.skip (St.skip s3))=o at*;have RW:=(Q.keep st.nx uM wb).trans qS;have G:=(Q.keep s1.nx uM wb).trans Ih;have C:=(Q.keep s2.nx uM wb).trans g3;have ay:aZ [.str [],.str [],.int .i64 0,.int .i64 0] [(0,1,.str d)] o=.ok (.agg (bg (fO d))) o:=rfl;simp only[RW,ar,aHI,aHG,aw,ay,af];rw[jO Z4 (Ft (k:=4) rfl rfl rfl),aP];have M:Kp [s3.nx,s3.nx+1,s3.nx+2] o (St.set o s3.nx (.cells (CV.agg (bg (fO d))).cK 109 false)):=(Kp.refl _ o).set _ (.inl wb) uM;have ai:(St.set o s3.nx (.cells (CV.agg (bg (fO d))).cK 109 false)).m.g s3.nx=some (.cells (bg (fO d)) 109 false):=an _ _ _;have al:(St.set o s3.nx (.cells (CV.agg (bg (fO d))).cK 109 false)).m.g (s3.nx+1)=none:=(ak _ _ _ _ uM).trans Z3;have aj:(St.set o s3.nx (.cells (CV.agg (bg (fO d))).cK 109 false)).m.g (s3.nx+2)=none:=(ak _ _ _ _ uM).trans E6;have n7:(St.set o s3.nx (.cells (CV.agg (bg (fO d))).cK 109 false)).nx=o.nx:=rfl;generalize St.set o s3.nx (.cells (CV.agg (bg (fO d))).cK 109 false)=y at*;have aq:=(M.keep s1.nx uM zS).trans G;have VS:=(M.keep st.nx uM zS).trans RW;have aJ:=(M.keep s2.nx uM zS).trans C;simp only[aq,ar,aHI,aHG,aw]
  have aB:gC [(0,1,i),(1,1,.slice s3.nx 0 1 1 0),(2,1,f)] (cH 3 [.ae])=some [i,.slice s3.nx 0 1 1 0,f]:=by
   rw[cE,aHP ⟨⟨by rw[r];rfl,x1⟩,by rw[r];exact(by decide:0+1<=3)⟩,cE,aHP ⟨⟨rfl,rfl⟩,by rw[r];exact(by decide:1+1<=3)⟩,cE,aHP ⟨⟨by rw[w];rfl,z1⟩,by rw[w,r];exact(by decide:2+1<=3)⟩,lJ,r,w];rfl
  rw[jO al aB,aP];have L:Kp [s3.nx,s3.nx+1,s3.nx+2] o (St.set y (s3.nx+1) (.cells [i,.slice s3.nx 0 1 1 0,f] 102 false)):=M.set _ (.inl wb) uM;have ac:(St.set y (s3.nx+1) (.cells [i,.slice s3.nx 0 1 1 0,f] 102 false)).m.g (s3.nx+1)=some (.cells [i,.slice s3.nx 0 1 1 0,f] 102 false):=an _ _ _;have ad:(St.set y (s3.nx+1) (.cells [i,.slice s3.nx 0 1 1 0,f] 102 false)).m.g s3.nx=some (.cells (bg (fO d)) 109 false):=(ak _ _ _ _ uM).trans ai;have B:(St.set y (s3.nx+1) (.cells [i,.slice s3.nx 0 1 1 0,f] 102 false)).m.g (s3.nx+2)=none:=(ak _ _ _ _ uM).trans aj;have n8:(St.set y (s3.nx+1) (.cells [i,.slice s3.nx 0 1 1 0,f] 102 false)).nx=o.nx:=n7;generalize St.set y (s3.nx+1) (.cells [i,.slice s3.nx 0 1 1 0,f] 102 false)=s8 at*;have s:=(lH.trans Q wb).trans L (by intro q hq;simp at hq;omega);have aC:Sl s8 [] (.slice (s3.nx+1) 0 3 3 0) 1 [i,.slice s3.nx 0 1 1 0,f]:=.inr ⟨s3.nx+1,0,3,3,0,rfl,rfl,⟨aHK _,.inl rfl⟩,.inr ⟨wb,uM,_,_,_,ac,wb,rfl⟩⟩;have aD:Sl s8 [] (.slice s3.nx 0 1 1 0) 4 (bg (fO d)):=.inr ⟨s3.nx,0,1,1,0,rfl,rfl,⟨aHK _,.inl rfl⟩,.inr ⟨wb,uM,_,_,_,ad,acm,rfl⟩⟩;have RV:=(L.keep st.nx uM zS).trans RW;have E:=(L.keep s1.nx uM zS).trans G;have ao:=(L.keep s2.nx uM zS).trans C;refine(DH (Ls:=[bM a.cells,bg (fO d),bM b.cells]) aC ⟨⟨e1.mono s,lb uM⟩,⟨aD,1,rfl,uM⟩,⟨e2.mono s,lb uM⟩,afp⟩ wb wb).mono ?_;intro O p m9;have z:=m9.kp;have n9:=z.nx;have Yc:=(z.keep st.nx uM wb).trans RV;have D:=(z.keep s1.nx uM wb).trans E;have am:=(z.keep s2.nx uM wb).trans ao;have ab:=(z.keep (s3.nx+2) uM wb).trans B;have aa:=s.trans z wb;simp only[Yc,D,ar,aHI,aHG,aw]
  have aA:gC [(0,1,l),(1,1,j)] (cH 2 [.ae])=some [l,j]:=by
   rw[cE,aHP ⟨⟨by rw[H];rfl,y1⟩,by rw[H];exact(by decide:0+1<=2)⟩,cE,aHP ⟨⟨by rw[V];rfl,w1⟩,by rw[V,H];exact(by decide:1+1<=2)⟩,lJ,H,V];rfl
  rw[jO ab aA,aP];have oq:Kp [s3.nx+2] p (St.set p (s3.nx+2) (.cells [l,j] 103 false)):=(Kp.refl _ p).set _ (.inl wb) uM;have Mz:(St.set p (s3.nx+2) (.cells [l,j] 103 false)).m.g (s3.nx+2)=some (.cells [l,j] 103 false):=an _ _ _;have I4:(St.set p (s3.nx+2) (.cells [l,j] 103 false)).nx=p.nx:=rfl;have J:=aa.trans oq (by intro q hq;simp at hq;omega);obtain⟨F,a1,v,a3⟩:=m9;have Wh:Own (St.set p (s3.nx+2) (.cells [l,j] 103 false)) O 4 109 [bM a.cells,bg (fO d),bM b.cells].flatten F:=v.mono λq hq=>ak _ _ _ _ adE;have aF:(St.set p (s3.nx+2) (.cells [l,j] 103 false)).m.g st.nx=_:=(ak _ _ _ _ uM).trans Yc;have aG:(St.set p (s3.nx+2) (.cells [l,j] 103 false)).m.g s1.nx=_:=(ak _ _ _ _ uM).trans D;have KH:(St.set p (s3.nx+2) (.cells [l,j] 103 false)).m.g s2.nx=_:=(ak _ _ _ _ uM).trans am;generalize St.set p (s3.nx+2) (.cells [l,j] 103 false)=W at*;have aE:Sl W [] (.slice (s3.nx+2) 0 2 2 0) 1 [l,j]:=.inr ⟨s3.nx+2,0,2,2,0,rfl,rfl,⟨aHK _,.inl rfl⟩,.inr ⟨wb,uM,_,_,_,Mz,wb,rfl⟩⟩;refine(Ow (Ls:=[cP a.kids,cP b.kids]) aE ⟨⟨f1.mono J,a.kids.length,wb,uM⟩,⟨f2.mono J,b.kids.length,wb,uM⟩,afp⟩ wb wb).mono ?_;intro gE dQ A;have K:=A.kp;have Ti:=K.nx;have ax:=(K.keep s2.nx uM wb).trans KH;obtain⟨F2,b1,b2,P⟩:=A;obtain⟨Z,Y⟩:=v.cF;have p3:=(v.sl (X:=[]) λb u=>⟨wb,(a3 b u).2⟩).bL.1;obtain⟨q1,q2⟩:=b2.cF;have q3:=(b2.sl (X:=[]) λb u=>⟨wb,(P b u).2⟩).bL.1
  have mo:aZ [.bool false,.ae,.ae] [(1,1,O),(2,1,gE)] dQ=.ok (.agg [.bool false,O,gE]) dQ:=by
   rw[dB];simp[cE,bz,Y,p3,q2,q3]
  rw[mo,af,aH,ax,aS,aT,kW];refine⟨⟨rfl,by simp[Z,q1],wb⟩,?_⟩;simp only[RV,E,aF,aG,B,ar,aHI,aHG,aw,aKc,and_true];rw[aM (n:=3) (an _ _ _) rfl,af];refine⟨(J.trans K wb).set _ (.inr uM) uM,λX N=>⟨O,gE,?_,?_,?_⟩⟩
  .unfold dx;rw[aHM acS]
  .have:bM (dx a d b).cells=[bM a.cells,bg (fO d),bM b.cells].flatten:=by unfold dx;rw[aHM acS,iA];simp[bM]
   rw[this];have av:=Wh.keep K λq hq=>⟨by have:=(a3 q hq).2;omega,wb⟩;exact(av.mono λq hq=>ak _ _ _ _ adE).sl λq hq=>⟨λh=>by have:=N q h;have:=(a3 q hq).1;have:=s.nx;omega,by have:=(a3 q hq).2;simp;omega⟩
  .have:cP (dx a d b).kids=[cP a.kids,cP b.kids].flatten:=by unfold dx;rw[aHM acS,nY];simp
   rw[this];exact(b2.mono λq hq=>ak _ _ _ _ (by have:=(P q hq).1;omega)).sl λq hq=>⟨λh=>by have:=N q h;have:=(P q hq).1;have:=J.nx;omega,by have:=(P q hq).2;simp;omega⟩
end
section
variable {e k n i vb:Nat}{L T:List CV}{v:CV}{z:List CV}{F:List Nat}
section
variable {st st':St}
def l5 (k e:Nat)(L:List CV)(F:List Nat)(st:St)(x:CV)(st':St):Prop:=∃F',Own st' x k e L F'/\Kp F st st'/\∀b∈F',(b∈F\/st.nx<=b)/\b<st'.nx
def Dp {b:Nat}(f:0<k)(j:st.m.g b=some (.cells L e true))(a:st.m.g vb=some (.cells T e false))(p:b≠vb)(o:L.length=n*k)(l:T.length=k)(hi:i<n)(d:n<=1000000)(c:bh L=true)(r:bh T=true):
 mZ e k [.slice b 0 n n k,I i,.slice vb 0 1 1 0] st=some (.ok (.slice st.nx 0 (n+1) (n+1) k) ⟨(st.m.put b none).put st.nx (some (.cells (L.take (i*k)++(T++L.drop (i*k))) e true)),st.nx+1⟩):=by
 have q:mZ e k [.slice b 0 n n k,I i,.slice vb 0 1 1 0] st=mZ e k [.slice b 0 n n k,.int .i64 (.ofNat i),.slice vb 0 1 1 0] st:=rfl;rw[q];simp only[mZ,j,a];rw[aHP ⟨afp,afp,f,hi,p,afp,afp,o,c,r,l,d⟩]
def yQ {e k n i b vb:Nat}{L T:List CV}(j:0<k)(a:b<st.nx)(f:L.length=n*k)(d:T.length=k)(hi:i<n):l5 k e (L.take (i*k)++(T++L.drop (i*k))) [b] st (.slice st.nx 0 (n+1) (n+1) k) ⟨(st.m.put b none).put st.nx (some (.cells (L.take (i*k)++(T++L.drop (i*k))) e true)),st.nx+1⟩:=by
 have o:i*k<=n*k:=aIB k uM;refine⟨[st.nx],.inr (.inr ⟨st.nx,n+1,rfl,uM,?_,rfl,PT.dj _ _ _⟩),⟨wb,λq l h2=>?_,λc q hq=>?_⟩,λq hq=>⟨.inr acV,by simp at hq;simp;omega⟩⟩
 .rw[aHR,aHR,aHZ,aIl,d,f,aIV];omega
 .show((st.m.put b none).put st.nx _).g q=_;rw[PT.du _ _ _ _ uM,PT.du _ _ _ _ abm]
 .show((st.m.put b none).put st.nx _).g q=_;simp only at hq;rw[PT.du _ _ _ _ uM,PT.du _ _ _ _ uM];exact c q uM
def LZ {bytes:Nat}{g:Bool}{K:CV->CV->Prop}(o:Own st v k e L F)(d:0<k)(p:L.length=n*k)(G:n<=1000000)(q:∀b∈F,b<st.nx)(C:st.m.g vb=some (.cells T e g))(S:T.length=k)(Q:bh T=true)(c:k<=4)(a:bytes<=48):
 us (aR k v (some (I n)) none st) λR=>us (bt .slice (.slice vb 0 1 1 0) st) λj=>us (aj .eql (some .int) true j (.int .i64 0) st) λy=>aC y (l5 k e (L++T) F st v st) (us (bt .slice v st) λf=>us (aj .eql (some .int) false (I n) f st) λw=>
  aC w (upon (bJ e k bytes v (cT .slice k z (.slice vb 0 1 1 0) st) st) λu A=>l5 k e (L++T) F st u A) (K j f)):=by
 have l:Sl st [] v k L:=o.sl λb a=>⟨wb,q b a⟩;obtain⟨v',B,_⟩:=l.lo d p (aHK n) st;have J:aj .eql (some .int) true (I ((1:Nat):Int)) (.int .i64 0) st=.ok (.bool false) st:=rfl;have H:aj .eql (some .int) false (I n) (I n) st=.ok (.bool true) st:=by rw[av,cC,aHQ rfl]
 have M:bt .slice (.slice vb 0 1 1 0) st=.ok (I ((1:Nat):Int)) st:=rfl;rw[B,af,M,af,J,af,ag,aHM xI,l.len n p d st,af,H,af,ag,aHP rfl,GZ (k:=k) (n:=1) C uM uM];have E:=aKK G c;have D:(L.length+T.length)*(bytes+1)<=(4000004)*49:=aKK uM uM;obtain⟨x,s,F',P,O,N,r⟩:=o.append (n:=1) (bytes:=bytes) (T:=T) d uM Q q uM;rw[P,aP];exact⟨F',O,N,λb a=>⟨(r b a).1.imp id λh=>uM,(r b a).2⟩⟩
def mB (d:Own st v k e L F)(a:0<k)(c:L.length=n*k)(f:0<n):∃b,v=.slice b 0 n n k/\F=[b]/\st.m.g b=some (.cells L e true):=by
 have hp:=Nat.mul_pos f a;rcases d with⟨_,rfl,_⟩|⟨b,l,t,g,_,rfl,_⟩|⟨b,m,p,r,q,o,j⟩
 .simp at c;omega
 .simp at c;omega
 .have:m=n:=aIT a uM;subst this;exact⟨b,p,o,j⟩
def Hu (c:Own st v 4 109 L F)(a:L.length=n*4)(q:n<=1000000)(r:∀b∈F,b<st.nx)(p:st.m.g vb=some (.cells T 109 false))(d:vb∉F)(f:T.length=4)(A:bh L=true)(s:bh T=true)(hi:i<=n):
 R 51 [v,I i,.slice vb 0 1 1 0] st (l5 4 109 (L.take (i*4)++(T++L.drop (i*4))) F st):=by
 by_cases o:i<n
 .obtain⟨b,rfl,rfl,hb⟩:=mB c uM a uM;refine SO (st':=_) (v:=_) (show I0 51 _ st=some (.ok _ _)from ?_) (yQ (e:=109) (vb:=vb) uM (r b wb) a f o);have:I0 51 [.slice b 0 n n 4,I i,.slice vb 0 1 1 0] st=mZ 109 4 [.slice b 0 n n 4,I i,.slice vb 0 1 1 0] st:=rfl;rw[this];exact Dp uM hb p (λe=>d ady) a f o q A s
 .have:i=n:=by omega
  subst this;refine bK ?_ ?_
  .rw[w51];have y:L.take (i*4)=L:=aHS uM;have x:L.drop (i*4)=[]:=aIp uM;have w:l5 4 109 (L.take (i*4)++(T++L.drop (i*4))) F st=l5 4 109 (L++T) F st:=by rw[y,x,aIJ]
   rw[w];exact LZ (bytes:=48) (z:=[.str [],.str [],.int .i64 0,.int .i64 0]) c uM a q r p f s uM uM
  .by_cases h0:i=0
   .subst h0;rcases c with⟨rfl,_⟩|⟨b,l,t,g,rfl,_⟩|⟨b,m,rfl,B,u,_⟩
    .rfl
    .have j:∀args,I0 51 args st=mZ 109 4 args st:=λargs=>rfl;rw[j];have:mZ 109 4 [.slice b 0 0 0 0,I ((0:Nat):Int),.slice vb 0 1 1 0] st=mZ 109 4 [.slice b 0 0 0 0,.int .i64 (.ofNat 0),.slice vb 0 1 1 0] st:=rfl;rw[this];simp only[mZ]
     split
     .rw[aHM uM]
     .rfl
    .rw[u]at a;omega
   .obtain⟨b,rfl,rfl,hb⟩:=mB c uM a uM;have j:∀args,I0 51 args st=mZ 109 4 args st:=λargs=>rfl;rw[j];have:mZ 109 4 [.slice b 0 i i 4,I i,.slice vb 0 1 1 0] st=mZ 109 4 [.slice b 0 i i 4,.int .i64 (.ofNat i),.slice vb 0 1 1 0] st:=rfl;rw[this];simp only[mZ]
    split
    .rw[aHM uM]
    .rfl
def NJ (c:Own st v 1 3 L F)(a:L.length=n*1)(q:n<=1000000)(r:∀b∈F,b<st.nx)(p:st.m.g vb=some (.cells T 3 false))(d:vb∉F)(f:T.length=1)(A:bh L=true)(s:bh T=true)(hi:i<=n):
 R 144 [v,I i,.slice vb 0 1 1 0] st (l5 1 3 (L.take (i*1)++(T++L.drop (i*1))) F st):=by
 by_cases o:i<n
 .obtain⟨b,rfl,rfl,hb⟩:=mB c uM a uM;refine SO (st':=_) (v:=_) (show I0 144 _ st=some (.ok _ _)from ?_) (yQ (e:=3) (vb:=vb) uM (r b wb) a f o);have:I0 144 [.slice b 0 n n 1,I i,.slice vb 0 1 1 0] st=mZ 3 1 [.slice b 0 n n 1,I i,.slice vb 0 1 1 0] st:=rfl;rw[this];exact Dp uM hb p (λe=>d ady) a f o q A s
 .have:i=n:=by omega
  subst this;refine bK ?_ ?_
  .rw[adT];have y:L.take (i*1)=L:=aHS uM;have x:L.drop (i*1)=[]:=aIp uM;have w:l5 1 3 (L.take (i*1)++(T++L.drop (i*1))) F st=l5 1 3 (L++T) F st:=by rw[y,x,aIJ]
   rw[w];exact LZ (bytes:=8) (z:=[.int .i64 0]) c uM a q r p f s uM uM
  .by_cases h0:i=0
   .subst h0;rcases c with⟨rfl,_⟩|⟨b,l,t,g,rfl,_⟩|⟨b,m,rfl,B,u,_⟩
    .rfl
    .have j:∀args,I0 144 args st=mZ 3 1 args st:=λargs=>rfl;rw[j];have:mZ 3 1 [.slice b 0 0 0 0,I ((0:Nat):Int),.slice vb 0 1 1 0] st=mZ 3 1 [.slice b 0 0 0 0,.int .i64 (.ofNat 0),.slice vb 0 1 1 0] st:=rfl;rw[this];simp only[mZ]
     split
     .rw[aHM uM]
     .rfl
    .rw[u]at a;omega
   .obtain⟨b,rfl,rfl,hb⟩:=mB c uM a uM;have j:∀args,I0 144 args st=mZ 3 1 args st:=λargs=>rfl;rw[j];have:mZ 3 1 [.slice b 0 i i 1,I i,.slice vb 0 1 1 0] st=mZ 3 1 [.slice b 0 i i 1,.int .i64 (.ofNat i),.slice vb 0 1 1 0] st:=rfl;rw[this];simp only[mZ]
    split
    .rw[aHM uM]
    .rfl
def MG {bytes:Nat}(ho:Own st v k e L F)(hk:0<k)(q:L.length=n*k)(hn:n<=1000000)(hF:∀b∈F,b<st.nx)(hz:z.length=k)(E:bh z=true)(NQ:bh L=true)(hi:i<n):
 us (bt .slice v st) λx1=>us (jd k v (some (I i)) (I ((i+1:Nat):Int)) x1 st) λx2=>us (aj .eql (some .int) false (I i) (I ((i+1:Nat):Int)) st) λx3=>aC x3 False
  (us (bt .slice v st) λx4=>ck (us (aR k v none (some (I i)) st) λx5=>us (aR k v (some (I ((i+1:Nat):Int))) none st) λx6=>upon (bJ e k bytes x5 (cT .slice k z x6 st) st) λr a=>(True)/\(True)/\
   us (bt .slice r a) λx8=>us (aR k r (some x8) (some x4) a) λx9=>upon (sQ z x9 a) λ_ s2=>(lS s2 F r k (L.take (i*k)++L.drop ((i+1)*k))/\Kp F st s2/\s2.nx=st.nx))):=by
 obtain⟨b,rfl,rfl,H⟩:=mB ho hk q uM;have U:=hF b wb;have e1:bt .slice (.slice b 0 n n k) st=.ok (I n) st:=rfl
 have O:∃y,jd k (.slice b 0 n n k) (some (I i)) (I ((i+1:Nat):Int)) (I n) st=.ok y st:=by
  unfold jd;dsimp only;rw[uo,aHP (aHK _)];dsimp only;rw[qT,aHP ⟨uM,uM⟩];simp only[dH,aO,aIK,aIr,aIs];rw[aHP (.inr uM)]
  split<;>exact⟨_,rfl⟩
 obtain⟨y,O⟩:=O;have e3:aj .eql (some .int) false (I i) (I ((i+1:Nat):Int)) st=.ok (.bool false) st:=Pe
 have HS:i*k+k<=n*k:=by
  calc i*k+k=(i+1)*k:=by rw[aIV,aJV]
   _<=n*k:=aIB k hi
 have ab:(i+1)*k=i*k+k:=by rw[aIV,aJV]
 have E9:(n-1)*k+k=n*k:=by
  have:(n-1)*k+k=(n-1+1)*k:=by rw[aIV,aJV]
  rw[this];congr 1;omega
 have aa:(n-(i+1))*k=n*k-(i+1)*k:=Nat.sub_mul _ _ _
 have f:n-(i+1)=0->i*k=(n-1)*k/\i=n-1:=λh=>by have:i=n-1:=by omega
                                              subst this;exact⟨rfl,rfl⟩
 obtain⟨o5,W,q5⟩:=jN (k:=k) (b:=b) (off:=0) (len:=n) (cap:=n) (grow:=k) (l:=0) (h:=i) (lo:=none) (hi:=some (I i)) (st:=st) adP (aHK _) (.inr rfl);have:o5=0:=uM
 subst this;obtain⟨d,p6,q6⟩:=jN (k:=k) (b:=b) (off:=0) (len:=n) (cap:=n) (grow:=k) (l:=i+1) (h:=n) (lo:=some (I ((i+1:Nat):Int))) (hi:=none) (st:=st) (by rw[xu,aHP uM]) (aHK _) (.inr rfl);simp only[Nat.sub_zero]at W;simp only[e1,af,O,e3,ag,aHH,aHV,bD,W,p6];have h9:=λC=>jN (k:=k) (b:=b) (off:=0) (len:=n-1) (cap:=n) (grow:=k) (l:=n-1) (h:=n) (lo:=some (I ((n-1:Nat):Int))) (hi:=some (I n)) (st:=St.set st b (.cells C e true)) (by rw[qT,aHP ⟨uM,uM⟩]) uM (.inr rfl);have j:∀(l:List CV) (off:Nat) (t:List CV),off+t.length<=l.length->dZ l off t=some (bz l off t):=λl off t h=>by unfold dZ;rw[aHP h];rfl
 generalize hA:i*k=A at*;generalize hB:(i+1)*k=B at*;generalize hN:n*k=N at*;generalize K:(n-1)*k=M at*;generalize hD:(n-(i+1))*k=D at*
 have hT:cT .slice k z (.slice b d (n-(i+1)) (n-(i+1)) k) st=some (n-(i+1),L.drop B):=by
  have e':cT .slice k z (.slice b d (n-(i+1)) (n-(i+1)) k) st=(match dE k (n-(i+1)) (.slice b d (n-(i+1)) (n-(i+1)) k) st with|some s=>some (n-(i+1),s)|none=>none):=rfl;rw[e',kg]
  by_cases c:n-(i+1)=0
  .rw[aHP c];have:=f c;have:L.drop B=[]:=aIp uM;rw[this]
  .rw[aHM c,aHP (.inr (aHK _)),H,hD];have G:d=B:=by omega
   have:gY L d D=some (L.drop B):=by
    unfold gY;rw[aHP uM,G,aHS aaK]
   dsimp only;rw[this]
 have vP:(L.drop B).length=N-B:=by rw[aIl,q]
 have J:bh (L.drop B)=true:=by
  simp only[bh,aKd]at NQ⊢;exact λx hx=>NQ x (aID hx)
 have Ry:∃a C,bJ e k bytes (.slice b 0 i n k) (some (n-(i+1),L.drop B)) st=.ok (.slice b 0 (n-1) n k) a/\a=St.set st b (.cells C e true)/\C.length=N/\C.take M=L.take A++L.drop B:=by
  by_cases c:n-(i+1)=0
  .obtain⟨w,u⟩:=f c;have Y:L.drop B=[]:=aIp uM;refine⟨St.set st b (.cells L e true),L,?_,rfl,q,by rw[Y,w];simp⟩;rw[c,Y];have e':bJ e k bytes (.slice b 0 i n k) (some (0,[])) st=bE (Nat.ble i n) (.ok (.slice b 0 i n k) st) .bad:=rfl
   have es:St.set st b (.cells L e true)=st:=by
    cases st with
    |mk mem nx=>
     simp only[St.set,St.mk.injEq,and_true]
     exact PT.ext λp=>by
      rw[PT.eW];split
      .rename_i h;rw[h];exact H.symm
      .rfl
   rw[e',aO,aHP acd,es,<-u]
  .refine⟨_,bz L A (L.drop B),?_,rfl,?_,?_⟩
   .unfold bJ;simp only[aO,aIs,dH,aIr];have S:Nat.add i (n-(i+1))=n-1:=by show i+(n-(i+1))=n-1;omega
    rw[aHM c,S,aHP uM,H];dsimp only;rw[J,aHP rfl,hA,aHN,j _ _ _ uM];rfl
   .rw[mU _ _ _ uM];exact q
   .unfold bz;rw[aJJ,aHS (i:=M) (l:=L.take A) TP,aHZ,aJJ];have Ku:min A L.length=A:=aIC uM;have:M-min A L.length-(L.drop B).length=0:=by omega
    rw[this,aJG,aIJ,aHS (i:=M-min A L.length) (l:=L.drop B) uM]
 obtain⟨a,C,h1,rfl,h3,Z⟩:=Ry;have e7:bt .slice (.slice b 0 (n-1) n k) (St.set st b (.cells C e true))=.ok (I ((n-1:Nat):Int)) (St.set st b (.cells C e true)):=rfl;obtain⟨o9,V,q9⟩:=h9 C;have:o9=M:=uM
 subst this;have Ot:n-(n-1)=1:=uM
 rw[Ot]at V
 have R:sQ z (.slice b o9 1 1 k) (St.set st b (.cells C e true))=.ok .undef (St.set st b (.cells (bz C o9 z) e true)):=by
  have e':sQ z (.slice b o9 1 1 k) (St.set st b (.cells C e true))=bE (Nat.beq 1 0) (.ok .undef (St.set st b (.cells C e true))) (bE (Bool.or (Nat.beq k 0) (Nat.ble 1 1))
   (match (St.set st b (.cells C e true)).m.g b with
   |some (.cells s ty g)=>(λt=>bE (bh t) (Option.rec .bad (λs'=>.ok .undef ⟨(St.set st b (.cells C e true)).m.put b (some (.cells s' ty g)),(St.set st b (.cells C e true)).nx⟩) (dZ s o9 t)) .bad) (cH 1 z)
   |_=>.bad) .bad):=rfl
  rw[e',an];have er:cH 1 z=z:=by simp[cH]
  dsimp only;rw[er,E,j _ _ _ uM];have Q:Bool.or (Nat.beq k 0) (Nat.ble 1 1)=true:=wb
  have P:Nat.beq 1 0=false:=rfl;rw[Q,P];show OR.ok CV.undef (St.set (St.set st b (.cells C e true)) b (.cells (bz C o9 z) e true))=_;rw[set_set]
 rw[hT,h1];simp only[aP,e7,af,V,R,aKc];have A4:Kp [b] st (St.set st b (.cells (bz C o9 z) e true)):=(Kp.refl _ st).set _ (.inl wb) U;have o:(L.take A++L.drop B).length=(n-1)*k:=by rw[<-Z,aHZ,K];omega
 refine⟨λX hX=>?_,A4,rfl⟩;refine .inr ⟨b,0,n-1,n,k,rfl,o,⟨uM,.inr rfl⟩,.inr ⟨hX b wb,U,_,_,_,an _ _ _,?_,?_⟩⟩
 .rw[mU _ _ _ uM,K];omega
 .rw[aIn,K,<-Z];unfold bz;rw[aJJ,aHS (i:=o9) (l:=C.take o9) TP,aHZ];have Ku:min o9 C.length=o9:=aIC uM;have:o9-min o9 C.length=0:=by omega
  rw[this];simp
def Iq (c:Own st v 4 109 L F)(f:L.length=n*4)(d:n<=1000000)(g:∀b∈F,b<st.nx)(m:bh L=true)(hi:i<n):
 R 84 [v,I i,I ((i+1:Nat):Int)] st λx s2=>lS s2 F x 4 (L.take (i*4)++L.drop ((i+1)*4))/\Kp F st s2/\s2.nx=st.nx:=by
 refine bK ?_;rw[w84];have:=MG (bytes:=48) (z:=[.str [],.str [],.int .i64 0,.int .i64 0]) c uM f d g rfl rfl m hi;refine lT this λq l=>lT l λp j=>lT j λo a=>?_;unfold aC at a⊢
 split at a
 .exact a.elim
 .exact a
 .exact a
def Ou (c:Own st v 1 3 L F)(f:L.length=n*1)(d:n<=1000000)(g:∀b∈F,b<st.nx)(m:bh L=true)(hi:i<n):
 R 108 [v,I i,I ((i+1:Nat):Int)] st λx s2=>lS s2 F x 1 (L.take (i*1)++L.drop ((i+1)*1))/\Kp F st s2/\s2.nx=st.nx:=by
 refine bK ?_;rw[anC];have:=MG (bytes:=8) (z:=[.int .i64 0]) c uM f d g rfl rfl m hi;refine lT this λq l=>lT l λp j=>lT j λo a=>?_;unfold aC at a⊢
 split at a
 .exact a.elim
 .exact a
 .exact a
end
end
