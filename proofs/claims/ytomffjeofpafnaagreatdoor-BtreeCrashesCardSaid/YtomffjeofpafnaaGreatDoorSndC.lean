import Derived.Test.YtomffjeofpafnaaGreatDoorSndB
import Derived.Test.YtomffjeofpafnaaGreatDoorWa
import Derived.Lib.Overlaps
import Derived.Laws.Externs
namespace Lim
open Go
noncomputable section
set_option linter.defProp false
set_option maxRecDepth 100000
section
variable {k cap g ty:Nat}{s:St}{n:Nat}{L T:List CV}{e f1 f2 i vb:Nat}{z:List CV}
open Classical in
def UQ (args:List CV)(st:St):Option OR:=
 match args with
 |[.slice bx _ _ _ _,.slice by' _ _ _ _]=>(match st.m.g bx,st.m.g by' with
  |some (.cells _ _ false),some (.cells s _ _)=>if bx≠by'/\1<=s.length then some (.ok (.bool false) st)else none
  |_,_=>none)
 |_=>none
def I1:yc:=λf args st=>bz (Nat.beq f 102) (UQ args st) (bz (Nat.beq f 181) (UQ args st) none)
structure Z8 (P:Program)(f:Nat):Prop where
 out:∃(tS tR e:TypeId) (size:Nat),P.underlying tS=some (.slice e)/\(∀w,(Go.sizeOf e).run P w=.ok size w)/\
  ∀(args:Array Value) (w:World),(callFunc f args).run P w=((Extern.SlicesOverlaps.overlaps #[tS,tS] #[tR] args).run P w).andThen λv w'=>.ok (.value v) w'
section
variable {P:Program} {f:Nat} {st st':St} {v:CV}
def BM (hf:Z8 P f){args:List CV}(h:UQ args st=some (.ok v st')):qM P f args st v st':=by
 obtain⟨tS,tR,e,size,h1,h2,h3⟩:=hf.out;unfold UQ at h
 split at h
 .rename_i bx ox lx cx gx by' oy ly cy gy
  split at h
  .rename_i s1 t1 s2 t2 g2 m1 m2
   split at h
   .rename_i hc;cases h;refine .inr ⟨rfl,λρ w args' hw ha=>?_⟩;obtain⟨x',t',e1,hx,Ez⟩:=ha.inv;obtain⟨y',t2',e2,hy,TX⟩:=Ez.inv;have e3:t2'=[]:=by have:=TX.len;simpa using this.symm
    subst e3;subst e2;have e4:args'= #[x',y']:=abu
    subst e4;obtain⟨r1,z1,o1,k1,rfl,Vn,_⟩:=hx.eI;obtain⟨r2,z2,o2,k2,rfl,Cb,_⟩:=hy.eI;obtain⟨c1,lo1,Gx,a1,a2,a3,a4,a5⟩:=hw.row m1 Vn;obtain⟨c2,IK,xW,b1,b2,b3,b4,b5⟩:=hw.row m2 Cb;have hfz:=hw.Xk m1 Vn a1 rfl;have hrr:r1≠r2:=λe=>hc.1 (hw.inj bx by' _ _ r1 z1 z2 m1 m2 Vn (by rw[e];exact Cb));have hs:=hc.2;refine⟨.bool false,?_,.bool false⟩
    rw[h3,Lib.run_overlaps_apart w tS tR e h1 size h2 ⟨r1,o1,none⟩ ⟨r2,o2,none⟩ lx k1 ly k2 hrr t1 t2 c1.size c2.size (by simp[World.shape?,a1]) (by simp[World.shape?,b1]) pX
     (by simp only[World.frozen?,a1];have:=hfz o1;simp;omega) (by simp only[World.frozen?,a1];have:=hfz c1.size;simp;omega)]
    rfl
   .cases h
  .cases h
 .cases h
end
section
variable {st:St}
def CS {b off len l:Nat}(h:l<=len)(hc:len<=cap)(hg:g=0\/g=k)(hlt:l<cap)(s:St):aN k (.slice b off len cap g) (some (I l)) none s=.ok (.slice b (off+l*k) (len-l) (cap-l) g) s:=by
 unfold aN;have e:nw (some (I l)) none len cap=some (l,len):=by rw[yG,aDy h]
 simp only[aO,aDW,e,dH,aDK,aDZ,aEu];rw[aDy hc,aDv pX,aDy hg]
 rfl
def acb {b off len h:Nat}(hh:h<=cap)(hc:len<=cap)(hg:g=0\/g=k)(hlt:0<cap)(s:St):aN k (.slice b off len cap g) none (some (I h)) s=.ok (.slice b off h cap g) s:=by
 unfold aN;have e:nw none (some (I h)) len cap=some (0,h):=by rw[tw,aDy hh]
 simp only[aO,aDW,e,dH,aDK,aDZ,aEu];rw[aDy hc,aDv pX,aDy hg];simp
def L6 (C:aW)(k e bytes:Nat)(z:List CV)(f1 f2:Nat)(a0 a1 a2:CV)(st:St)(Q:CV->St->Prop):Prop:=
 (us (aN k a0 (some a1) none st) λx1=>
 us (bj .slice a2 st) λx2=>
 us (ai .eql (some .int) true x2 (.int .i64 0) st) λx3=>
 aA x3 (
 Q a0 st) (
 us (bj .slice a0 st) λx4=>
 us (ai .eql (some .int) false a1 x4 st) λx5=>
 aA x5 (
 upon (bI e k bytes a0 (cW .slice k z a2 st) st) λx6 s1=>
 Q x6 s1) (
 us (ai .add (none) false x4 x2 st) λx7=>
 us (bj .cap a0 st) λx8=>
 us (ai .gtr (none) false x7 x8 st) λx9=>
 aA x9 (
 us (aN k a0 none (some a1) st) λdf=>
 us (ai .add (none) false x4 x2 st) λda=>
 us (ai .sub (none) false da a1 st) λdv=>
 upon (bI e k bytes df (cW .zeros k z dv st) st) λdd s2=>
 us (aN k dd (some a1) none s2) λeu=>
 upon (gw false k eu a2 s2) λef s3=>
 bU (
 us (ai .add (none) false a1 x2 s3) λdO=>
 us (aN k dd (some dO) none s3) λew=>
 us (aN k a0 (some a1) none s3) λeg=>
 upon (gw false k ew eg s3) λeh s4=>
 (True)/\(True)/\
 Q dd s4)) (
 us (ai .add (none) false x4 x2 st) λeB=>
 us (aN k a0 none (some eB) st) λdP=>
 us (ai .add (none) false a1 x2 st) λeV=>
 us (aN k dP (some eV) none st) λfv=>
 C f1 [a2,fv] st λfR s5=>
 us (kF .not fR s5) λgD=>
 aA gD (
 bU (
 us (ai .add (none) false a1 x2 s5) λhO=>
 us (aN k dP (some hO) none s5) λir=>
 us (aN k dP (some a1) none s5) λgL=>
 upon (gw false k ir gL s5) λiQ s6=>
 (True)/\(True)/\
 us (aN k dP (some a1) none s6) λiu=>
 upon (gw false k iu a2 s6) λjH s7=>
 Q dP s7)) (
 us (aN k dP (some x4) none s5) λjh=>
 upon (gw false k jh a2 s5) λjG s8=>
 us (aN k dP (some a1) none s8) λjl=>
 C f2 [jl,x2] s8 λjn s9=>
 Q dP s9)))))
def Vb (C:aW)(a0 a1 a2:CV)(st:St)(Q:CV->St->Prop):aM P0 C (lvs 51) 51 [a0,a1,a2] st Q=L6 C 4 109 48 [(.str []),(.str []),(.int .i64 0),(.int .i64 0)] 102 103 a0 a1 a2 st Q:=by rw[w51];rfl
def O7 (C:aW)(a0 a1 a2:CV)(st:St)(Q:CV->St->Prop):aM P0 C (lvs 144) 144 [a0,a1,a2] st Q=L6 C 1 3 8 [(.int .i64 0)] 181 182 a0 a1 a2 st Q:=by rw[abE];rfl
def Ec {b off len m bs os ls cs gs:Nat}{D:List CV}{gd:Bool}{t:List CV}(hm:m=min ls len)(Gm:0<m)(hc:0<cap)(hs:dD k m (.slice bs os ls cs gs) s=some t)(ho:aU t=true)(hb:s.m.g b=some (.cells D ty gd)){K:CV->St->Prop}{D':List CV}
 (hw:dU D off t=some D'\/(dU D off t=none/\Bj D off t (off+cap*g)=some D')) (hK:K (I m) (St.set s b (.cells D' ty gd))):upon (gw false k (.slice b off len cap g) (.slice bs os ls cs gs) s) K:=by
 unfold gw;have e0:FP (.slice bs os ls cs gs)=some ls:=rfl;simp only[e0,<-hm];have e1:cellsOf false k m (.slice bs os ls cs gs) s=some t:=hs;rw[e1];simp only[aO,aDZ,aDK,aEu,aDW];rw[aDv pX,aDy ⟨ho,.inr hc⟩,hb];rcases hw with h|⟨h1,h2⟩
 .simp only[h];exact hK
 .simp only[h1,h2];exact hK
def wu {b off len:Nat}{gd:Bool}(hb:s.m.g b=some (.cells L ty gd))(hg:g=0\/n<=len)(hn:0<n)(hl:off+n*k<=L.length):dD k n (.slice b off len cap g) s=some ((L.drop off).take (n*k)):=by
 rw[jI,aDv pX,aDy hg,hb];unfold ia;dsimp only;rw[aDy hl]
abbrev R1:=oU P0 lvs I1
def uG {A B:List CV}{off:Nat}(h:A.length=off)(hb:T.length<=B.length):dU (A++B) off T=some (A++(T++B.drop T.length)):=by
 subst h;unfold dU;rw[aDy aby,aEP rfl,<-aFR,aFZ rfl]
def E8 (m k:Nat)(z:List CV)(h:z.length=k):(cJ m z).length=m*k:=by
 unfold cJ;simp[h]
def ade {bytes b:Nat}(hk:0<k)(th:k<=4)(hby:bytes<=48)(hz:z.length=k)(hoz:aU z=true)(hb:s.m.g b=some (.cells L e true))(hv:s.m.g vb=some (.cells T e false))(Ey:b<s.nx)(hvn:vb<s.nx)(hL:L.length=n*k)(hT:T.length=k)(hi:i<n)(hn:n<=1000000)(ho:aU L=true)(HD:aU T=true):
 L6 R1 k e bytes z f1 f2 (.slice b 0 n n 0) (I i) (.slice vb 0 1 1 0) s λx s'=>x=.slice s.nx 0 (n+1) (n+1) k/\s'.nx=s.nx+1/\s'.m.g s.nx=some (.cells (L.take (i*k)++(T++L.drop (i*k))) e true)/\∀q,q≠s.nx->s'.m.g q=s.m.g q:=by
 unfold L6;have e1:bj .slice (.slice vb 0 1 1 0) s=.ok (I ((1:Nat):Int)) s:=rfl;have e2:ai .eql (some .int) true (I ((1:Nat):Int)) (.int .i64 0) s=.ok (.bool false) s:=rfl;have e3:bj .slice (.slice b 0 n n 0) s=.ok (I n) s:=rfl;have e4:ai .eql (some .int) false (I i) (I n) s=.ok (.bool false) s:=R6
 have e5:∀(a c:Nat) s,a<=2000000->c<=2000000->ai .add none false (I a) (I c) s=.ok (I ((a+c:Nat):Int)) s:=λa c s h1 h2=>Sa
 have e6:bj .cap (.slice b 0 n n 0) s=.ok (I n) s:=rfl;have e7:ai .gtr none false (I ((n+1:Nat):Int)) (I n) s=.ok (.bool true) s:=by rw[ay,dx,aDz pX]
 have e8:ai .sub none false (I ((n+1:Nat):Int)) (I i) s=.ok (I ((n+1-i:Nat):Int)) s:=EH
 rw[CS pX (aDt n) (.inl rfl) pX,af,e1,af,e2,af,ag,aDv wI,e3,af,e4,af,ag,aDv wI,e5 n 1 s pX pX,af,e6,af,e7,af,ag,aDy rfl];rw[acb pX (aDt n) (.inl rfl) pX,af,af,e8,af];have Gw:i*k<=n*k:=aEj k pX;have Cc:(n+1)*k=n*k+k:=adq
 have Gx:(i+1)*k=i*k+k:=adq
 have tN:(n-i)*k=n*k-i*k:=Nat.sub_mul _ _ _;have adx:(n+1-i)*k=n*k+k-i*k:=by rw[Nat.sub_mul,Cc]
 have anz:(i+1)*k<=n*k:=aEj k pX
 have Ba:cW .zeros k z (I ((n+1-i:Nat):Int)) s=some (n+1-i,cJ (n+1-i) z):=by
  have e:cW .zeros k z (I ((n+1-i:Nat):Int)) s=bz (Nat.ble (n+1-i) 1099511627776) (some (n+1-i,cJ (n+1-i) z)) none:=rfl;rw[e,aO,aDy aah]
 have hZ:=E8 (n+1-i) k z hz;generalize hZe:cJ (n+1-i) z=Z at Ba hZ
 have PW:bI e k bytes (.slice b 0 i n 0) (some (n+1-i,Z)) s=.ok (.slice s.nx 0 (n+1) (n+1) k) ⟨s.m.put s.nx (some (.cells (L.take (i*k)++Z) e true)),s.nx+1⟩:=by
  unfold bI;have e9:ia L 0 (i*k)=some (L.take (i*k)):=by unfold ia;rw[aDy pX,aDX]
  have Qz:Nat.add i (n+1-i)=n+1:=by show i+(n+1-i)=n+1;omega
  have e11:(n+1)*bytes<=(1000001)*48:=aGf pX hby;simp only[aO,aDZ,dH,Qz,hb,e9,aDK,aDW];rw[aDv pX,aDv pX,aDy ⟨hk,by show(n+1)*bytes<=_;omega,pX⟩,aDy trivial]
 rw[Ba,PW,aT];generalize HA:(⟨s.m.put s.nx (some (.cells (L.take (i*k)++Z) e true)),s.nx+1⟩:St)=s2;have m2:s2.m.g s.nx=some (.cells (L.take (i*k)++Z) e true):=by rw[<-HA];exact PT.dg _ _ _
 have o2:∀q,q≠s.nx->s2.m.g q=s.m.g q:=λq hq=>by rw[<-HA];exact PT.dn _ _ _ _ hq
 have n2:s2.nx=s.nx+1:=by rw[<-HA]
 have hA:(L.take (i*k)).length=i*k:=Ws
 rw[CS pX (aDt (n+1)) (.inr rfl) pX,af];refine Ec (m:=1) (t:=T) pX pX pX ?_ HD m2 (D':=L.take (i*k)++(T++Z.drop k)) (.inl ?_) ?_
 .rw[wu (n:=1) ((o2 vb pX).trans hv) (.inl rfl) pX pX,aDX,aDA pX]
 .rw[aDx,uG hA pX,hT]
 have e16:=e5 i 1 (St.set s2 s.nx (.cells (L.take (i*k)++(T++Z.drop k)) e true)) pX pX;rw[bA,e16,af,CS pX (aDt (n+1)) (.inr rfl) pX,af,CS pX (aDt n) (.inl rfl) pX,af];generalize Vj:St.set s2 s.nx (.cells (L.take (i*k)++(T++Z.drop k)) e true)=s3;have m3:s3.m.g s.nx=some (.cells (L.take (i*k)++(T++Z.drop k)) e true):=by rw[<-Vj];exact aq _ _ _
 have o3:∀q,q≠s.nx->s3.m.g q=s.m.g q:=λq hq=>by rw[<-Vj,al _ _ _ _ hq];exact o2 q hq
 refine Ec (m:=n-i) (t:=L.drop (i*k)) pX pX pX ?_ ?_ m3 (D':=L.take (i*k)++(T++L.drop (i*k))) (.inl ?_) ?_
 .rw[wu (n:=n-i) ((o3 b pX).trans hb) (.inl rfl) pX pX,aDx,aDA WK]
 .unfold aU at ho⊢;rw[aFu]at ho⊢;exact λx hx=>ho x (aEk hx)
 .have hAT:(L.take (i*k)++T).length=0+(i+1)*k:=by rw[aDw,hA,hT];omega
  have hd:List.drop (L.drop (i*k)).length (Z.drop k)=[]:=aEa (by rw[aDO,aDO];omega);rw[<-aDY,uG (T:=L.drop (i*k)) hAT (by rw[aDO,aDO];omega),hd,aEs,aDY]
 refine⟨adu,adu,rfl,?_,aq _ _ _,λq hq=>?_⟩
 .rw[rG,<-Vj,rG,n2]
 .rw[al _ _ _ _ hq];exact o3 q hq
def adb {bytes b:Nat}(kq:∀args s x s',UQ args s=some (.ok x s')->∀Q,Q x s'->R1 f1 args s Q)(hk:0<k)(th:k<=4)(hb:s.m.g b=some (.cells L e true))(hv:s.m.g vb=some (.cells T e false))(gq:b≠vb)(hL:L.length=n*k)(hT:T.length=k)(hi:i<n)(hn:n<=1000000)(ho:aU L=true)(HD:aU T=true):
 L6 R1 k e bytes z f1 f2 (.slice b 0 n (n+1) k) (I i) (.slice vb 0 1 1 0) s λx s'=>x=.slice b 0 (n+1) (n+1) k/\s'.nx=s.nx/\s'.m.g b=some (.cells (L.take (i*k)++(T++L.drop (i*k))) e true)/\∀q,q≠b->s'.m.g q=s.m.g q:=by
 unfold L6;have e1:bj .slice (.slice vb 0 1 1 0) s=.ok (I ((1:Nat):Int)) s:=rfl;have e2:ai .eql (some .int) true (I ((1:Nat):Int)) (.int .i64 0) s=.ok (.bool false) s:=rfl;have e3:bj .slice (.slice b 0 n (n+1) k) s=.ok (I n) s:=rfl;have e4:ai .eql (some .int) false (I i) (I n) s=.ok (.bool false) s:=R6
 have e5:∀(a c:Nat) s,a<=2000000->c<=2000000->ai .add none false (I a) (I c) s=.ok (I ((a+c:Nat):Int)) s:=λa c s h1 h2=>Sa
 have e6:bj .cap (.slice b 0 n (n+1) k) s=.ok (.gS (n+1)) s:=by
  have:bj .cap (.slice b 0 n (n+1) k) s=bz (Nat.beq k 0) (yj .i64 s (n+1)) (.ok (.gS (n+1)) s):=rfl;rw[this,aO,aDv (by rw[aDZ];omega)]
 have e7:ai .gtr none false (I ((n+1:Nat):Int)) (.gS (n+1)) s=.ok (.bool false) s:=by
  have:ai .gtr none false (I ((n+1:Nat):Int)) (.gS (n+1)) s=bz (decide (((n+1:Nat):Int)<((n+1:Nat):Int))) .bad (.ok (.bool false) s):=rfl;rw[this,aO,aDv rq]
 have Gw:i*k<=n*k:=aEj k pX;have Cc:(n+1)*k=n*k+k:=adq
 have Gx:(i+1)*k=i*k+k:=adq
 have tN:(n-i)*k=n*k-i*k:=Nat.sub_mul _ _ _;have adx:(n+1-i)*k=n*k+k-i*k:=by rw[Nat.sub_mul,Cc]
 have asp:(n+1-(i+1))*k=n*k-i*k:=by rw[<-tN];congr 1;omega
 have anz:(i+1)*k<=n*k:=aEj k pX;rw[CS pX pX (.inr rfl) pX,af,e1,af,e2,af,ag,aDv wI,e3,af,e4,af,ag,aDv wI,e5 n 1 s pX pX,af,e6,af,e7,af,ag,aDv wI];rw[af,acb pX pX (.inr rfl) pX,af,e5 i 1 s pX pX,af,CS pX (aDt _) (.inr rfl) pX,af];refine kq _ _ (.bool false) s ?_ _ ?_
 .unfold UQ;simp only[hv,hb];rw[aDy ⟨gq.symm,by have:0<n*k:=Nat.mul_pos pX hk;omega⟩]
 rw[cN,af,ag,aDy (show(!false)=true from rfl),bA,e5 i 1 s pX pX,af,CS pX (aDt _) (.inr rfl) pX,af,CS pX (aDt _) (.inr rfl) pX,af];have hA:(L.take (i*k)).length=i*k:=Ws
 refine Ec (m:=n-i) (t:=L.drop (i*k)) pX pX pX ?_ ?_ hb (D':=L.take ((i+1)*k)++L.drop (i*k)) (.inr ⟨?_,?_⟩) ?_
 .rw[wu (n:=n-i) hb (.inr pX) pX pX,aDx,aDA WK]
 .unfold aU at ho⊢;rw[aFu]at ho⊢;exact λx hx=>ho x (aEk hx)
 .unfold dU;rw[aDv WK]
 .unfold Bj;rw[aDx,aDy ⟨pX,WK,WK⟩]
 generalize Vj:St.set s b (.cells (L.take ((i+1)*k)++L.drop (i*k)) e true)=s3;have m3:s3.m.g b=some (.cells (L.take ((i+1)*k)++L.drop (i*k)) e true):=by rw[<-Vj];exact aq _ _ _
 have o3:∀q,q≠b->s3.m.g q=s.m.g q:=λq hq=>by rw[<-Vj,al _ _ _ _ hq]
 refine⟨adu,adu,?_⟩;rw[CS pX (aDt _) (.inr rfl) pX,af];refine Ec (m:=1) (t:=T) pX pX pX ?_ HD m3 (D':=L.take (i*k)++(T++L.drop (i*k))) (.inl ?_) ?_
 .rw[wu (n:=1) ((o3 vb (λe=>gq e.symm)).trans hv) (.inl rfl) pX pX,aDX,aDA pX]
 .have e:L.take ((i+1)*k)=L.take (i*k)++(L.drop (i*k)).take k:=by rw[Gx,List.take_add]
  rw[e,aDY,aDx,uG hA (by simp only[aDw,aDF,aDO];omega),hT,aFZ (by rw[aDF,aDO];omega)]
 refine⟨rfl,?_,aq _ _ _,λq hq=>?_⟩
 .rw[rG,<-Vj,rG]
 .rw[al _ _ _ _ hq];exact o3 q hq
end
end
section
variable {P:Program} {lvs:Nat->Nat->Option (List Nat)} {I:yc}
def oU.Xs (hm:P.follows .mixedOrders=true)(hI:nH P I){f:Nat}{args:List CV}{st:St}{Q:CV->St->Prop}(hn:I f args st=none)(h:oU P lvs I f args st Q):∃v st',(gR P f=true/\En P f args st v st')/\Q v st':=by
 obtain⟨v,st',⟨N,hN⟩,hq⟩:=h;have h1:=hN (N+1) pX;unfold RF at h1;simp only[AX,hn]at h1;exact⟨v,st',we (ze (nP hm) hI N) (nP hm) h1,hq⟩
end
def aad (f e k:Nat):Prop:=∀(n i b vb:Nat) (L T:List CV) (s:St),s.m.g b=some (.cells L e true)->s.m.g vb=some (.cells T e false)->b<s.nx->vb<s.nx->L.length=n*k->T.length=k->i<n->n<=1000000->aU L=true->aU T=true->
 R1 f [.slice b 0 n n 0,Lim.I i,.slice vb 0 1 1 0] s λx s'=>x=.slice s.nx 0 (n+1) (n+1) k/\s'.nx=s.nx+1/\s'.m.g s.nx=some (.cells (L.take (i*k)++(T++L.drop (i*k))) e true)/\∀q,q≠s.nx->s'.m.g q=s.m.g q
def aac (f e k:Nat):Prop:=∀(n i b vb:Nat) (L T:List CV) (s:St),s.m.g b=some (.cells L e true)->s.m.g vb=some (.cells T e false)->b≠vb->L.length=n*k->T.length=k->i<n->n<=1000000->aU L=true->aU T=true->
 R1 f [.slice b 0 n (n+1) k,Lim.I i,.slice vb 0 1 1 0] s λx s'=>x=.slice b 0 (n+1) (n+1) k/\s'.nx=s.nx/\s'.m.g b=some (.cells (L.take (i*k)++(T++L.drop (i*k))) e true)/\∀q,q≠b->s'.m.g q=s.m.g q
open Classical in
def PT.Ug (b vb q:Nat)(x y:Option qN):((PT.nil.put b x).put vb y).g q=if q=vb then y else if q=b then x else none:=by
 rw[PT.eO,PT.eO,PT.get_nil]
open Classical in
def zN {f e k:Nat}(hm:P0.follows .mixedOrders=true)(hI1:nH P0 I1)(jd:∀args s,I1 f args s=none)(qC:gR P0 f=true)(hA:aad f e k)(hB:aac f e k){args:List CV}{st:St}{v:CV}{st':St}(h:mF e k args st=some (.ok v st')):qM P0 f args st v st':=by
 unfold mF at h
 split at h
 .rename_i b n0 n grow i vb
  split at h
  .rename_i L ty T tv mb mv
   split at h
   .rename_i hc;obtain⟨rfl,rfl,hg,kX,hbv,rfl,rfl,hL,Mc,HD,hT,hn6⟩:=hc;cases h;refine .inl ⟨qC,?_⟩;intro ρ w args' hw ha;obtain⟨s',t',e1,hs,Ez⟩:=ha.inv;obtain⟨i',t2',e2,ff,TX⟩:=Ez.inv;obtain⟨x',t3',e3,A9,ha4⟩:=TX.inv;obtain⟨r,sz,dA,fm,rfl,hr,q1,q2,q3,q4⟩:=hs.eI;obtain⟨rv,szv,awv,aBk,rfl,hrv,_⟩:=A9.eI;have Cc:1<=n:=by omega
    have ho:=q1 pX;subst ho;obtain⟨q5,_⟩:=q4 pX;have si:=hw.fresh b _ hr;have hvl:=hw.fresh vb _ hrv;have Ey:b≠st.nx:=pX
    have Yf:∀q,(St.mk ((PT.nil.put b (st.m.g b)).put vb (st.m.g vb)) st.nx).m.g q=if q=vb then st.m.g vb else if q=b then st.m.g b else none:=λq=>PT.Ug b vb q _ _
    generalize hsd:(St.mk ((PT.nil.put b (st.m.g b)).put vb (st.m.g vb)) st.nx)=sm at Yf;have IS:sm.nx=st.nx:=by rw[<-hsd]
    have smb:sm.m.g b=some (.cells L tv true):=by rw[Yf,aDv hbv,aDy rfl,mb]
    have smv:sm.m.g vb=some (.cells T tv false):=by rw[Yf,aDy rfl,mv]
    have tN:∀q x,ρ q=some x->sm.m.g q=st.m.g q\/sm.m.g q=none:=λq x _=>by
     rw[Yf]
     by_cases e1:q=vb
     .subst e1;rw[aDy rfl];exact .inl rfl
     .rw[aDv e1]
      by_cases e2:q=b
      .subst e2;rw[aDy rfl];exact .inl rfl
      .rw[aDv e2];exact .inr rfl
    have hws:=hw.sub tN IS
    by_cases GC:fm=n
    ·
      subst GC;obtain⟨vA,AJ,⟨_,Xv⟩,rfl,a2,a3,a4⟩:=oU.Xs hm hI1 (jd _ _) (hA fm i b vb L T sm smb smv pX pX hL hT kX hn6 Mc HD);have uh:VR ρ (.slice b 0 fm fm 0) (.slice (some ⟨r,0,none⟩) fm fm):=.slice _ _ _ _ r sz hr;refine(Xv ρ w args' hws (by rw[e1];exact eF.cons uh Ez)).mono ?_;rintro ee w' ⟨v',ρ',rfl,hv,Jh⟩;rw[IS]at hv a2 a3 a4;refine⟨v',ρ',rfl,hv,?_⟩
      have iw:bh ρ st w ρ' ⟨(st.m.put b (AJ.m.g b)).put st.nx (some (.cells (L.take (i*grow)++(T++L.drop (i*grow))) tv true)),st.nx+1⟩ w':=by
       refine bh.frame (s:=sm) hw IS tN Jh a2.symm λq x hx=>?_;show((st.m.put b (AJ.m.g b)).put st.nx _).g q=_\/_;rw[PT.eO,PT.eO]
       by_cases f1:q=st.nx
       .subst f1;rw[aDy rfl];exact .inl a3.symm
       .rw[aDv f1]
        by_cases f2:q=b
        .subst f2;rw[aDy rfl];exact .inl rfl
        .rw[aDv f2]
         by_cases f3:q=vb
         .subst f3;left;rw[a4 q f1,smv,mv]
         .right;refine⟨?_,by rw[Yf,aDv f3,aDv f2],rfl⟩;cases hq:ρ q with
          |some y=>exact⟨y,rfl⟩
          |none=>
           have hlt:=Jh.wr.fresh q x hx;rw[a2]at hlt;have:=Jh.KJ q pX hq;rw[this]at hx;cases hx
      refine(iw.trans (bh.drop iw.wr b)).rE (λq x hx=>?_) rfl;show((st.m.put b none).put st.nx _).g q=(((st.m.put b (AJ.m.g b)).put st.nx _).put b none).g q;rw[PT.eO,PT.eO,PT.eO,PT.eO,PT.eO]
      by_cases f1:q=st.nx
      .subst f1;rw[aDy rfl,aDy rfl,aDv (λe=>Ey e.symm)]
      .rw[aDv f1,aDv f1]
       by_cases f2:q=b
       .rw[aDy f2,aDy f2]
       .rw[aDv f2,aDv f2,aDv f2]
    ·
      obtain⟨vB,stB,⟨_,okB⟩,rfl,b2,b3,b4⟩:=oU.Xs hm hI1 (jd _ _) (hB n i b vb L T sm smb smv hbv hL hT kX hn6 Mc HD);have uh:VR ρ (.slice b 0 n (n+1) grow) (.slice (some ⟨r,0,none⟩) n fm):=.nN _ _ 0 _ _ fm grow r sz hr pX pX pX (λ_=>rfl) (by simpa using q5);refine(okB ρ w args' hws (by rw[e1];exact eF.cons uh Ez)).mono ?_;rintro ee w' ⟨v',ρ',rfl,hv,Jh⟩;have AM:=Jh.ext _ _ hr;obtain⟨r2,sz2,aww,agz,rfl,Cb,p1,p2,p3,p4⟩:=hv.eI;rw[AM]at Cb;cases Cb;have ho2:=p1 pX;subst ho2;obtain⟨p5,_⟩:=p4 pX
      have iw:bh ρ st w ρ' ⟨st.m.put b (stB.m.g b),st.nx⟩ w':=by
       refine bh.frame (s:=sm) hw IS tN Jh (by show st.nx=_;rw[b2,IS]) λq x hx=>?_;show(st.m.put b (stB.m.g b)).g q=_\/_;rw[PT.eO]
       by_cases f2:q=b
       .subst f2;rw[aDy rfl];exact .inl rfl
       .rw[aDv f2]
        by_cases f3:q=vb
        .subst f3;left;rw[b4 q f2,smv,mv]
        .right;refine⟨?_,by rw[Yf,aDv f3,aDv f2],rfl⟩;cases hq:ρ q with
         |some y=>exact⟨y,rfl⟩
         |none=>
          have hlt:=Jh.wr.fresh q x hx;rw[b2,IS]at hlt;have:=Jh.KJ q pX hq;rw[this]at hx;cases hx
      generalize hR:L.take (i*grow)++(T++L.drop (i*grow))=RB at*
      have hmB:(St.mk (st.m.put b (stB.m.g b)) st.nx).m.g b=some (.cells RB tv true):=by
       show(st.m.put b (stB.m.g b)).g b=_;rw[PT.dg,b3]
      obtain⟨o,ho1,ho2⟩:=iw.wr.at' b _ r sz hmB AM
      have hle:ρ'.le (ρ'.set st.nx (r,sz)):=λq x hx=>by
       have:=iw.wr.fresh q x hx;rw[Ren.du _ _ _ _ (λe=>by rw[e]at this;exact absurd this (Nat.lt_irrefl _))];exact hx
      have RL:=BR.mono hle ho2;have hmv:=bh.move iw.wr hmB AM ho1 RL (λ_ _=>rfl) rfl rfl rfl;refine⟨_,ρ'.set st.nx (r,sz),rfl,?_,(iw.trans hmv).rE (λq x hx=>?_) rfl⟩
      .exact .nN _ _ 0 _ _ agz grow r sz (Ren.eA _ _ _) pX (aDt _) (by show n+1<=agz;omega) (λ_=>rfl) (by simpa using p5)
      .show((st.m.put b none).put st.nx _).g q=(((st.m.put b (stB.m.g b)).put b none).put st.nx _).g q;rw[PT.eO,PT.eO,PT.eO,PT.eO,PT.eO]
       by_cases f1:q=st.nx
       .rw[aDy f1,aDy f1]
       .rw[aDv f1,aDv f1]
        by_cases f2:q=b
        .rw[aDy f2,aDy f2]
        .rw[aDv f2,aDv f2,aDv f2]
   .cases h
  .cases h
 .cases h
