import Derived.Test.YtomffjeofpafnaaGreatDoorSndB
import Derived.Test.YtomffjeofpafnaaGreatDoorWa
import Derived.Lib.Overlaps
import Derived.Laws.Externs
namespace Lim
open Go
noncomputable section
set_option linter.defProp false
set_option maxRecDepth 100000
section
variable {k cap g ty:Nat}{s:St}{n:Nat}{L T:List CV}{e f1 f2 i vb:Nat}{z:List CV}
open Classical in
def Wy (args:List CV)(st:St):Option OR:=
 match args with
 |[.slice bx _ _ _ _,.slice by' _ _ _ _]=>(match st.m.g bx,st.m.g by' with
  |some (.cells _ _ false),some (.cells s _ _)=>if bx≠by'/\1<=s.length then some (.ok (.bool false) st)else none
  |_,_=>none)
 |_=>none
def I1:yI:=λf args st=>bH (Nat.beq f 102) (Wy args st) (bH (Nat.beq f 181) (Wy args st) none)
structure aby (P:Program)(f:Nat):Prop where
 out:∃(tS tR e:TypeId) (size:Nat),P.underlying tS=some (.slice e)/\(∀w,(Go.sizeOf e).run P w=.ok size w)/\
  ∀(args:Array Value) (w:World),(callFunc f args).run P w=((Extern.SlicesOverlaps.overlaps #[tS,tS] #[tR] args).run P w).andThen λv w'=>.ok (.value v) w'
section
variable {P:Program} {f:Nat} {st st':St} {v:CV}
def CC (hf:aby P f){args:List CV}(h:Wy args st=some (.ok v st')):rD P f args st v st':=by
 obtain⟨tS,tR,e,size,h1,h2,h3⟩:=hf.out;unfold Wy at h
 split at h
 .rename_i bx ox lx cx gx by' oy ly cy gy
  split at h
  .rename_i s1 t1 s2 t2 g2 m1 m2
   split at h
   .rename_i hc;cases h;refine .inr ⟨rfl,λρ w args' hw ha=>?_⟩;obtain⟨x',t',e1,hx,Fj⟩:=ha.inv;obtain⟨y',t2',e2,hy,VB⟩:=Fj.inv;have e3:t2'=[]:=by have:=VB.len;simpa using this.symm
    subst e3;subst e2;have e4:args'= #[x',y']:=acG
    subst e4;obtain⟨r1,z1,o1,k1,rfl,hr1,_⟩:=hx.eW;obtain⟨r2,z2,o2,k2,rfl,Fe,_⟩:=hy.eW;obtain⟨c1,lo1,Hi,a1,a2,a3,a4,a5⟩:=hw.row m1 hr1;obtain⟨c2,JG,yz,b1,b2,b3,b4,b5⟩:=hw.row m2 Fe;have hfz:=hw.YD m1 hr1 a1 rfl;have hrr:r1≠r2:=λe=>hc.1 (hw.inj bx by' _ _ r1 z1 z2 m1 m2 hr1 (by rw[e];exact Fe));have hs:=hc.2;refine⟨.bool false,?_,.bool false⟩
    rw[h3,Lib.run_overlaps_apart w tS tR e h1 size h2 ⟨r1,o1,none⟩ ⟨r2,o2,none⟩ lx k1 ly k2 hrr t1 t2 c1.size c2.size (by simp[World.shape?,a1]) (by simp[World.shape?,b1]) qE
     (by simp only[World.frozen?,a1];have:=hfz o1;simp;omega) (by simp only[World.frozen?,a1];have:=hfz c1.size;simp;omega)]
    rfl
   .cases h
  .cases h
 .cases h
end
section
variable {st:St}
def DJ {b off len l:Nat}(h:l<=len)(hc:len<=cap)(hg:g=0\/g=k)(hlt:l<cap)(s:St):aQ k (.slice b off len cap g) (some (I l)) none s=.ok (.slice b (off+l*k) (len-l) (cap-l) g) s:=by
 unfold aQ;have e:nI (some (I l)) none len cap=some (l,len):=by rw[xd,aEW h]
 simp only[aP,aFs,e,dI,aFl,aFw,aFO];rw[aEW hc,aET qE,aEW hg]
 rfl
def adG {b off len h:Nat}(hh:h<=cap)(hc:len<=cap)(hg:g=0\/g=k)(hlt:0<cap)(s:St):aQ k (.slice b off len cap g) none (some (I h)) s=.ok (.slice b off h cap g) s:=by
 unfold aQ;have e:nI none (some (I h)) len cap=some (0,h):=by rw[tZ,aEW hh]
 simp only[aP,aFs,e,dI,aFl,aFw,aFO];rw[aEW hc,aET qE,aEW hg];simp
def Nd (C:aY)(k e bytes:Nat)(z:List CV)(f1 f2:Nat)(a0 a1 a2:CV)(st:St)(Q:CV->St->Prop):Prop:=
 (us (aQ k a0 (some a1) none st) λx1=>
 us (bo .slice a2 st) λx2=>
 us (ai .eql (some .int) true x2 (.int .i64 0) st) λx3=>
 aD x3 (
 Q a0 st) (
 us (bo .slice a0 st) λx4=>
 us (ai .eql (some .int) false a1 x4 st) λx5=>
 aD x5 (
 upon (bT e k bytes a0 (de .slice k z a2 st) st) λx6 s1=>
 Q x6 s1) (
 us (ai .add (none) false x4 x2 st) λx7=>
 us (bo .cap a0 st) λx8=>
 us (ai .gtr (none) false x7 x8 st) λx9=>
 aD x9 (
 us (aQ k a0 none (some a1) st) λdd=>
 us (ai .add (none) false x4 x2 st) λdm=>
 us (ai .sub (none) false dm a1 st) λdw=>
 upon (bT e k bytes dd (de .zeros k z dw st) st) λdj s2=>
 us (aQ k dj (some a1) none s2) λew=>
 upon (gJ false k ew a2 s2) λeP s3=>
 bX (
 us (ai .add (none) false a1 x2 s3) λeI=>
 us (aQ k dj (some eI) none s3) λeV=>
 us (aQ k a0 (some a1) none s3) λeg=>
 upon (gJ false k eV eg s3) λef s4=>
 (True)/\(True)/\
 Q dj s4)) (
 us (ai .add (none) false x4 x2 st) λeF=>
 us (aQ k a0 none (some eF) st) λdQ=>
 us (ai .add (none) false a1 x2 st) λeX=>
 us (aQ k dQ (some eX) none st) λfv=>
 C f1 [a2,fv] st λfM s5=>
 us (kY .not fM s5) λgu=>
 aD gu (
 bX (
 us (ai .add (none) false a1 x2 s5) λgW=>
 us (aQ k dQ (some gW) none s5) λiI=>
 us (aQ k dQ (some a1) none s5) λgO=>
 upon (gJ false k iI gO s5) λiZ s6=>
 (True)/\(True)/\
 us (aQ k dQ (some a1) none s6) λiH=>
 upon (gJ false k iH a2 s6) λjn s7=>
 Q dQ s7)) (
 us (aQ k dQ (some x4) none s5) λiK=>
 upon (gJ false k iK a2 s5) λju s8=>
 us (aQ k dQ (some a1) none s8) λiJ=>
 C f2 [iJ,x2] s8 λjt s9=>
 Q dQ s9)))))
def WX (C:aY)(a0 a1 a2:CV)(st:St)(Q:CV->St->Prop):aO P0 C (lvs 51) 51 [a0,a1,a2] st Q=Nd C 4 109 48 [(.str []),(.str []),(.int .i64 0),(.int .i64 0)] 102 103 a0 a1 a2 st Q:=by rw[w51];rfl
def QJ (C:aY)(a0 a1 a2:CV)(st:St)(Q:CV->St->Prop):aO P0 C (lvs 144) 144 [a0,a1,a2] st Q=Nd C 1 3 8 [(.int .i64 0)] 181 182 a0 a1 a2 st Q:=by rw[adj];rfl
def EW {b off len m bs os ls cs gs:Nat}{D:List CV}{gd:Bool}{t:List CV}(hm:m=min ls len)(No:0<m)(hc:0<cap)(hs:dN k m (.slice bs os ls cs gs) s=some t)(ho:bj t=true)(hb:s.m.g b=some (.cells D ty gd)){K:CV->St->Prop}{D':List CV}
 (hw:dY D off t=some D'\/(dY D off t=none/\B0 D off t (off+cap*g)=some D')) (hK:K (I m) (St.set s b (.cells D' ty gd))):upon (gJ false k (.slice b off len cap g) (.slice bs os ls cs gs) s) K:=by
 unfold gJ;have e0:GH (.slice bs os ls cs gs)=some ls:=rfl;simp only[e0,<-hm];have e1:cellsOf false k m (.slice bs os ls cs gs) s=some t:=hs;rw[e1];simp only[aP,aFw,aFl,aFO,aFs];rw[aET qE,aEW ⟨ho,.inr hc⟩,hb];rcases hw with h|⟨h1,h2⟩
 .simp only[h];exact hK
 .simp only[h1,h2];exact hK
def w7 {b off len:Nat}{gd:Bool}(hb:s.m.g b=some (.cells L ty gd))(hg:g=0\/n<=len)(hn:0<n)(hl:off+n*k<=L.length):dN k n (.slice b off len cap g) s=some ((L.drop off).take (n*k)):=by
 rw[lZ,aET qE,aEW hg,hb];unfold gV;dsimp only;rw[aEW hl]
abbrev R1:=pB P0 lvs I1
def vt {A B:List CV}{off:Nat}(h:A.length=off)(hb:T.length<=B.length):dY (A++B) off T=some (A++(T++B.drop T.length)):=by
 subst h;unfold dY;rw[aEW aee,aGj rfl,<-aHn,aHx rfl]
def Ga (m k:Nat)(z:List CV)(h:z.length=k):(cM m z).length=m*k:=by
 unfold cM;simp[h]
def aeA {bytes b:Nat}(hk:0<k)(rQ:k<=4)(hby:bytes<=48)(hz:z.length=k)(hoz:bj z=true)(hb:s.m.g b=some (.cells L e true))(hv:s.m.g vb=some (.cells T e false))(Hm:b<s.nx)(hvn:vb<s.nx)(hL:L.length=n*k)(hT:T.length=k)(hi:i<n)(hn:n<=1000000)(ho:bj L=true)(Iq:bj T=true):
 Nd R1 k e bytes z f1 f2 (.slice b 0 n n 0) (I i) (.slice vb 0 1 1 0) s λx s'=>x=.slice s.nx 0 (n+1) (n+1) k/\s'.nx=s.nx+1/\s'.m.g s.nx=some (.cells (L.take (i*k)++(T++L.drop (i*k))) e true)/\∀q,q≠s.nx->s'.m.g q=s.m.g q:=by
 unfold Nd;have e1:bo .slice (.slice vb 0 1 1 0) s=.ok (I ((1:Nat):Int)) s:=rfl;have e2:ai .eql (some .int) true (I ((1:Nat):Int)) (.int .i64 0) s=.ok (.bool false) s:=rfl;have e3:bo .slice (.slice b 0 n n 0) s=.ok (I n) s:=rfl;have e4:ai .eql (some .int) false (I i) (I n) s=.ok (.bool false) s:=Ft
 have e5:∀(a c:Nat) s,a<=2000000->c<=2000000->ai .add none false (I a) (I c) s=.ok (I ((a+c:Nat):Int)) s:=λa c s h1 h2=>Oh
 have e6:bo .cap (.slice b 0 n n 0) s=.ok (I n) s:=rfl;have e7:ai .gtr none false (I ((n+1:Nat):Int)) (I n) s=.ok (.bool true) s:=acF
 have e8:ai .sub none false (I ((n+1:Nat):Int)) (I i) s=.ok (I ((n+1-i:Nat):Int)) s:=Bw
 rw[DJ qE (aEQ n) (.inl rfl) qE,af,e1,af,e2,af,ag,aET u7,e3,af,e4,af,ag,aET u7,e5 n 1 s qE qE,af,e6,af,e7,af,ag,aEW rfl];rw[adG qE (aEQ n) (.inl rfl) qE,af,af,e8,af];have Hh:i*k<=n*k:=aFH k qE;have BU:(n+1)*k=n*k+k:=aeh
 have Hi:(i+1)*k=i*k+k:=aeh
 have ur:(n-i)*k=n*k-i*k:=Nat.sub_mul _ _ _;have aeX:(n+1-i)*k=n*k+k-i*k:=by rw[Nat.sub_mul,BU]
 have aoN:(i+1)*k<=n*k:=aFH k qE
 have BP:de .zeros k z (I ((n+1-i:Nat):Int)) s=some (n+1-i,cM (n+1-i) z):=by
  have e:de .zeros k z (I ((n+1-i:Nat):Int)) s=bH (Nat.ble (n+1-i) 1099511627776) (some (n+1-i,cM (n+1-i) z)) none:=rfl;rw[e,aP,aEW abG]
 have hZ:=Ga (n+1-i) k z hz;generalize hZe:cM (n+1-i) z=Z at BP hZ
 have RE:bT e k bytes (.slice b 0 i n 0) (some (n+1-i,Z)) s=.ok (.slice s.nx 0 (n+1) (n+1) k) ⟨s.m.put s.nx (some (.cells (L.take (i*k)++Z) e true)),s.nx+1⟩:=by
  unfold bT;have e9:gV L 0 (i*k)=some (L.take (i*k)):=by unfold gV;rw[aEW qE,aFr]
  have Sm:Nat.add i (n+1-i)=n+1:=by show i+(n+1-i)=n+1;omega
  have e11:(n+1)*bytes<=(1000001)*48:=aHC qE hby;simp only[aP,aFw,dI,Sm,hb,e9,aFl,aFs];rw[aET qE,aET qE,aEW ⟨hk,by show(n+1)*bytes<=_;omega,qE⟩,aEW trivial]
 rw[BP,RE,aS];generalize Ou:(⟨s.m.put s.nx (some (.cells (L.take (i*k)++Z) e true)),s.nx+1⟩:St)=s2;have m2:s2.m.g s.nx=some (.cells (L.take (i*k)++Z) e true):=by rw[<-Ou];exact PT.dn _ _ _
 have o2:∀q,q≠s.nx->s2.m.g q=s.m.g q:=λq hq=>by rw[<-Ou];exact PT.dv _ _ _ _ hq
 have n2:s2.nx=s.nx+1:=by rw[<-Ou]
 have hA:(L.take (i*k)).length=i*k:=O0
 rw[DJ qE (aEQ (n+1)) (.inr rfl) qE,af];refine EW (m:=1) (t:=T) qE qE qE ?_ Iq m2 (D':=L.take (i*k)++(T++Z.drop k)) (.inl ?_) ?_
 .rw[w7 (n:=1) ((o2 vb qE).trans hv) (.inl rfl) qE qE,aFr,aEX qE]
 .rw[aER,vt hA qE,hT]
 have e16:=e5 i 1 (St.set s2 s.nx (.cells (L.take (i*k)++(T++Z.drop k)) e true)) qE qE;rw[bG,e16,af,DJ qE (aEQ (n+1)) (.inr rfl) qE,af,DJ qE (aEQ n) (.inl rfl) qE,af];generalize Xe:St.set s2 s.nx (.cells (L.take (i*k)++(T++Z.drop k)) e true)=s3;have m3:s3.m.g s.nx=some (.cells (L.take (i*k)++(T++Z.drop k)) e true):=by rw[<-Xe];exact ar _ _ _
 have o3:∀q,q≠s.nx->s3.m.g q=s.m.g q:=λq hq=>by rw[<-Xe,al _ _ _ _ hq];exact o2 q hq
 refine EW (m:=n-i) (t:=L.drop (i*k)) qE qE qE ?_ ?_ m3 (D':=L.take (i*k)++(T++L.drop (i*k))) (.inl ?_) ?_
 .rw[w7 (n:=n-i) ((o3 b qE).trans hb) (.inl rfl) qE qE,aER,aEX Pc]
 .unfold bj at ho⊢;rw[List.all_eq_true]at ho⊢;exact λx hx=>ho x (aFF hx)
 .have hAT:(L.take (i*k)++T).length=0+(i+1)*k:=by rw[aEU,hA,hT];omega
  have hd:List.drop (L.drop (i*k)).length (Z.drop k)=[]:=aFu (by rw[aFn,aFn];omega);rw[<-aFx,vt (T:=L.drop (i*k)) hAT (by rw[aFn,aFn];omega),hd,aFN,aFx]
 refine⟨aer,aer,rfl,?_,ar _ _ _,λq hq=>?_⟩
 .rw[sD,<-Xe,sD,n2]
 .rw[al _ _ _ _ hq];exact o3 q hq
def aez {bytes b:Nat}(kP:∀args s x s',Wy args s=some (.ok x s')->∀Q,Q x s'->R1 f1 args s Q)(hk:0<k)(rQ:k<=4)(hb:s.m.g b=some (.cells L e true))(hv:s.m.g vb=some (.cells T e false))(ij:b≠vb)(hL:L.length=n*k)(hT:T.length=k)(hi:i<n)(hn:n<=1000000)(ho:bj L=true)(Iq:bj T=true):
 Nd R1 k e bytes z f1 f2 (.slice b 0 n (n+1) k) (I i) (.slice vb 0 1 1 0) s λx s'=>x=.slice b 0 (n+1) (n+1) k/\s'.nx=s.nx/\s'.m.g b=some (.cells (L.take (i*k)++(T++L.drop (i*k))) e true)/\∀q,q≠b->s'.m.g q=s.m.g q:=by
 unfold Nd;have e1:bo .slice (.slice vb 0 1 1 0) s=.ok (I ((1:Nat):Int)) s:=rfl;have e2:ai .eql (some .int) true (I ((1:Nat):Int)) (.int .i64 0) s=.ok (.bool false) s:=rfl;have e3:bo .slice (.slice b 0 n (n+1) k) s=.ok (I n) s:=rfl;have e4:ai .eql (some .int) false (I i) (I n) s=.ok (.bool false) s:=Ft
 have e5:∀(a c:Nat) s,a<=2000000->c<=2000000->ai .add none false (I a) (I c) s=.ok (I ((a+c:Nat):Int)) s:=λa c s h1 h2=>Oh
 have e6:bo .cap (.slice b 0 n (n+1) k) s=.ok (.ib (n+1)) s:=by
  have:bo .cap (.slice b 0 n (n+1) k) s=bH (Nat.beq k 0) (yQ .i64 s (n+1)) (.ok (.ib (n+1)) s):=rfl;rw[this,aP,aET (by rw[aFw];omega)]
 have e7:ai .gtr none false (I ((n+1:Nat):Int)) (.ib (n+1)) s=.ok (.bool false) s:=by
  have:ai .gtr none false (I ((n+1:Nat):Int)) (.ib (n+1)) s=bH (decide (((n+1:Nat):Int)<((n+1:Nat):Int))) .bad (.ok (.bool false) s):=rfl;rw[this,aP,aET uG]
 have Hh:i*k<=n*k:=aFH k qE;have BU:(n+1)*k=n*k+k:=aeh
 have Hi:(i+1)*k=i*k+k:=aeh
 have ur:(n-i)*k=n*k-i*k:=Nat.sub_mul _ _ _;have aeX:(n+1-i)*k=n*k+k-i*k:=by rw[Nat.sub_mul,BU]
 have atH:(n+1-(i+1))*k=n*k-i*k:=by rw[<-ur];congr 1;omega
 have aoN:(i+1)*k<=n*k:=aFH k qE;rw[DJ qE qE (.inr rfl) qE,af,e1,af,e2,af,ag,aET u7,e3,af,e4,af,ag,aET u7,e5 n 1 s qE qE,af,e6,af,e7,af,ag,aET u7];rw[af,adG qE qE (.inr rfl) qE,af,e5 i 1 s qE qE,af,DJ qE (aEQ _) (.inr rfl) qE,af];refine kP _ _ (.bool false) s ?_ _ ?_
 .unfold Wy;simp only[hv,hb];rw[aEW ⟨ij.symm,by have:0<n*k:=Nat.mul_pos qE hk;omega⟩]
 rw[cU,af,ag,aEW (show(!false)=true from rfl),bG,e5 i 1 s qE qE,af,DJ qE (aEQ _) (.inr rfl) qE,af,DJ qE (aEQ _) (.inr rfl) qE,af];have hA:(L.take (i*k)).length=i*k:=O0
 refine EW (m:=n-i) (t:=L.drop (i*k)) qE qE qE ?_ ?_ hb (D':=L.take ((i+1)*k)++L.drop (i*k)) (.inr ⟨?_,?_⟩) ?_
 .rw[w7 (n:=n-i) hb (.inr qE) qE qE,aER,aEX Pc]
 .unfold bj at ho⊢;rw[List.all_eq_true]at ho⊢;exact λx hx=>ho x (aFF hx)
 .unfold dY;rw[aET Pc]
 .unfold B0;rw[aER,aEW ⟨qE,Pc,Pc⟩]
 generalize Xe:St.set s b (.cells (L.take ((i+1)*k)++L.drop (i*k)) e true)=s3;have m3:s3.m.g b=some (.cells (L.take ((i+1)*k)++L.drop (i*k)) e true):=by rw[<-Xe];exact ar _ _ _
 have o3:∀q,q≠b->s3.m.g q=s.m.g q:=λq hq=>by rw[<-Xe,al _ _ _ _ hq]
 refine⟨aer,aer,?_⟩;rw[DJ qE (aEQ _) (.inr rfl) qE,af];refine EW (m:=1) (t:=T) qE qE qE ?_ Iq m3 (D':=L.take (i*k)++(T++L.drop (i*k))) (.inl ?_) ?_
 .rw[w7 (n:=1) ((o3 vb (λe=>ij e.symm)).trans hv) (.inl rfl) qE qE,aFr,aEX qE]
 .have e:L.take ((i+1)*k)=L.take (i*k)++(L.drop (i*k)).take k:=by rw[Hi,List.take_add]
  rw[e,aFx,aER,vt hA (by simp only[aEU,aFc,aFn];omega),hT,aHx (by rw[aFc,aFn];omega)]
 refine⟨rfl,?_,ar _ _ _,λq hq=>?_⟩
 .rw[sD,<-Xe,sD]
 .rw[al _ _ _ _ hq];exact o3 q hq
end
end
section
variable {P:Program} {lvs:Nat->Nat->Option (List Nat)} {I:yI}
def pB.YL (hm:P.follows .mixedOrders=true)(hI:nN P I){f:Nat}{args:List CV}{st:St}{Q:CV->St->Prop}(hn:I f args st=none)(h:pB P lvs I f args st Q):∃v st',(ia P f=true/\E9 P f args st v st')/\Q v st':=by
 obtain⟨v,st',⟨N,hN⟩,hq⟩:=h;have h1:=hN (N+1) qE;unfold RF at h1;simp only[BC,hn]at h1;exact⟨v,st',wU (zT (nW hm) hI N) (nW hm) h1,hq⟩
end
def abC (f e k:Nat):Prop:=∀(n i b vb:Nat) (L T:List CV) (s:St),s.m.g b=some (.cells L e true)->s.m.g vb=some (.cells T e false)->b<s.nx->vb<s.nx->L.length=n*k->T.length=k->i<n->n<=1000000->bj L=true->bj T=true->
 R1 f [.slice b 0 n n 0,Lim.I i,.slice vb 0 1 1 0] s λx s'=>x=.slice s.nx 0 (n+1) (n+1) k/\s'.nx=s.nx+1/\s'.m.g s.nx=some (.cells (L.take (i*k)++(T++L.drop (i*k))) e true)/\∀q,q≠s.nx->s'.m.g q=s.m.g q
def abB (f e k:Nat):Prop:=∀(n i b vb:Nat) (L T:List CV) (s:St),s.m.g b=some (.cells L e true)->s.m.g vb=some (.cells T e false)->b≠vb->L.length=n*k->T.length=k->i<n->n<=1000000->bj L=true->bj T=true->
 R1 f [.slice b 0 n (n+1) k,Lim.I i,.slice vb 0 1 1 0] s λx s'=>x=.slice b 0 (n+1) (n+1) k/\s'.nx=s.nx/\s'.m.g b=some (.cells (L.take (i*k)++(T++L.drop (i*k))) e true)/\∀q,q≠b->s'.m.g q=s.m.g q
open Classical in
def PT.VH (b vb q:Nat)(x y:Option qB):((PT.nil.put b x).put vb y).g q=if q=vb then y else if q=b then x else none:=by
 rw[PT.eZ,PT.eZ,PT.get_nil]
open Classical in
def Az {f e k:Nat}(hm:P0.follows .mixedOrders=true)(hI1:nN P0 I1)(jx:∀args s,I1 f args s=none)(oO:ia P0 f=true)(hA:abC f e k)(hB:abB f e k){args:List CV}{st:St}{v:CV}{st':St}(h:mJ e k args st=some (.ok v st')):rD P0 f args st v st':=by
 unfold mJ at h
 split at h
 .rename_i b n0 n grow i vb
  split at h
  .rename_i L ty T tv mb mv
   split at h
   .rename_i hc;obtain⟨rfl,rfl,hg,jB,hbv,rfl,rfl,hL,Nk,Iq,hT,hn6⟩:=hc;cases h;refine .inl ⟨oO,?_⟩;intro ρ w args' hw ha;obtain⟨s',t',e1,hs,Fj⟩:=ha.inv;obtain⟨i',t2',e2,fk,VB⟩:=Fj.inv;obtain⟨x',t3',e3,BN,ha4⟩:=VB.inv;obtain⟨r,sz,dE,fy,rfl,hr,q1,q2,q3,q4⟩:=hs.eW;obtain⟨rv,szv,axM,aCC,rfl,hrv,_⟩:=BN.eW;have BU:1<=n:=by omega
    have ho:=q1 qE;subst ho;obtain⟨q5,_⟩:=q4 qE;have uy:=hw.fresh b _ hr;have hvl:=hw.fresh vb _ hrv;have Hm:b≠st.nx:=qE
    have Ey:∀q,(St.mk ((PT.nil.put b (st.m.g b)).put vb (st.m.g vb)) st.nx).m.g q=if q=vb then st.m.g vb else if q=b then st.m.g b else none:=λq=>PT.VH b vb q _ _
    generalize hsd:(St.mk ((PT.nil.put b (st.m.g b)).put vb (st.m.g vb)) st.nx)=sm at Ey;have JM:sm.nx=st.nx:=by rw[<-hsd]
    have smb:sm.m.g b=some (.cells L tv true):=by rw[Ey,aET hbv,aEW rfl,mb]
    have smv:sm.m.g vb=some (.cells T tv false):=by rw[Ey,aEW rfl,mv]
    have ur:∀q x,ρ q=some x->sm.m.g q=st.m.g q\/sm.m.g q=none:=λq x _=>by
     rw[Ey]
     by_cases e1:q=vb
     .subst e1;rw[aEW rfl];exact .inl rfl
     .rw[aET e1]
      by_cases e2:q=b
      .subst e2;rw[aEW rfl];exact .inl rfl
      .rw[aET e2];exact .inr rfl
    have hws:=hw.sub ur JM
    by_cases Hk:fy=n
    ·
      subst Hk;obtain⟨vA,Bo,⟨_,Ol⟩,rfl,a2,a3,a4⟩:=pB.YL hm hI1 (jx _ _) (hA fy i b vb L T sm smb smv qE qE hL hT jB hn6 Nk Iq);have vG:VR ρ (.slice b 0 fy fy 0) (.slice (some ⟨r,0,none⟩) fy fy):=.slice _ _ _ _ r sz hr;refine(Ol ρ w args' hws (by rw[e1];exact eK.cons vG Fj)).mono ?_;rintro ee w' ⟨v',ρ',rfl,hv,Kc⟩;rw[JM]at hv a2 a3 a4;refine⟨v',ρ',rfl,hv,?_⟩
      have j0:br ρ st w ρ' ⟨(st.m.put b (Bo.m.g b)).put st.nx (some (.cells (L.take (i*grow)++(T++L.drop (i*grow))) tv true)),st.nx+1⟩ w':=by
       refine br.frame (s:=sm) hw JM ur Kc a2.symm λq x hx=>?_;show((st.m.put b (Bo.m.g b)).put st.nx _).g q=_\/_;rw[PT.eZ,PT.eZ]
       by_cases f1:q=st.nx
       .subst f1;rw[aEW rfl];exact .inl a3.symm
       .rw[aET f1]
        by_cases f2:q=b
        .subst f2;rw[aEW rfl];exact .inl rfl
        .rw[aET f2]
         by_cases f3:q=vb
         .subst f3;left;rw[a4 q f1,smv,mv]
         .right;refine⟨?_,by rw[Ey,aET f3,aET f2],rfl⟩;cases hq:ρ q with
          |some y=>exact⟨y,rfl⟩
          |none=>
           have hlt:=Kc.wr.fresh q x hx;rw[a2]at hlt;have:=Kc.L0 q qE hq;rw[this]at hx;cases hx
      refine(j0.trans (br.drop j0.wr b)).sy (λq x hx=>?_) rfl;show((st.m.put b none).put st.nx _).g q=(((st.m.put b (Bo.m.g b)).put st.nx _).put b none).g q;rw[PT.eZ,PT.eZ,PT.eZ,PT.eZ,PT.eZ]
      by_cases f1:q=st.nx
      .subst f1;rw[aEW rfl,aEW rfl,aET (λe=>Hm e.symm)]
      .rw[aET f1,aET f1]
       by_cases f2:q=b
       .rw[aEW f2,aEW f2]
       .rw[aET f2,aET f2,aET f2]
    ·
      obtain⟨vB,stB,⟨_,okB⟩,rfl,b2,b3,b4⟩:=pB.YL hm hI1 (jx _ _) (hB n i b vb L T sm smb smv hbv hL hT jB hn6 Nk Iq);have vG:VR ρ (.slice b 0 n (n+1) grow) (.slice (some ⟨r,0,none⟩) n fy):=.nU _ _ 0 _ _ fy grow r sz hr qE qE qE (λ_=>rfl) (by simpa using q5);refine(okB ρ w args' hws (by rw[e1];exact eK.cons vG Fj)).mono ?_;rintro ee w' ⟨v',ρ',rfl,hv,Kc⟩;have zp:=Kc.ext _ _ hr;obtain⟨r2,sz2,axN,ahS,rfl,Fe,p1,p2,p3,p4⟩:=hv.eW;rw[zp]at Fe;cases Fe;have ho2:=p1 qE;subst ho2;obtain⟨p5,_⟩:=p4 qE
      have j0:br ρ st w ρ' ⟨st.m.put b (stB.m.g b),st.nx⟩ w':=by
       refine br.frame (s:=sm) hw JM ur Kc (by show st.nx=_;rw[b2,JM]) λq x hx=>?_;show(st.m.put b (stB.m.g b)).g q=_\/_;rw[PT.eZ]
       by_cases f2:q=b
       .subst f2;rw[aEW rfl];exact .inl rfl
       .rw[aET f2]
        by_cases f3:q=vb
        .subst f3;left;rw[b4 q f2,smv,mv]
        .right;refine⟨?_,by rw[Ey,aET f3,aET f2],rfl⟩;cases hq:ρ q with
         |some y=>exact⟨y,rfl⟩
         |none=>
          have hlt:=Kc.wr.fresh q x hx;rw[b2,JM]at hlt;have:=Kc.L0 q qE hq;rw[this]at hx;cases hx
      generalize hR:L.take (i*grow)++(T++L.drop (i*grow))=RB at*
      have hmB:(St.mk (st.m.put b (stB.m.g b)) st.nx).m.g b=some (.cells RB tv true):=by
       show(st.m.put b (stB.m.g b)).g b=_;rw[PT.dn,b3]
      obtain⟨o,ho1,ho2⟩:=j0.wr.at' b _ r sz hmB zp
      have hle:ρ'.le (ρ'.set st.nx (r,sz)):=λq x hx=>by
       have:=j0.wr.fresh q x hx;rw[Ren.dA _ _ _ _ (λe=>by rw[e]at this;exact absurd this (Nat.lt_irrefl _))];exact hx
      have TF:=BR.mono hle ho2;have hmv:=br.move j0.wr hmB zp ho1 TF (λ_ _=>rfl) rfl rfl rfl;refine⟨_,ρ'.set st.nx (r,sz),rfl,?_,(j0.trans hmv).sy (λq x hx=>?_) rfl⟩
      .exact .nU _ _ 0 _ _ ahS grow r sz (Ren.eN _ _ _) qE (aEQ _) (by show n+1<=ahS;omega) (λ_=>rfl) (by simpa using p5)
      .show((st.m.put b none).put st.nx _).g q=(((st.m.put b (stB.m.g b)).put b none).put st.nx _).g q;rw[PT.eZ,PT.eZ,PT.eZ,PT.eZ,PT.eZ]
       by_cases f1:q=st.nx
       .rw[aEW f1,aEW f1]
       .rw[aET f1,aET f1]
        by_cases f2:q=b
        .rw[aEW f2,aEW f2]
        .rw[aET f2,aET f2,aET f2]
   .cases h
  .cases h
 .cases h
