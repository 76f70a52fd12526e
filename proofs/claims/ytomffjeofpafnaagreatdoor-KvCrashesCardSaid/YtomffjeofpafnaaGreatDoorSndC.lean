import Derived.Test.YtomffjeofpafnaaGreatDoorSndB
import Derived.Test.YtomffjeofpafnaaGreatDoorWa
import Derived.Lib.Overlaps
import Derived.Laws.Externs
namespace Lim
open Go
noncomputable section
set_option linter.defProp false
set_option maxRecDepth 100000
section
variable {k cap g ty:Nat}{s:St}{n:Nat}{L T:List CV}{e f1 f2 i vb:Nat}{z:List CV}
open Classical in
def WG (args:List CV)(st:St):Option OR:=
 match args with
 |[.slice bx _ _ _ _,.slice a _ _ _ _]=>(match st.m.g bx,st.m.g a with
  |some (.cells _ _ false),some (.cells s _ _)=>if bx≠a/\1<=s.length then some (.ok (.bool false) st)else none
  |_,_=>none)
 |_=>none
def I1:zd:=λf args st=>bE (Nat.beq f 102) (WG args st) (bE (Nat.beq f 181) (WG args st) none)
structure abS (P:Program)(f:Nat):Prop where
 out:∃(tS tR e:TypeId) (size:Nat),P.underlying tS=some (.slice e)/\(∀w,(Go.sizeOf e).run P w=.ok size w)/\
  ∀(args:Array Value) (w:World),(callFunc f args).run P w=((Extern.SlicesOverlaps.overlaps #[tS,tS] #[tR] args).run P w).andThen λv w'=>.ok (.value v) w'
section
variable {P:Program} {f:Nat} {st st':St} {v:CV}
def Dc (O:abS P f){args:List CV}(h:WG args st=some (.ok v st')):uw P f args st v st':=by
 obtain⟨D,E,e,size,U,S,R⟩:=O.out;unfold WG at h
 split at h
 .rename_i bx ox H cx gx p oy G cy gy
  split at h
  .rename_i s1 t1 s2 t2 g2 m u
   split at h
   .rename_i hc;cases h;refine .inr ⟨rfl,λρ w args' c Q=>?_⟩;obtain⟨C,t',e1,N,FZ⟩:=Q.inv;obtain⟨y',j,X,M,VH⟩:=FZ.inv;have W:j=[]:=by have:=VH.len;simpa using this.symm
    subst W;subst X;have V:args'= #[C,y']:=adt
    subst V;obtain⟨l,B,r,K,rfl,a,_⟩:=N.eO;obtain⟨q,A,F,J,rfl,y,_⟩:=M.eO;obtain⟨x,I,HT,d,a2,a3,a4,a5⟩:=c.row m a;obtain⟨Y,Ka,yV,Z,b2,b3,b4,b5⟩:=c.row u y;have b:=c.YJ m a d rfl;have o:l≠q:=λe=>hc.1 (c.inj bx p _ _ l B A m u a (by rw[e];exact y));have hs:=hc.2;refine⟨.bool false,?_,.bool false⟩
    rw[R,Lib.run_overlaps_apart w D E e U size S ⟨l,r,none⟩ ⟨q,F,none⟩ H K G J o t1 t2 x.size Y.size (by simp[World.shape?,d]) (by simp[World.shape?,Z]) uM
     (by simp only[World.frozen?,d];have:=b r;simp;omega) (by simp only[World.frozen?,d];have:=b x.size;simp;omega)]
    rfl
   .cases h
  .cases h
 .cases h
end
section
variable {st:St}
def Ee {b off len l:Nat}(h:l<=len)(d:len<=cap)(c:g=0\/g=k)(a:l<cap)(s:St):aR k (.slice b off len cap g) (some (I l)) none s=.ok (.slice b (off+l*k) (len-l) (cap-l) g) s:=by
 unfold aR;have e:oi (some (I l)) none len cap=some (l,len):=by rw[xu,aHP h]
 simp only[aO,aIr,e,dH,aIf,aIs,aIK];rw[aHP d,aHM uM,aHP c]
 rfl
def aew {b off len h:Nat}(hh:h<=cap)(d:len<=cap)(c:g=0\/g=k)(a:0<cap)(s:St):aR k (.slice b off len cap g) none (some (I h)) s=.ok (.slice b off h cap g) s:=by
 unfold aR;have e:oi none (some (I h)) len cap=some (0,h):=by rw[um,aHP hh]
 simp only[aO,aIr,e,dH,aIf,aIs,aIK];rw[aHP d,aHM uM,aHP c];simp
def NK (C:aY)(k e bytes:Nat)(z:List CV)(f1 f2:Nat)(d a l:CV)(st:St)(Q:CV->St->Prop):Prop:=
 (us (aR k d (some a) none st) λx1=>
 us (bt .slice l st) λb=>
 us (aj .eql (some .int) true b (.int .i64 0) st) λB=>
 aC B (
 Q d st) (
 us (bt .slice d st) λm=>
 us (aj .eql (some .int) false a m st) λA=>
 aC A (
 upon (bJ e k bytes d (cT .slice k z l st) st) λy G=>
 Q y G) (
 us (aj .add (none) false m b st) λx=>
 us (bt .cap d st) λw=>
 us (aj .gtr (none) false x w st) λu=>
 aC u (
 us (aR k d none (some a) st) λZ=>
 us (aj .add (none) false m b st) λdg=>
 us (aj .sub (none) false dg a st) λdm=>
 upon (bJ e k bytes Z (cT .zeros k z dm st) st) λp s2=>
 us (aR k p (some a) none s2) λY=>
 upon (gR false k Y l s2) λeJ o=>
 ck (
 us (aj .add (none) false a b o) λX=>
 us (aR k p (some X) none o) λW=>
 us (aR k d (some a) none o) λU=>
 upon (gR false k W U o) λew F=>
 (True)/\(True)/\
 Q p F)) (
 us (aj .add (none) false m b st) λdW=>
 us (aR k d none (some dW) st) λc=>
 us (aj .add (none) false a b st) λV=>
 us (aR k c (some V) none st) λR=>
 C f1 [l,R] st λO j=>
 us (mi .not O j) λS=>
 aC S (
 ck (
 us (aj .add (none) false a b j) λN=>
 us (aR k c (some N) none j) λK=>
 us (aR k c (some a) none j) λJ=>
 upon (gR false k K J j) λja r=>
 (True)/\(True)/\
 us (aR k c (some a) none r) λM=>
 upon (gR false k M l r) λiu E=>
 Q c E)) (
 us (aR k c (some m) none j) λH=>
 upon (gR false k H l j) λkx q=>
 us (aR k c (some a) none q) λI=>
 C f2 [I,b] q λj7 D=>
 Q c D)))))
def Xf (C:aY)(c b a:CV)(st:St)(Q:CV->St->Prop):aN P0 C (lvs 51) 51 [c,b,a] st Q=NK C 4 109 48 [(.str []),(.str []),(.int .i64 0),(.int .i64 0)] 102 103 c b a st Q:=by rw[w51];rfl
def QL (C:aY)(c b a:CV)(st:St)(Q:CV->St->Prop):aN P0 C (lvs 144) 144 [c,b,a] st Q=NK C 1 3 8 [(.int .i64 0)] 181 182 c b a st Q:=by rw[adT];rfl
def Fz {b off len m d os a cs c:Nat}{D:List CV}{l:Bool}{t:List CV}(r:m=min a len)(C:0<m)(u:0<cap)(p:dE k m (.slice d os a cs c) s=some t)(q:bh t=true)(w:s.m.g b=some (.cells D ty l)){K:CV->St->Prop}{D':List CV}
 (o:dZ D off t=some D'\/(dZ D off t=none/\Cy D off t (off+cap*g)=some D')) (j:K (I m) (St.set s b (.cells D' ty l))):upon (gR false k (.slice b off len cap g) (.slice d os a cs c) s) K:=by
 unfold gR;have B:Hm (.slice d os a cs c)=some a:=rfl;simp only[B,<-r];have A:cellsOf false k m (.slice d os a cs c) s=some t:=p;rw[A];simp only[aO,aIs,aIf,aIK,aIr];rw[aHM uM,aHP ⟨q,.inr u⟩,w];rcases o with h|⟨y,x⟩
 .simp only[h];exact j
 .simp only[y,x];exact j
def xr {b off len:Nat}{j:Bool}(d:s.m.g b=some (.cells L ty j))(c:g=0\/n<=len)(l:0<n)(a:off+n*k<=L.length):dE k n (.slice b off len cap g) s=some ((L.drop off).take (n*k)):=by
 rw[kg,aHM uM,aHP c,d];unfold gY;dsimp only;rw[aHP a]
abbrev R1:=qt P0 lvs I1
def vC {A B:List CV}{off:Nat}(h:A.length=off)(a:T.length<=B.length):dZ (A++B) off T=some (A++(T++B.drop T.length)):=by
 subst h;unfold dZ;rw[aHP aeU,aJk rfl,<-aKz,aKF rfl]
def GI (m k:Nat)(z:List CV)(h:z.length=k):(cH m z).length=m*k:=by
 unfold cH;simp[h]
def aft {bytes b:Nat}(Q:0<k)(ub:k<=4)(o:bytes<=48)(J:z.length=k)(O:bh z=true)(A:s.m.g b=some (.cells L e true))(N:s.m.g vb=some (.cells T e false))(FX:b<s.nx)(M:vb<s.nx)(hL:L.length=n*k)(B:T.length=k)(hi:i<n)(hn:n<=1000000)(l:bh L=true)(I7:bh T=true):
 NK R1 k e bytes z f1 f2 (.slice b 0 n n 0) (I i) (.slice vb 0 1 1 0) s λx s'=>x=.slice s.nx 0 (n+1) (n+1) k/\s'.nx=s.nx+1/\s'.m.g s.nx=some (.cells (L.take (i*k)++(T++L.drop (i*k))) e true)/\∀q,q≠s.nx->s'.m.g q=s.m.g q:=by
 unfold NK;have e1:bt .slice (.slice vb 0 1 1 0) s=.ok (I ((1:Nat):Int)) s:=rfl;have e2:aj .eql (some .int) true (I ((1:Nat):Int)) (.int .i64 0) s=.ok (.bool false) s:=rfl;have e3:bt .slice (.slice b 0 n n 0) s=.ok (I n) s:=rfl;have e4:aj .eql (some .int) false (I i) (I n) s=.ok (.bool false) s:=Pe
 have D:∀(a c:Nat) s,a<=2000000->c<=2000000->aj .add none false (I a) (I c) s=.ok (I ((a+c:Nat):Int)) s:=λa c s h1 h2=>O8
 have Y:bt .cap (.slice b 0 n n 0) s=.ok (I n) s:=rfl;have X:aj .gtr none false (I ((n+1:Nat):Int)) (I n) s=.ok (.bool true) s:=by rw[av,dh,aHQ uM]
 have W:aj .sub none false (I ((n+1:Nat):Int)) (I i) s=.ok (I ((n+1-i:Nat):Int)) s:=Gd
 rw[Ee uM (aHK n) (.inl rfl) uM,af,e1,af,e2,af,ag,aHM xI,e3,af,e4,af,ag,aHM xI,D n 1 s uM uM,af,Y,af,X,af,ag,aHP rfl];rw[aew uM (aHK n) (.inl rfl) uM,af,af,W,af];have HS:i*k<=n*k:=aIB k uM;have Cr:(n+1)*k=n*k+k:=aeZ
 have HT:(i+1)*k=i*k+k:=aeZ
 have uE:(n-i)*k=n*k-i*k:=Nat.sub_mul _ _ _;have ac:(n+1-i)*k=n*k+k-i*k:=by rw[Nat.sub_mul,Cr]
 have ab:(i+1)*k<=n*k:=aIB k uM
 have E:cT .zeros k z (I ((n+1-i:Nat):Int)) s=some (n+1-i,cH (n+1-i) z):=by
  have e:cT .zeros k z (I ((n+1-i:Nat):Int)) s=bE (Nat.ble (n+1-i) 1099511627776) (some (n+1-i,cH (n+1-i) z)) none:=rfl;rw[e,aO,aHP acd]
 have U:=GI (n+1-i) k z J;generalize S:cH (n+1-i) z=Z at E U
 have Ry:bJ e k bytes (.slice b 0 i n 0) (some (n+1-i,Z)) s=.ok (.slice s.nx 0 (n+1) (n+1) k) ⟨s.m.put s.nx (some (.cells (L.take (i*k)++Z) e true)),s.nx+1⟩:=by
  unfold bJ;have V:gY L 0 (i*k)=some (L.take (i*k)):=by unfold gY;rw[aHP uM,aIn]
  have Ot:Nat.add i (n+1-i)=n+1:=by show i+(n+1-i)=n+1;omega
  have aa:(n+1)*bytes<=(1000001)*48:=aKK uM o;simp only[aO,aIs,dH,Ot,A,V,aIf,aIr];rw[aHM uM,aHM uM,aHP ⟨Q,by show(n+1)*bytes<=_;omega,uM⟩,aHP trivial]
 rw[E,Ry,aP];generalize j:(⟨s.m.put s.nx (some (.cells (L.take (i*k)++Z) e true)),s.nx+1⟩:St)=s2;have H:s2.m.g s.nx=some (.cells (L.take (i*k)++Z) e true):=by rw[<-j];exact PT.dj _ _ _
 have y:∀q,q≠s.nx->s2.m.g q=s.m.g q:=λq d=>by rw[<-j];exact PT.du _ _ _ _ d
 have F:s2.nx=s.nx+1:=by rw[<-j]
 have C:(L.take (i*k)).length=i*k:=TP
 rw[Ee uM (aHK (n+1)) (.inr rfl) uM,af];refine Fz (m:=1) (t:=T) uM uM uM ?_ I7 H (D':=L.take (i*k)++(T++Z.drop k)) (.inl ?_) ?_
 .rw[xr (n:=1) ((y vb uM).trans N) (.inl rfl) uM uM,aIn,aHS uM]
 .rw[aHN,vC C uM,B]
 have r:=D i 1 (St.set s2 s.nx (.cells (L.take (i*k)++(T++Z.drop k)) e true)) uM uM;rw[bD,r,af,Ee uM (aHK (n+1)) (.inr rfl) uM,af,Ee uM (aHK n) (.inl rfl) uM,af];generalize u:St.set s2 s.nx (.cells (L.take (i*k)++(T++Z.drop k)) e true)=s3;have G:s3.m.g s.nx=some (.cells (L.take (i*k)++(T++Z.drop k)) e true):=by rw[<-u];exact an _ _ _
 have w:∀q,q≠s.nx->s3.m.g q=s.m.g q:=λq d=>by rw[<-u,ak _ _ _ _ d];exact y q d
 refine Fz (m:=n-i) (t:=L.drop (i*k)) uM uM uM ?_ ?_ G (D':=L.take (i*k)++(T++L.drop (i*k))) (.inl ?_) ?_
 .rw[xr (n:=n-i) ((w b uM).trans A) (.inl rfl) uM uM,aHN,aHS aaK]
 .unfold bh at l⊢;rw[aKd]at l⊢;exact λx K=>l x (aID K)
 .have p:(L.take (i*k)++T).length=0+(i+1)*k:=by rw[aHR,C,B];omega
  have R:List.drop (L.drop (i*k)).length (Z.drop k)=[]:=aIp (by rw[aIl,aIl];omega);rw[<-aIq,vC (T:=L.drop (i*k)) p (by rw[aIl,aIl];omega),R,aIJ,aIq]
 refine⟨afp,afp,rfl,?_,an _ _ _,λq d=>?_⟩
 .rw[sL,<-u,sL,F]
 .rw[ak _ _ _ _ d];exact w q d
def afs {bytes b:Nat}(B:∀args s x s',WG args s=some (.ok x s')->∀Q,Q x s'->R1 f1 args s Q)(D:0<k)(X:k<=4)(l:s.m.g b=some (.cells L e true))(u:s.m.g vb=some (.cells T e false))(w:b≠vb)(Z:L.length=n*k)(E:T.length=k)(hi:i<n)(Y:n<=1000000)(j:bh L=true)(U:bh T=true):
 NK R1 k e bytes z f1 f2 (.slice b 0 n (n+1) k) (I i) (.slice vb 0 1 1 0) s λx s'=>x=.slice b 0 (n+1) (n+1) k/\s'.nx=s.nx/\s'.m.g b=some (.cells (L.take (i*k)++(T++L.drop (i*k))) e true)/\∀q,q≠b->s'.m.g q=s.m.g q:=by
 unfold NK;have N:bt .slice (.slice vb 0 1 1 0) s=.ok (I ((1:Nat):Int)) s:=rfl;have M:aj .eql (some .int) true (I ((1:Nat):Int)) (.int .i64 0) s=.ok (.bool false) s:=rfl;have K:bt .slice (.slice b 0 n (n+1) k) s=.ok (I n) s:=rfl;have J:aj .eql (some .int) false (I i) (I n) s=.ok (.bool false) s:=Pe
 have o:∀(a c:Nat) s,a<=2000000->c<=2000000->aj .add none false (I a) (I c) s=.ok (I ((a+c:Nat):Int)) s:=λa c s h1 h2=>O8
 have H:bt .cap (.slice b 0 n (n+1) k) s=.ok (.ir (n+1)) s:=by
  have:bt .cap (.slice b 0 n (n+1) k) s=bE (Nat.beq k 0) (zn .i64 s (n+1)) (.ok (.ir (n+1)) s):=rfl;rw[this,aO,aHM (by rw[aIs];omega)]
 have G:aj .gtr none false (I ((n+1:Nat):Int)) (.ir (n+1)) s=.ok (.bool false) s:=by
  have:aj .gtr none false (I ((n+1:Nat):Int)) (.ir (n+1)) s=bE (decide (((n+1:Nat):Int)<((n+1:Nat):Int))) .bad (.ok (.bool false) s):=rfl;rw[this,aO,aHM wb]
 have HS:i*k<=n*k:=aIB k uM;have W:(n+1)*k=n*k+k:=aeZ
 have V:(i+1)*k=i*k+k:=aeZ
 have y:(n-i)*k=n*k-i*k:=Nat.sub_mul _ _ _;have S:(n+1-i)*k=n*k+k-i*k:=by rw[Nat.sub_mul,W]
 have O:(n+1-(i+1))*k=n*k-i*k:=by rw[<-y];congr 1;omega
 have R:(i+1)*k<=n*k:=aIB k uM;rw[Ee uM uM (.inr rfl) uM,af,N,af,M,af,ag,aHM xI,K,af,J,af,ag,aHM xI,o n 1 s uM uM,af,H,af,G,af,ag,aHM xI];rw[af,aew uM uM (.inr rfl) uM,af,o i 1 s uM uM,af,Ee uM (aHK _) (.inr rfl) uM,af];refine B _ _ (.bool false) s ?_ _ ?_
 .unfold WG;simp only[u,l];rw[aHP ⟨w.symm,by have:0<n*k:=Nat.mul_pos uM D;omega⟩]
 rw[cR,af,ag,aHP (show(!false)=true from rfl),bD,o i 1 s uM uM,af,Ee uM (aHK _) (.inr rfl) uM,af,Ee uM (aHK _) (.inr rfl) uM,af];have F:(L.take (i*k)).length=i*k:=TP
 refine Fz (m:=n-i) (t:=L.drop (i*k)) uM uM uM ?_ ?_ l (D':=L.take ((i+1)*k)++L.drop (i*k)) (.inr ⟨?_,?_⟩) ?_
 .rw[xr (n:=n-i) l (.inr uM) uM uM,aHN,aHS aaK]
 .unfold bh at j⊢;rw[aKd]at j⊢;exact λx C=>j x (aID C)
 .unfold dZ;rw[aHM aaK]
 .unfold Cy;rw[aHN,aHP ⟨uM,aaK,aaK⟩]
 generalize p:St.set s b (.cells (L.take ((i+1)*k)++L.drop (i*k)) e true)=s3;have A:s3.m.g b=some (.cells (L.take ((i+1)*k)++L.drop (i*k)) e true):=by rw[<-p];exact an _ _ _
 have r:∀q,q≠b->s3.m.g q=s.m.g q:=λq d=>by rw[<-p,ak _ _ _ _ d]
 refine⟨afp,afp,?_⟩;rw[Ee uM (aHK _) (.inr rfl) uM,af];refine Fz (m:=1) (t:=T) uM uM uM ?_ U A (D':=L.take (i*k)++(T++L.drop (i*k))) (.inl ?_) ?_
 .rw[xr (n:=1) ((r vb (λe=>w e.symm)).trans u) (.inl rfl) uM uM,aIn,aHS uM]
 .have e:L.take ((i+1)*k)=L.take (i*k)++(L.drop (i*k)).take k:=by rw[V,List.take_add]
  rw[e,aIq,aHN,vC F (by simp only[aHR,aHZ,aIl];omega),E,aKF (by rw[aHZ,aIl];omega)]
 refine⟨rfl,?_,an _ _ _,λq d=>?_⟩
 .rw[sL,<-p,sL]
 .rw[ak _ _ _ _ d];exact r q d
end
end
section
variable {P:Program} {lvs:Nat->Nat->Option (List Nat)} {I:zd}
def qt.YS (a:P.follows .mixedOrders=true)(e:qX P I){f:Nat}{args:List CV}{st:St}{Q:CV->St->Prop}(c:I f args st=none)(h:qt P lvs I f args st Q):∃v st',(iq P f=true/\FM P f args st v st')/\Q v st':=by
 obtain⟨v,st',⟨N,d⟩,b⟩:=h;have h1:=d (N+1) uM;unfold RF at h1;simp only[BY,c]at h1;exact⟨v,st',xf (JE (sO a) e N) (sO a) h1,b⟩
end
def abY (f e k:Nat):Prop:=∀(n i b vb:Nat) (L T:List CV) (s:St),s.m.g b=some (.cells L e true)->s.m.g vb=some (.cells T e false)->b<s.nx->vb<s.nx->L.length=n*k->T.length=k->i<n->n<=1000000->bh L=true->bh T=true->
 R1 f [.slice b 0 n n 0,Lim.I i,.slice vb 0 1 1 0] s λx s'=>x=.slice s.nx 0 (n+1) (n+1) k/\s'.nx=s.nx+1/\s'.m.g s.nx=some (.cells (L.take (i*k)++(T++L.drop (i*k))) e true)/\∀q,q≠s.nx->s'.m.g q=s.m.g q
def abX (f e k:Nat):Prop:=∀(n i b vb:Nat) (L T:List CV) (s:St),s.m.g b=some (.cells L e true)->s.m.g vb=some (.cells T e false)->b≠vb->L.length=n*k->T.length=k->i<n->n<=1000000->bh L=true->bh T=true->
 R1 f [.slice b 0 n (n+1) k,Lim.I i,.slice vb 0 1 1 0] s λx s'=>x=.slice b 0 (n+1) (n+1) k/\s'.nx=s.nx/\s'.m.g b=some (.cells (L.take (i*k)++(T++L.drop (i*k))) e true)/\∀q,q≠b->s'.m.g q=s.m.g q
open Classical in
def PT.VP (b vb q:Nat)(x y:Option rU):((PT.nil.put b x).put vb y).g q=if q=vb then y else if q=b then x else none:=by
 rw[PT.eW,PT.eW,PT.get_nil]
open Classical in
def AS {f e k:Nat}(hm:P0.follows .mixedOrders=true)(N:qX P0 I1)(jD:∀args s,I1 f args s=none)(qR:iq P0 f=true)(hA:abY f e k)(hB:abX f e k){args:List CV}{st:St}{v:CV}{st':St}(h:mZ e k args st=some (.ok v st')):uw P0 f args st v st':=by
 unfold mZ at h
 split at h
 .rename_i b n0 n grow i vb
  split at h
  .rename_i L ty T S mb Z
   split at h
   .rename_i hc;obtain⟨rfl,rfl,hg,iS,M,rfl,rfl,hL,NQ,I7,hT,J⟩:=hc;cases h;refine .inl ⟨qR,?_⟩;intro ρ w args' H ha;obtain⟨s',t',Q,hs,FZ⟩:=ha.inv;obtain⟨i',ag,e2,eT,VH⟩:=FZ.inv;obtain⟨x',af,e3,Cl,ak⟩:=VH.inv;obtain⟨r,sz,dC,u,rfl,V,q1,q2,q3,q4⟩:=hs.eO;obtain⟨rv,ah,an,al,rfl,ab,_⟩:=Cl.eO;have Cr:1<=n:=by omega
    have ho:=q1 uM;subst ho;obtain⟨q5,_⟩:=q4 uM;have te:=H.fresh b _ V;have aj:=H.fresh vb _ ab;have FX:b≠st.nx:=uM
    have E:∀q,(St.mk ((PT.nil.put b (st.m.g b)).put vb (st.m.g vb)) st.nx).m.g q=if q=vb then st.m.g vb else if q=b then st.m.g b else none:=λq=>PT.VP b vb q _ _
    generalize aa:(St.mk ((PT.nil.put b (st.m.g b)).put vb (st.m.g vb)) st.nx)=sm at E;have D:sm.nx=st.nx:=by rw[<-aa]
    have F:sm.m.g b=some (.cells L S true):=by rw[E,aHM M,aHP rfl,mb]
    have p:sm.m.g vb=some (.cells T S false):=by rw[E,aHP rfl,Z]
    have X:∀q x,ρ q=some x->sm.m.g q=st.m.g q\/sm.m.g q=none:=λq x _=>by
     rw[E]
     by_cases Q:q=vb
     .subst Q;rw[aHP rfl];exact .inl rfl
     .rw[aHM Q]
      by_cases e2:q=b
      .subst e2;rw[aHP rfl];exact .inl rfl
      .rw[aHM e2];exact .inr rfl
    have G:=H.sub X D
    by_cases HW:u=n
    ·
      subst HW;obtain⟨vA,BJ,⟨_,Nu⟩,rfl,a2,a3,a4⟩:=qt.YS hm N (jD _ _) (hA u i b vb L T sm F p uM uM hL hT iS J NQ I7);have W:VR ρ (.slice b 0 u u 0) (.slice (some ⟨r,0,none⟩) u u):=.slice _ _ _ _ r sz V;refine(Nu ρ w args' G (by rw[Q];exact eM.cons W FZ)).mono ?_;rintro ee w' ⟨v',c,rfl,U,z⟩;rw[D]at U a2 a3 a4;refine⟨v',c,rfl,U,?_⟩
      have A:bp ρ st w c ⟨(st.m.put b (BJ.m.g b)).put st.nx (some (.cells (L.take (i*grow)++(T++L.drop (i*grow))) S true)),st.nx+1⟩ w':=by
       refine bp.frame (s:=sm) H D X z a2.symm λq x d=>?_;show((st.m.put b (BJ.m.g b)).put st.nx _).g q=_\/_;rw[PT.eW,PT.eW]
       by_cases j:q=st.nx
       .subst j;rw[aHP rfl];exact .inl a3.symm
       .rw[aHM j]
        by_cases a:q=b
        .subst a;rw[aHP rfl];exact .inl rfl
        .rw[aHM a]
         by_cases O:q=vb
         .subst O;left;rw[a4 q j,p,Z]
         .right;refine⟨?_,by rw[E,aHM O,aHM a],rfl⟩;cases hq:ρ q with
          |some y=>exact⟨y,rfl⟩
          |none=>
           have C:=z.wr.fresh q x d;rw[a2]at C;have:=z.ME q uM hq;rw[this]at d;cases d
      refine(A.trans (bp.drop A.wr b)).sK (λq x d=>?_) rfl;show((st.m.put b none).put st.nx _).g q=(((st.m.put b (BJ.m.g b)).put st.nx _).put b none).g q;rw[PT.eW,PT.eW,PT.eW,PT.eW,PT.eW]
      by_cases j:q=st.nx
      .subst j;rw[aHP rfl,aHP rfl,aHM (λe=>FX e.symm)]
      .rw[aHM j,aHM j]
       by_cases a:q=b
       .rw[aHP a,aHP a]
       .rw[aHM a,aHM a,aHM a]
    ·
      obtain⟨vB,l,⟨_,Y⟩,rfl,b2,b3,b4⟩:=qt.YS hm N (jD _ _) (hB n i b vb L T sm F p M hL hT iS J NQ I7);have W:VR ρ (.slice b 0 n (n+1) grow) (.slice (some ⟨r,0,none⟩) n u):=.oI _ _ 0 _ _ u grow r sz V uM uM uM (λ_=>rfl) (by simpa using q5);refine(Y ρ w args' G (by rw[Q];exact eM.cons W FZ)).mono ?_;rintro ee w' ⟨v',c,rfl,U,z⟩;have BL:=z.ext _ _ V;obtain⟨r2,ai,am,R,rfl,FU,p1,p2,p3,p4⟩:=U.eO;rw[BL]at FU;cases FU;have B:=p1 uM;subst B;obtain⟨p5,_⟩:=p4 uM
      have A:bp ρ st w c ⟨st.m.put b (l.m.g b),st.nx⟩ w':=by
       refine bp.frame (s:=sm) H D X z (by show st.nx=_;rw[b2,D]) λq x d=>?_;show(st.m.put b (l.m.g b)).g q=_\/_;rw[PT.eW]
       by_cases a:q=b
       .subst a;rw[aHP rfl];exact .inl rfl
       .rw[aHM a]
        by_cases O:q=vb
        .subst O;left;rw[b4 q a,p,Z]
        .right;refine⟨?_,by rw[E,aHM O,aHM a],rfl⟩;cases hq:ρ q with
         |some y=>exact⟨y,rfl⟩
         |none=>
          have C:=z.wr.fresh q x d;rw[b2,D]at C;have:=z.ME q uM hq;rw[this]at d;cases d
      generalize hR:L.take (i*grow)++(T++L.drop (i*grow))=RB at*
      have K:(St.mk (st.m.put b (l.m.g b)) st.nx).m.g b=some (.cells RB S true):=by
       show(st.m.put b (l.m.g b)).g b=_;rw[PT.dj,b3]
      obtain⟨o,ac,B⟩:=A.wr.at' b _ r sz K BL
      have ae:c.le (c.set st.nx (r,sz)):=λq x d=>by
       have:=A.wr.fresh q x d;rw[Ren.dy _ _ _ _ (λe=>by rw[e]at this;exact absurd this (Nat.lt_irrefl _))];exact d
      have Ty:=BR.mono ae B;have ad:=bp.move A.wr K BL ac Ty (λ_ _=>rfl) rfl rfl rfl;refine⟨_,c.set st.nx (r,sz),rfl,?_,(A.trans ad).sK (λq x d=>?_) rfl⟩
      .exact .oI _ _ 0 _ _ R grow r sz (Ren.eI _ _ _) uM (aHK _) (by show n+1<=R;omega) (λ_=>rfl) (by simpa using p5)
      .show((st.m.put b none).put st.nx _).g q=(((st.m.put b (l.m.g b)).put b none).put st.nx _).g q;rw[PT.eW,PT.eW,PT.eW,PT.eW,PT.eW]
       by_cases j:q=st.nx
       .rw[aHP j,aHP j]
       .rw[aHM j,aHM j]
        by_cases a:q=b
        .rw[aHP a,aHP a]
        .rw[aHM a,aHM a,aHM a]
   .cases h
  .cases h
 .cases h
