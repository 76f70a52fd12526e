import Derived.Test.YtckodcbgpffimaaGreatDoorSndB
import Derived.Test.YtckodcbgpffimaaGreatDoorWa
import Derived.Lib.Overlaps
import Derived.Laws.Externs
namespace Lim
open Go
noncomputable section
set_option linter.defProp false
set_option maxRecDepth 100000
section
variable {k cap g ty:Nat}{s:O}{n:Nat}{L T:δ K}{e f1 f2 i vb:Nat}{z:δ K}
open Classical in
def YB (args:List K)(Z:O):Option OR:=
 match args with
 |[.slice bx _ _ _ _,.slice a _ _ _ _]=>(match Z.m.g bx,Z.m.g a with
  |some (.cells _ _ false),some (.cells s _ _)=>if bx≠a/\1<=s.length then some (.ok (.bool false) Z)else none
  |_,_=>none)
 |_=>none
def I1:Aj:=λf args Z=>bF (Nat.beq f 224) (YB args Z) (bF (Nat.beq f 276) (YB args Z) ν)
structure aeO (P:Program)(f:Nat):Prop where
 out:∃(tS tR e:TypeId) (size:Nat),P.underlying tS=some (.slice e)/\(∀w,(Go.sizeOf e).run P w=.ok size w)/\
  ∀(args:Array Value) (w:World),(callFunc f args).run P w=((Extern.SlicesOverlaps.overlaps #[tS,tS] #[tR] args).run P w).andThen λv w'=>.ok (.value v) w'
section
variable {P:Program} {f:Nat} {Z Z':O} {v:K}
def D9 (hf:aeO P f){args:δ K}(h:YB args Z=Φ (.ok v Z')):vP P f args Z v Z':=by
 obtain⟨G,H,e,size,h1,h2,h3⟩:=hf.out;unfold YB at h
 split at h
 .rename_i bx ox N cx gx p oy M cy gy
  split at h
  .rename_i s1 t1 s2 t2 g2 m u
   split at h
   .rename_i hc;cases h;refine .inr ⟨rfl,λρ w args' c ha=>?_⟩;obtain⟨F,t',e1,Y,Hi⟩:=ha.inv;obtain⟨y',j,e2,X,XC⟩:=Hi.inv;have e3:j=[]:=by have:=XC.len;simpa using this.symm
    subst e3;subst e2;have e4:args'= #[F,y']:=aeP
    subst e4;obtain⟨l,D,r,W,rfl,a,_⟩:=Y.fk;obtain⟨q,C,I,S,rfl,y,_⟩:=X.fk;obtain⟨x,Q,I7,d,a2,a3,a4,a5⟩:=c.row m a;obtain⟨c2,LM,xB,b1,b2,b3,b4,b5⟩:=c.row u y;have b:=c.abi m a d rfl;have o:l≠q:=λe=>hc.1 (c.inj bx p _ _ l D C m u a (by rw[e];exact y));have hs:=hc.2;refine⟨.bool φ,?_,.bool φ⟩
    rw[h3,Lib.run_overlaps_apart w G H e h1 size h2 ⟨l,r,ν⟩ ⟨q,I,ν⟩ N W M S o t1 t2 x.size c2.size (by simp[World.shape?,d]) (by simp[World.shape?,b1]) J
     (by simp only[World.frozen?,d];have:=b r;simp;omega) (by simp only[World.frozen?,d];have:=b x.size;simp;omega)]
    rfl
   .cases h
  .cases h
 .cases h
end
section
variable {Z:O}
def Fg {b off len l:Nat}(h:l<=len)(d:len<=cap)(c:g=0\/g=k)(a:l<cap)(s:O):aQ k (.slice b off len cap g) (Φ (I l)) ν s=.ok (.slice b (off+l*k) (len-l) (cap-l) g) s:=by
 unfold aQ;have e:pM (Φ (I l)) ν len cap=Φ (l,len):=by rw[vI,gq h]
 simp only[aS,nR,e,dR,mZ,md,xF];rw[gq d,B J,gq c]
 rfl
def ahe {b off len h:Nat}(hh:h<=cap)(d:len<=cap)(c:g=0\/g=k)(a:0<cap)(s:O):aQ k (.slice b off len cap g) ν (Φ (I h)) s=.ok (.slice b off h cap g) s:=by
 unfold aQ;have e:pM ν (Φ (I h)) len cap=Φ (0,h):=by rw[vJ,gq hh]
 simp only[aS,nR,e,dR,mZ,md,xF];rw[gq d,B J,gq c];simp
def PD (C:aV)(k e bytes:Nat)(z:δ K)(f1 f2:Nat)(d a l:K)(Z:O)(Q:K->O->Prop):Prop:=
 (U (aQ k d (Φ a) ν Z) λx1=>
 U (aY .slice l Z) λb=>
 U (R .eql (Φ .int) θ b (.int .i64 0) Z) λF=>
 aA F (
 Q d Z) (
 U (aY .slice d Z) λm=>
 U (R .eql (Φ .int) φ a m Z) λD=>
 aA D (
 E (bI e k bytes d (cZ .slice k z l Z) Z) λy M=>
 Q y M) (
 U (R .add (ν) φ m b Z) λx=>
 U (aY .cap d Z) λw=>
 U (R .gtr (ν) φ x w Z) λu=>
 aA u (
 U (aQ k d ν (Φ a) Z) λcG=>
 U (R .add (ν) φ m b Z) λcN=>
 U (R .sub (ν) φ cN a Z) λcP=>
 E (bI e k bytes cG (cZ .zeros k z cP Z) Z) λp s2=>
 U (aQ k p (Φ a) ν s2) λdj=>
 E (gL φ k dj l s2) λdP o=>
 bJ (
 U (R .add (ν) φ a b o) λdE=>
 U (aQ k p (Φ dE) ν o) λdO=>
 U (aQ k d (Φ a) ν o) λdC=>
 E (gL φ k dO dC o) λdD I=>
 (True)/\(True)/\
 Q p I)) (
 U (R .add (ν) φ m b Z) λdN=>
 U (aQ k d ν (Φ dN) Z) λc=>
 U (R .add (ν) φ a b Z) λfg=>
 U (aQ k c (Φ fg) ν Z) λeX=>
 C f1 [l,eX] Z λfT j=>
 U (kZ .not fT j) λfL=>
 aA fL (
 bJ (
 U (R .add (ν) φ a b j) λfW=>
 U (aQ k c (Φ fW) ν j) λY=>
 U (aQ k c (Φ a) ν j) λN=>
 E (gL φ k Y N j) λiB r=>
 (True)/\(True)/\
 U (aQ k c (Φ a) ν r) λS=>
 E (gL φ k S l r) λjm H=>
 Q c H)) (
 U (aQ k c (Φ m) ν j) λW=>
 E (gL φ k W l j) λiR q=>
 U (aQ k c (Φ a) ν q) λX=>
 C f2 [X,b] q λiL G=>
 Q c G)))))
def YY (C:aV)(c b a:K)(Z:O)(Q:K->O->Prop):aM P0 C (hY 183) 183 [c,b,a] Z Q=PD C 4 255 48 [(.str []),(.str []),(.int .i64 0),(.int .i64 0)] 224 225 c b a Z Q:=by rw[agF];rfl
def SE (C:aV)(c b a:K)(Z:O)(Q:K->O->Prop):aM P0 C (hY 247) 247 [c,b,a] Z Q=PD C 1 3 8 [(.int .i64 0)] 276 277 c b a Z Q:=by rw[agB];rfl
def GF {b off len m d os ls c a:Nat}{D:δ K}{l:Bool}{t:δ K}(r:m=min ls len)(G:0<m)(u:0<cap)(p:dW k m (.slice d os ls c a) s=Φ t)(q:bh t=θ)(w:s.m.g b=Φ (.cells D ty l)){Kq0:K->O->Prop}{D':δ K}
 (o:eB D off t=Φ D'\/(eB D off t=ν/\Du D off t (off+cap*g)=Φ D')) (j:Kq0 (I m) (O.set s b (.cells D' ty l))):E (gL φ k (.slice b off len cap g) (.slice d os ls c a) s) Kq0:=by
 unfold gL;have F:IB (.slice d os ls c a)=Φ ls:=rfl;simp only[F,<-r];have C:cellsOf φ k m (.slice d os ls c a) s=Φ t:=p;rw[C];simp only[aS,md,mZ,xF,nR];rw[B J,gq ⟨q,.inr u⟩,w];rcases o with h|⟨y,x⟩
 .simp only[h];exact j
 .simp only[y,x];exact j
def yM {b off len:Nat}{j:Bool}(d:s.m.g b=Φ (.cells L ty j))(c:g=0\/n<=len)(l:0<n)(a:off+n*k<=L.length):dW k n (.slice b off len cap g) s=Φ ((L.drop off).take (n*k)):=by
 rw[nh,B J,gq c,d];unfold iv;dsimp only;rw[gq a]
abbrev R1:=rC P0 hY I1
def wU {b a:δ K}{off:Nat}(h:b.length=off)(c:T.length<=a.length):eB (b++a) off T=Φ (b++(T++a.drop T.length)):=by
 subst h;unfold eB;rw[gq (by rw[km];omega),SM rfl,<-aOe,List.drop_left' rfl]
def HT (m k:Nat)(z:δ K)(h:z.length=k):(cr m z).length=m*k:=by
 unfold cr;simp[h]
def aie {bytes b:Nat}(hk:0<k)(vt:k<=4)(p:bytes<=48)(W:z.length=k)(aa:bh z=θ)(F:s.m.g b=Φ (.cells L e θ))(hv:s.m.g vb=Φ (.cells T e φ))(Mp:b<s.nx)(Y:vb<s.nx)(hL:L.length=n*k)(G:T.length=k)(hi:i<n)(hn:n<=1000000)(o:bh L=θ)(Ke:bh T=θ):
 PD R1 k e bytes z f1 f2 (.slice b 0 n n 0) (I i) (.slice vb 0 1 1 0) s λx s'=>x=.slice s.nx 0 (n+1) (n+1) k/\s'.nx=s.nx+1/\s'.m.g s.nx=Φ (.cells (L.take (i*k)++(T++L.drop (i*k))) e θ)/\∀q,q≠s.nx->s'.m.g q=s.m.g q:=by
 unfold PD;have e1:aY .slice (.slice vb 0 1 1 0) s=.ok (I ((1:Nat):Int)) s:=rfl;have e2:R .eql (Φ .int) θ (I ((1:Nat):Int)) (.int .i64 0) s=.ok (.bool φ) s:=rfl;have e3:aY .slice (.slice b 0 n n 0) s=.ok (I n) s:=rfl;have e4:R .eql (Φ .int) φ (I i) (I n) s=.ok (.bool φ) s:=GW
 have M:∀(a c:Nat) s,a<=2000000->c<=2000000->R .add ν φ (I a) (I c) s=.ok (I ((a+c:Nat):Int)) s:=λa c s h1 h2=>EW
 have e6:aY .cap (.slice b 0 n n 0) s=.ok (I n) s:=rfl;have e7:R .gtr ν φ (I ((n+1:Nat):Int)) (I n) s=.ok (.bool θ) s:=by rw[au,cQ,jp J]
 have e8:R .sub ν φ (I ((n+1:Nat):Int)) (I i) s=.ok (I ((n+1-i:Nat):Int)) s:=CS
 rw[Fg J (hI n) (.inl rfl) J,af,e1,af,e2,af,ag,B tW,e3,af,e4,af,ag,B tW,M n 1 s J J,af,e6,af,e7,af,ag,gq rfl];rw[ahe J (hI n) (.inl rfl) J,af,af,e8,af];have I6:i*k<=n*k:=zv k J;have Hb:(n+1)*k=n*k+k:=afU
 have I7:(i+1)*k=i*k+k:=afU
 have vX:(n-i)*k=n*k-i*k:=Nat.sub_mul ..;have ad:(n+1-i)*k=n*k+k-i*k:=by rw[Nat.sub_mul,Hb]
 have ac:(i+1)*k<=n*k:=zv k J
 have y:cZ .zeros k z (I ((n+1-i:Nat):Int)) s=Φ (n+1-i,cr (n+1-i) z):=by
  have e:cZ .zeros k z (I ((n+1-i:Nat):Int)) s=bF (Nat.ble (n+1-i) 1099511627776) (Φ (n+1-i,cr (n+1-i) z)) ν:=rfl;rw[e,aS,gq ô]
 have hZ:=HT (n+1-i) k z W;generalize ab:cr (n+1-i) z=d at y hZ
 have Tu:bI e k bytes (.slice b 0 i n 0) (Φ (n+1-i,d)) s=.ok (.slice s.nx 0 (n+1) (n+1) k) ⟨s.m.put s.nx (Φ (.cells (L.take (i*k)++d) e θ)),s.nx+1⟩:=by
  unfold bI;have e9:iv L 0 (i*k)=Φ (L.take (i*k)):=by unfold iv;rw[gq J,tu]
  have Od:Nat.add i (n+1-i)=n+1:=by show i+(n+1-i)=n+1;omega
  have XS:(n+1)*bytes<=(1000001)*48:=aOd J p;simp only[aS,md,dR,Od,F,e9,mZ,nR];rw[B J,B J,gq ⟨hk,by show(n+1)*bytes<=_;omega,J⟩,gq trivial]
 rw[y,Tu,aP];generalize l:(⟨s.m.put s.nx (Φ (.cells (L.take (i*k)++d) e θ)),s.nx+1⟩:O)=s2;have S:s2.m.g s.nx=Φ (.cells (L.take (i*k)++d) e θ):=by rw[<-l];exact PT.du _ _ _
 have D:∀q,q≠s.nx->s2.m.g q=s.m.g q:=λq j=>by rw[<-l];exact PT.dy _ _ _ _ j
 have N:s2.nx=s.nx+1:=by rw[<-l]
 have H:(L.take (i*k)).length=i*k:=OH
 rw[Fg J (hI (n+1)) (.inr rfl) J,af];refine GF (m:=1) (t:=T) J J J ?_ Ke S (D':=L.take (i*k)++(T++d.drop k)) (.inl ?_) ?_
 .rw[yM (n:=1) ((D vb J).trans hv) (.inl rfl) J J,tu,lw J]
 .rw[oa,wU H J,G]
 have u:=M i 1 (O.set s2 s.nx (.cells (L.take (i*k)++(T++d.drop k)) e θ)) J J;rw[aZ,u,af,Fg J (hI (n+1)) (.inr rfl) J,af,Fg J (hI n) (.inl rfl) J,af];generalize w:O.set s2 s.nx (.cells (L.take (i*k)++(T++d.drop k)) e θ)=s3;have Q:s3.m.g s.nx=Φ (.cells (L.take (i*k)++(T++d.drop k)) e θ):=by rw[<-w];exact ao _ _ _
 have C:∀q,q≠s.nx->s3.m.g q=s.m.g q:=λq j=>by rw[<-w,ar _ _ _ _ j];exact D q j
 refine GF (m:=n-i) (t:=L.drop (i*k)) J J J ?_ ?_ Q (D':=L.take (i*k)++(T++L.drop (i*k))) (.inl ?_) ?_
 .rw[yM (n:=n-i) ((C b J).trans F) (.inl rfl) J J,oa,lw Yr]
 .unfold bh at o⊢;rw[ù]at o⊢;exact λx X=>o x (zR X)
 .have r:(L.take (i*k)++T).length=0+(i+1)*k:=by rw[km,H,G];omega
  have hd:List.drop (L.drop (i*k)).length (d.drop k)=[]:=ys (by rw[st,st];omega);rw[<-we,wU (T:=L.drop (i*k)) r (by rw[st,st];omega),hd,zo,we]
 refine⟨gt,gt,rfl,?_,ao ..,λq j=>?_⟩
 .rw[uf,<-w,uf,N]
 .rw[ar _ _ _ _ j];exact C q j
def aid {bytes b:Nat}(C:∀args s x s',YB args s=Φ (.ok x s')->∀Q,Q x s'->R1 f1 args s Q)(G:0<k)(vt:k<=4)(l:s.m.g b=Φ (.cells L e θ))(w:s.m.g vb=Φ (.cells T e φ))(u:b≠vb)(hL:L.length=n*k)(H:T.length=k)(hi:i<n)(hn:n<=1000000)(j:bh L=θ)(Ke:bh T=θ):
 PD R1 k e bytes z f1 f2 (.slice b 0 n (n+1) k) (I i) (.slice vb 0 1 1 0) s λx s'=>x=.slice b 0 (n+1) (n+1) k/\s'.nx=s.nx/\s'.m.g b=Φ (.cells (L.take (i*k)++(T++L.drop (i*k))) e θ)/\∀q,q≠b->s'.m.g q=s.m.g q:=by
 unfold PD;have e1:aY .slice (.slice vb 0 1 1 0) s=.ok (I ((1:Nat):Int)) s:=rfl;have Y:R .eql (Φ .int) θ (I ((1:Nat):Int)) (.int .i64 0) s=.ok (.bool φ) s:=rfl;have X:aY .slice (.slice b 0 n (n+1) k) s=.ok (I n) s:=rfl;have W:R .eql (Φ .int) φ (I i) (I n) s=.ok (.bool φ) s:=GW
 have o:∀(a c:Nat) s,a<=2000000->c<=2000000->R .add ν φ (I a) (I c) s=.ok (I ((a+c:Nat):Int)) s:=λa c s h1 h2=>EW
 have S:aY .cap (.slice b 0 n (n+1) k) s=.ok (.iQ (n+1)) s:=by
  have:aY .cap (.slice b 0 n (n+1) k) s=bF (Nat.beq k 0) (Ar .i64 s (n+1)) (.ok (.iQ (n+1)) s):=rfl;rw[this,aS,B (by rw[md];omega)]
 have N:R .gtr ν φ (I ((n+1:Nat):Int)) (.iQ (n+1)) s=.ok (.bool φ) s:=by
  have:R .gtr ν φ (I ((n+1:Nat):Int)) (.iQ (n+1)) s=bF (decide (((n+1:Nat):Int)<((n+1:Nat):Int))) .bad (.ok (.bool φ) s):=rfl;rw[this,aS,B V]
 have I6:i*k<=n*k:=zv k J;have Hb:(n+1)*k=n*k+k:=afU
 have I7:(i+1)*k=i*k+k:=afU
 have y:(n-i)*k=n*k-i*k:=Nat.sub_mul ..;have ac:(n+1-i)*k=n*k+k-i*k:=by rw[Nat.sub_mul,Hb]
 have aa:(n+1-(i+1))*k=n*k-i*k:=by rw[<-y];congr 1;omega
 have ab:(i+1)*k<=n*k:=zv k J;rw[Fg J J (.inr rfl) J,af,e1,af,Y,af,ag,B tW,X,af,W,af,ag,B tW,o n 1 s J J,af,S,af,N,af,ag,B tW];rw[af,ahe J J (.inr rfl) J,af,o i 1 s J J,af,Fg J (hI _) (.inr rfl) J,af];refine C _ _ (.bool φ) s ?_ _ ?_
 .unfold YB;simp only[w,l];rw[gq ⟨u.symm,by have:0<n*k:=Nat.mul_pos J G;omega⟩]
 rw[bZ,af,ag,gq (show(!φ)=θ from rfl),aZ,o i 1 s J J,af,Fg J (hI _) (.inr rfl) J,af,Fg J (hI _) (.inr rfl) J,af];have M:(L.take (i*k)).length=i*k:=OH
 refine GF (m:=n-i) (t:=L.drop (i*k)) J J J ?_ ?_ l (D':=L.take ((i+1)*k)++L.drop (i*k)) (.inr ⟨?_,?_⟩) ?_
 .rw[yM (n:=n-i) l (.inr J) J J,oa,lw Yr]
 .unfold bh at j⊢;rw[ù]at j⊢;exact λx F=>j x (zR F)
 .unfold eB;rw[B Yr]
 .unfold Du;rw[oa,gq ⟨J,Yr,Yr⟩]
 generalize p:O.set s b (.cells (L.take ((i+1)*k)++L.drop (i*k)) e θ)=s3;have D:s3.m.g b=Φ (.cells (L.take ((i+1)*k)++L.drop (i*k)) e θ):=by rw[<-p];exact ao _ _ _
 have r:∀q,q≠b->s3.m.g q=s.m.g q:=λq d=>by rw[<-p,ar _ _ _ _ d]
 refine⟨gt,gt,?_⟩;rw[Fg J (hI _) (.inr rfl) J,af];refine GF (m:=1) (t:=T) J J J ?_ Ke D (D':=L.take (i*k)++(T++L.drop (i*k))) (.inl ?_) ?_
 .rw[yM (n:=1) ((r vb (λe=>u e.symm)).trans w) (.inl rfl) J J,tu,lw J]
 .have e:L.take ((i+1)*k)=L.take (i*k)++(L.drop (i*k)).take k:=by rw[I7,List.take_add]
  rw[e,we,oa,wU M (by simp only[km,pu,st];omega),H,List.drop_left' (by rw[pu,st];omega)]
 refine⟨rfl,?_,ao ..,λq d=>?_⟩
 .rw[uf,<-p,uf]
 .rw[ar _ _ _ _ d];exact r q d
end
end
section
variable {P:Program} {hY:Nat->Nat->υ (δ Nat)} {I:Aj}
def rC.abu (a:P.follows .mixedOrders=θ)(e:sn P I){f:Nat}{args:δ K}{Z:O}{Q:K->O->Prop}(c:I f args Z=ν)(h:rC P hY I f args Z Q):∃v Z',(iP P f=θ/\GS P f args Z v Z')/\Q v Z':=by
 obtain⟨v,Z',⟨N,d⟩,b⟩:=h;have h1:=d (N+1) J;unfold RF at h1;simp only[C3,c]at h1;exact⟨v,Z',yD (KP (ui a) e N) (ui a) h1,b⟩
end
def aeX (f e k:Nat):Prop:=∀(n i b vb:Nat) (L T:δ K) (s:O),s.m.g b=Φ (.cells L e θ)->s.m.g vb=Φ (.cells T e φ)->b<s.nx->vb<s.nx->L.length=n*k->T.length=k->i<n->n<=1000000->bh L=θ->bh T=θ->
 R1 f [.slice b 0 n n 0,Lim.I i,.slice vb 0 1 1 0] s λx s'=>x=.slice s.nx 0 (n+1) (n+1) k/\s'.nx=s.nx+1/\s'.m.g s.nx=Φ (.cells (L.take (i*k)++(T++L.drop (i*k))) e θ)/\∀q,q≠s.nx->s'.m.g q=s.m.g q
def aeW (f e k:Nat):Prop:=∀(n i b vb:Nat) (L T:δ K) (s:O),s.m.g b=Φ (.cells L e θ)->s.m.g vb=Φ (.cells T e φ)->b≠vb->L.length=n*k->T.length=k->i<n->n<=1000000->bh L=θ->bh T=θ->
 R1 f [.slice b 0 n (n+1) k,Lim.I i,.slice vb 0 1 1 0] s λx s'=>x=.slice b 0 (n+1) (n+1) k/\s'.nx=s.nx/\s'.m.g b=Φ (.cells (L.take (i*k)++(T++L.drop (i*k))) e θ)/\∀q,q≠b->s'.m.g q=s.m.g q
open Classical in
def PT.XL (b vb q:Nat)(x y:Option tp):((PT.nil.put b x).put vb y).g q=if q=vb then y else if q=b then x else none:=by
 rw[PT.fw,PT.fw,PT.get_nil]
open Classical in
def BC {f e k:Nat}(hm:P0.follows .mixedOrders=true)(W:sn P0 I1)(gX:∀args s,I1 f args s=none)(qS:iP P0 f=true)(hA:aeX f e k)(hB:aeW f e k){args:List K}{Z:O}{v:K}{Z':O}(h:oC e k args Z=some (.ok v Z')):vP P0 f args Z v Z':=by
 unfold oC at h
 split at h
 .rename_i b n0 n grow i vb
  split at h
  .rename_i L ty T tv mb mv
   split at h
   .rename_i hc;obtain⟨rfl,rfl,hg,lA,S,rfl,rfl,hL,PK,Ke,hT,N⟩:=hc;cases h;refine .inl ⟨qS,?_⟩;intro ρ w args' M ha;obtain⟨s',t',Y,hs,Hi⟩:=ha.inv;obtain⟨i',aj,e2,fB,XC⟩:=Hi.inv;obtain⟨x',ai,e3,AI,an⟩:=XC.inv;obtain⟨r,sz,dM,p,rfl,hr,q1,q2,q3,q4⟩:=hs.fk;obtain⟨rv,ak,aq,ao,rfl,ae,_⟩:=AI.fk;have Hb:1<=n:=by omega
    have ho:=q1 J;subst ho;obtain⟨q5,_⟩:=q4 J;have vu:=M.fresh b _ hr;have am:=M.fresh vb _ ae;have Mp:b≠Z.nx:=J
    have D:∀q,(O.mk ((PT.nil.put b (Z.m.g b)).put vb (Z.m.g vb)) Z.nx).m.g q=if q=vb then Z.m.g vb else if q=b then Z.m.g b else none:=λq=>PT.XL b vb q _ _
    generalize ad:(O.mk ((PT.nil.put b (Z.m.g b)).put vb (Z.m.g vb)) Z.nx)=sm at D;have F:sm.nx=Z.nx:=by rw[<-ad]
    have G:sm.m.g b=some (.cells L tv true):=by rw[D,B S,gq rfl,mb]
    have l:sm.m.g vb=some (.cells T tv false):=by rw[D,gq rfl,mv]
    have vX:∀q x,ρ q=some x->sm.m.g q=Z.m.g q\/sm.m.g q=none:=λq x _=>by
     rw[D]
     by_cases Y:q=vb
     .subst Y;rw[gq rfl];exact .inl rfl
     .rw[B Y]
      by_cases e2:q=b
      .subst e2;rw[gq rfl];exact .inl rfl
      .rw[B e2];exact .inr rfl
    have H:=M.sub vX F
    by_cases Ja:p=n
    ·
      subst Ja;obtain⟨vA,CJ,⟨_,ac⟩,rfl,a2,a3,a4⟩:=rC.abu hm W (gX _ _) (hA p i b vb L T sm G l J J hL hT lA N PK Ke);have xi:VR ρ (.slice b 0 p p 0) (.slice (some ⟨r,0,none⟩) p p):=.slice _ _ _ _ r sz hr;refine(ac ρ w args' H (by rw[Y];exact fp.cons xi Hi)).mono ?_;rintro ee w' ⟨v',c,rfl,hv,u⟩;rw[F]at hv a2 a3 a4;refine⟨v',c,rfl,hv,?_⟩
      have z:br ρ Z w c ⟨(Z.m.put b (CJ.m.g b)).put Z.nx (some (.cells (L.take (i*grow)++(T++L.drop (i*grow))) tv true)),Z.nx+1⟩ w':=by
       refine br.frame (s:=sm) M F vX u a2.symm λq x d=>?_;show((Z.m.put b (CJ.m.g b)).put Z.nx _).g q=_\/_;rw[PT.fw,PT.fw]
       by_cases j:q=Z.nx
       .subst j;rw[gq rfl];exact .inl a3.symm
       .rw[B j]
        by_cases a:q=b
        .subst a;rw[gq rfl];exact .inl rfl
        .rw[B a]
         by_cases X:q=vb
         .subst X;left;rw[a4 q j,l,mv]
         .right;refine⟨?_,by rw[D,B X,B a],rfl⟩;cases hq:ρ q with
          |some y=>exact⟨y,rfl⟩
          |none=>
           have C:=u.wr.fresh q x d;rw[a2]at C;have:=u.Of q J hq;rw[this]at d;cases d
      refine(z.trans (br.drop z.wr b)).ue (λq x d=>?_) rfl;show((Z.m.put b none).put Z.nx _).g q=(((Z.m.put b (CJ.m.g b)).put Z.nx _).put b none).g q;rw[PT.fw,PT.fw,PT.fw,PT.fw,PT.fw]
      by_cases j:q=Z.nx
      .subst j;rw[gq rfl,gq rfl,B (λe=>Mp e.symm)]
      .rw[B j,B j]
       by_cases a:q=b
       .rw[gq a,gq a]
       .rw[B a,B a,B a]
    ·
      obtain⟨vB,U1,⟨_,ab⟩,rfl,b2,b3,b4⟩:=rC.abu hm W (gX _ _) (hB n i b vb L T sm G l S hL hT lA N PK Ke);have xi:VR ρ (.slice b 0 n (n+1) grow) (.slice (some ⟨r,0,none⟩) n p):=.pX _ _ 0 _ _ p grow r sz hr J J J (λ_=>rfl) (by simpa using q5);refine(ab ρ w args' H (by rw[Y];exact fp.cons xi Hi)).mono ?_;rintro ee w' ⟨v',c,rfl,hv,u⟩;have CN:=u.ext _ _ hr;obtain⟨r2,al,ap,aa,rfl,L6,p1,p2,p3,p4⟩:=hv.fk;rw[CN]at L6;cases L6;have Zq:=p1 J;subst Zq;obtain⟨p5,_⟩:=p4 J
      have z:br ρ Z w c ⟨Z.m.put b (U1.m.g b),Z.nx⟩ w':=by
       refine br.frame (s:=sm) M F vX u (by show Z.nx=_;rw[b2,F]) λq x d=>?_;show(Z.m.put b (U1.m.g b)).g q=_\/_;rw[PT.fw]
       by_cases a:q=b
       .subst a;rw[gq rfl];exact .inl rfl
       .rw[B a]
        by_cases X:q=vb
        .subst X;left;rw[b4 q a,l,mv]
        .right;refine⟨?_,by rw[D,B X,B a],rfl⟩;cases hq:ρ q with
         |some y=>exact⟨y,rfl⟩
         |none=>
          have C:=u.wr.fresh q x d;rw[b2,F]at C;have:=u.Of q J hq;rw[this]at d;cases d
      generalize hR:L.take (i*grow)++(T++L.drop (i*grow))=RB at*
      have Q:(O.mk (Z.m.put b (U1.m.g b)) Z.nx).m.g b=some (.cells RB tv true):=by
       show(Z.m.put b (U1.m.g b)).g b=_;rw[PT.du,b3]
      obtain⟨o,af,Zq⟩:=z.wr.at' b _ r sz Q CN
      have ah:c.le (c.set Z.nx (r,sz)):=λq x d=>by
       have:=z.wr.fresh q x d;rw[Ren.dF _ _ _ _ (λe=>by rw[e]at this;exact absurd this (Nat.lt_irrefl _))];exact d
      have Vk:=BR.mono ah Zq;have ag:=br.move z.wr Q CN af Vk (λ_ _=>rfl) rfl rfl rfl;refine⟨_,c.set Z.nx (r,sz),rfl,?_,(z.trans ag).ue (λq x d=>?_) rfl⟩
      .exact .pX _ _ 0 _ _ aa grow r sz (Ren.eZ _ _ _) J (hI _) (by show n+1<=aa;omega) (λ_=>rfl) (by simpa using p5)
      .show((Z.m.put b none).put Z.nx _).g q=(((Z.m.put b (U1.m.g b)).put b none).put Z.nx _).g q;rw[PT.fw,PT.fw,PT.fw,PT.fw,PT.fw]
       by_cases j:q=Z.nx
       .rw[gq j,gq j]
       .rw[B j,B j]
        by_cases a:q=b
        .rw[gq a,gq a]
        .rw[B a,B a,B a]
   .cases h
  .cases h
 .cases h
