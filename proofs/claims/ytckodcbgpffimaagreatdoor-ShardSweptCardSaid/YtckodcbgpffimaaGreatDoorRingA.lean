import Derived.Test.YtckodcbgpffimaaGreatDoorDisk
namespace Lim
open Go
noncomputable section
set_option linter.defProp false
set_option maxRecDepth 100000
def le:Nat->Nat->δ Γ
 |0,_=>[]
 |k+1,n=>le k n++[UInt8.ofNat (n/256^k%256)]
def jv (k n:Nat):(le k n).length=k:=by induction k with|zero=>rfl|succ k a=>simp[le,a]
structure Piece where
 n:Nat
 last:Bool
 data:List UInt8
def Piece.bX (p:Piece):kh:=le 8 p.n++[if p.last=θ then 1 else 0,UInt8.ofNat (p.data.length%256),UInt8.ofNat (p.data.length/256%256)]++p.data++List.replicate (501-p.data.length) 0
def Piece.sL (p:Piece)(h:p.data.length<=501):p.bX.length=512:=by
 simp only[Piece.bX,km,jv,lx,IR,F0];omega
def Bl {n size b o j:Nat}(h:j<n)(Z:O):gE n size (.ptr b o) (I j) Z=.ok (.ptr b (o+j*size)) Z:=by
 have e:gE n size (.ptr b o) (I j) Z=bF (Nat.ble (Nat.succ j) n) (qT (Nat.add o (Nat.mul j size)) λo=>.ok (.ptr b o) Z) .bad:=rfl;rw[e,aS,gq ô];rfl
def Fj (n i:Nat)(hi:i<8)(d:υ lB)(c:Bool)(Z:O):R .shr d c (I n) (ζ (8*i)) Z=.ok (ζ (n/256^i)) Z:=by
 have e:R .shr d c (I n) (ζ (8*i)) Z=if ((8*i:Nat):Int)<0 then .bad else .ok (I ((n:Int).fdiv (2^(min ((8*i:Nat):Int).toNat 64)))) Z:=rfl
 rw[e,B J,û,us J,aNu _ (Int.le_of_lt (Int.pow_pos J))]
 congr 2
 have:(2:Nat)^(8*i)=256^i:=by rw[Nat.pow_mul]
 rw[<-this];simp
def Ks (n:Nat)(k:IntKind)(Z:O):cX (.toInt .u8) (.int k (n:Int)) Z=.ok (bG (UInt8.ofNat (n%256))) Z:=by
 rw[jG _ J];show OR.ok (.int .u8 (IntKind.u8.wrap n)) Z=_;rw[QQ]
def ye (a Bq0:δ K)(x y:K):bC (a++x::Bq0) a.length [y]=a++y::Bq0:=by
 unfold bC;simp
def rO (P a T:δ K):bC (P++a) P.length T=P++(T++a.drop T.length):=by
 unfold bC;simp[List.drop_append]
def rD (n:Nat):zr n=al (List.replicate n 0):=by unfold zr al;rw[List.map_replicate];rfl
section
variable {Z Z':O}
def DS {X:List Nat}{v:K}{p:Piece}(h:Sl Z X v 1 (al p.data))(hd:p.data.length<=501)(hn:p.n<9223372036854775808):Rq0 234 [.agg [I p.n,.bool p.last,v]] Z λx Z'=>x=.agg (al p.bX)/\Kp [] Z Z':=by
 refine bE ?_;rw[ape];simp only[bz,bW,aP];refine⟨rfl,?_⟩;show cV _ _ _;simp only[ke];have lQ:Kp [] Z (O.new (O.new (O.new Z (.cells [I p.n,.bool p.last,v] 276 false)) (.cells (zr 512) 327 false)) (.cells (zr 512) 327 false)):=(((Kp.refl [] Z).new _).new _).new _
 refine bD (λm r s=>∃i,m+i=8/\r=[.ptr Z.nx 0,.ptr (Z.nx+1) 0,.ptr (Z.nx+2) 0,I i]/\Kp [] Z s/\s.nx=Z.nx+3/\s.m.g Z.nx=some (.cells [I p.n,.bool p.last,v] 276 false)/\s.m.g (Z.nx+1)=some (.cells (zr 512) 327 false)/\
  s.m.g (Z.nx+2)=some (.cells (al (le i p.n++List.replicate (512-i) 0)) 327 false)) ?_ (n:=8) ⟨0,rfl,rfl,lQ,rfl,?_,?_,?_⟩
 .rintro m r s k ⟨i,hm,rfl,c,o,g1,j,d⟩ next
  by_cases hi:i<8
  .have fB:(i:Int)<8:=by omega
   have e1:IntKind.i64.wrap (8*(i:Int))=((8*i:Nat):Int):=aaD
   have e2:IntKind.i64.wrap ((i:Int)+1)=((i+1:Nat):Int):=aaD
   have G:∀s,R .lss none true (I i) (.int .i64 8) s=.ok (.bool true) s:=λs=>by rw[au,cU];simp only[fB,PO]
   have e4:∀s,R .mul none true (.int .i64 8) (I i) s=.ok (I ((8*i:Nat):Int)) s:=λs=>by rw[au,jS,e1]
   have e5:∀s,R .add none true (I i) (.int .i64 1) s=.ok (I ((i+1:Nat):Int)) s:=λs=>by rw[au,cE,e2]
   simp only[ke,G,ly,ag,ix,fl,g1,io,e4,Fj _ _ hi,Ks,Bl (show i<512 from J),xz,d,e5];refine⟨⟨rfl,rfl,by simp[jv];omega⟩,next (m-1) _ _ J ⟨i+1,J,rfl,c.set _ (.inr J) J,o,?_,?_,?_⟩⟩
   .rw[ar _ _ _ _ J];exact g1
   .rw[ar _ _ _ _ J];exact j
   .rw[ao]
    congr 2
    have e6:List.replicate (512-i) (0:UInt8)=0::List.replicate (512-(i+1)) 0:=by
     rw[show 512-i=(512-(i+1))+1 from J,aNr]
    rw[e6,bQ,bQ];have:=ye (al (le i p.n)) (al (List.replicate (512-(i+1)) 0)) (bG 0) (bG (UInt8.ofNat (p.n/256^i%256)));rw[bP,jv]at this;simp only[Fi];show bC (al (le i p.n)++bG 0::al _) i [bG _]=_;rw[this];simp[le,al]
  .have fB:¬(i:Int)<8:=by omega
   have w:i=8:=J
   subst w
   have hb:al (le 8 p.n++List.replicate (512-8) 0)=al (le 8 p.n)++(bG 0::bG 0::bG 0::al (List.replicate 501 0)):=by
    rw[bQ];rfl
   have N:(al (le 8 p.n)).length=8:=by simp[jv]
   rw[hb]at d;have G:∀s,R .lss none true (I ((8:Nat):Int)) (.int .i64 8) s=.ok (.bool false) s:=λs=>rfl;simp only[ke,G,ll,ii]
   refine iO (λr s=>r=[.ptr Z.nx 0,.ptr (Z.nx+1) 0,.ptr (Z.nx+2) 0]/\Kp [] Z s/\s.nx=Z.nx+3/\s.m.g Z.nx=some (.cells [I p.n,.bool p.last,v] 276 false)/\s.m.g (Z.nx+1)=some (.cells (zr 512) 327 false)/\
    s.m.g (Z.nx+2)=some (.cells (al (le 8 p.n)++(bG (if p.last=true then 1 else 0)::bG 0::bG 0::al (List.replicate 501 0))) 327 false)) ?_ ?_
   .intro k' M;have e8:∀s,gE 512 1 (.ptr (Z.nx+2) 0) (.int .i64 8) s=.ok (.ptr (Z.nx+2) 8) s:=λs=>rfl;simp only[fl,ly,g1,kc,io,ag]
    by_cases u:p.last=true
    .simp only[u,ix,e8,af,xz,d];refine⟨⟨rfl,rfl,by simp[jv]⟩,M _ _ ⟨rfl,c.set _ (.inr J) J,o,?_,?_,?_⟩⟩
     .rw[ar _ _ _ _ J];exact g1
     .rw[ar _ _ _ _ J];exact j
     .rw[ao];have:=ye (al (le 8 p.n)) (bG 0::bG 0::al (List.replicate 501 0)) (bG 0) (bG 1);rw[N]at this;rw[gq u,<-this];rfl
    .simp only[u,pi,ii];exact M _ _ ⟨rfl,c,o,g1,j,by rw[B u];exact d⟩
   .rintro _ s ⟨rfl,c,o,g1,j,d⟩;have e9:∀s,gE 512 1 (.ptr (Z.nx+2) 0) (.int .i64 9) s=.ok (.ptr (Z.nx+2) 9) s:=λs=>rfl;have Od:∀s,gE 512 1 (.ptr (Z.nx+2) 0) (.int .i64 10) s=.ok (.ptr (Z.nx+2) 10) s:=λs=>rfl;have XS:∀s,cD 512 1 (.ptr (Z.nx+2) 0) (some (.int .i64 11)) none s=.ok (.slice (Z.nx+2) 11 501 501 0) s:=λs=>rfl;have hlen:=h.len p.data.length V J;have D:∀s,cX (.toInt .u8) (I p.data.length) s=.ok (bG (UInt8.ofNat (p.data.length%256))) s:=λs=>Ks _ _ _
    have C:∀s,R .shr none true (I p.data.length) (.int .u64 8) s=.ok (I ((p.data.length/256:Nat):Int)) s:=λs=>by
     have e:R .shr none true (I p.data.length) (.int .u64 8) s=.ok (I ((p.data.length:Int).fdiv 256)) s:=rfl;rw[e,aNu _ J];rfl
    have z:∀s,cX (.toInt .u8) (I ((p.data.length/256:Nat):Int)) s=.ok (bG (UInt8.ofNat (p.data.length/256%256))) s:=λs=>Ks _ _ _;generalize y:(if p.last=true then (1:UInt8)else 0)=a at*;have F:Z.nx≠Z.nx+2:=J
    simp only[ke,aZ,ly,g1,d,kc,io,hlen,D,C,z,e9,Od,XS,xz,ao,ar _ _ _ _ F];have Q:∀b:UInt8,(bG b).bY=[bG b]:=λ_=>rfl
    have BH:al p.bX=al (le 8 p.n)++(bG a::bG (UInt8.ofNat (p.data.length%256))::bG (UInt8.ofNat (p.data.length/256%256))::(al p.data++al (List.replicate (501-p.data.length) 0))):=by
     simp[Piece.bX,al,y]
    generalize UInt8.ofNat (p.data.length%256)=b1 at*;generalize UInt8.ofNat (p.data.length/256%256)=l at*;have o1:=ye (al (le 8 p.n)++[bG a]) (bG 0::al (List.replicate 501 0)) (bG 0) (bG b1);have o2:=ye (al (le 8 p.n)++[bG a,bG b1]) (al (List.replicate 501 0)) (bG 0) (bG l);have o3:=rO (al (le 8 p.n)++[bG a,bG b1,bG l]) (al (List.replicate 501 0)) (al p.data);simp only[we,ut,ow,km,N,lx,IR,Nat.reduceAdd]at o1 o2 o3;rw[Q,Q,o1,o2];have ab:(al (le 8 p.n)++bG a::bG 0::bG 0::al (List.replicate 501 0)).length=512:=by simp[jv]
    have Au:(al (le 8 p.n)++bG a::bG b1::bG 0::al (List.replicate 501 0)).length=512:=by simp[jv]
    have PN:(al (le 8 p.n)++bG a::bG b1::bG l::al (List.replicate 501 0)).length=512:=by simp[jv]
    refine⟨⟨rfl,rfl,J⟩,⟨rfl,rfl,J⟩,⟨gt,⟨gt,gt⟩,gt⟩,gt,?_⟩;simp only[set_set]
    have lP:Sl (O.set s (Z.nx+2) (.cells (al (le 8 p.n)++bG a::bG b1::bG l::al (List.replicate 501 0)) 327 false)) [] v 1 (al p.data):=by
     exact(h.fc (Y:=[]) V).mono (c.set _ (.inr J) J)
    obtain⟨s4,c1,c2,P,H⟩:=R4 (n:=501) (cap:=501) (off:=11) lP (ao _ _ _) xI (by rw[PN];simp;omega) (bK _);rw[c1,aP]
    have L:bC (al (le 8 p.n)++bG a::bG b1::bG l::al (List.replicate 501 0)) 11 (al p.data)=al p.bX:=by
     have e0:(al (List.replicate 501 0)).drop (al p.data).length=al (List.replicate (501-p.data.length) 0):=by
      unfold al;rw[<-JO,aNP,so]
     rw[BH,o3,e0]
    rw[L]at P;have S:(al p.bX).length=512:=by simp[Piece.sL p hd]
    have g4:s4.m.g (Z.nx+1)=some (.cells (zr 512) 327 false):=by rw[H _ J,ar _ _ _ _ J];exact j
    have ht:List.take 512 (al p.bX)=al p.bX:=lw J;have f:(zr 512).length=512:=F0;have W:bC (zr 512) 0 (al p.bX)=al p.bX:=db _ _ (by rw[f];exact S);have aa:=c2.trans o;simp only[nW,P,g4,ak,aU,yj,tu,oa,ht,aN,S,bK,f,W,ao];refine⟨⟨gt,gt⟩,gt,hI _,⟨gt,gt,hI _⟩,hI _,gt,?_⟩;have T:Kp [] Z s4:=⟨J,λq h1 h2=>?_,λhf q hq=>?_⟩
    .exact T.set _ (.inr J) J
    .rw[H q J,ar _ _ _ _ J];exact c.keep q h1 h2
    .rw[H q J,ar _ _ _ _ J];exact c.fresh hf q J
 .rw[bo _ _ _ xI,bo _ _ _ V];exact ay _ _
 .rw[bo _ _ _ V];exact ay _ _
 .have:(O.new (O.new Z (.cells [I p.n,.bool p.last,v] 276 false)) (.cells (zr 512) 327 false)).nx=Z.nx+2:=by simp
  rw[<-this];refine(ay _ _).trans ?_;rw[rD];rfl
end
def abN {k n i:Nat}(h:i<k):(le k n)[i]?=Φ (UInt8.ofNat (n/256^i%256)):=by
 induction k with
 |zero=>omega
 |succ k a=>
  simp only[le]
  by_cases hi:i<k
  .rw[Å (by rw[jv];exact hi)];exact a hi
  .have:i=k:=by omega
   subst this;rw[é (by rw[jv];exact hI _),jv,Nat.sub_self];rfl
def KC {p:Piece}{i:Nat}(h:i<8):(al p.bX)[i]?=Φ (bG (UInt8.ofNat (p.n/256^i%256))):=by
 unfold Piece.bX al;rw[ul,we,we,Å (by rw[jv];exact h),abN h];rfl
def HJ (p:Piece):(al p.bX)[8]?=Φ (bG (if p.last=θ then 1 else 0)):=by
 unfold Piece.bX al;rw[ul,we,we,é (by rw[jv];exact hI _),jv];rfl
def Rx (p:Piece):(al p.bX)[9]?=Φ (bG (UInt8.ofNat (p.data.length%256))):=by
 unfold Piece.bX al;rw[ul,we,we,é (by rw[jv];omega),jv];rfl
def OX (p:Piece):(al p.bX)[10]?=Φ (bG (UInt8.ofNat (p.data.length/256%256))):=by
 unfold Piece.bX al;rw[ul,we,we,é (by rw[jv];omega),jv];rfl
def HI (p:Piece):((al p.bX).drop 11).take p.data.length=al p.data:=by
 have e:al p.bX=(al (le 8 p.n)++al [if p.last=θ then 1 else 0,UInt8.ofNat (p.data.length%256),UInt8.ofNat (p.data.length/256%256)])++(al p.data++al (List.replicate (501-p.data.length) 0)):=by
  simp only[Piece.bX,bQ,we]
 have a:(al (le 8 p.n)++al [if p.last=θ then (1:Γ)else 0,UInt8.ofNat (p.data.length%256),UInt8.ofNat (p.data.length/256%256)]).length=11:=by rw[km,bP,bP,jv];rfl
 rw[e,List.drop_append,ys J,a,Nat.sub_self,tu,ow,WF,lw V];simp
def VX:mq=(Piece.mk 0 false []).bX:=acQ
def MS (k:Nat)(h:k<9223372036854775808):IntKind.i64.wrap (k:Int)=(k:Int):=bt J
def YC (a m:Nat)(k:Nat)(h:a<2^k)(b:a+m*2^k<9223372036854775808):lr .or .i64 (a:Int) ((m*2^k:Nat):Int)=Φ ((a+m*2^k:Nat):Int):=by
 have e:lr .or .i64 (a:Int) ((m*2^k:Nat):Int)=Φ (IntKind.i64.wrap ((BitVec.ofInt 64 (a:Int)|||BitVec.ofInt 64 ((m*2^k:Nat):Int)).toNat:Int)):=rfl;rw[e,aNn,aNn,BitVec.toNat_or,aNz,aNz,QF J,QF J,Nat.or_comm,LH m,<-Nat.two_pow_add_eq_or_of_lt h,MS _ (by rw[LH];omega),LH,æ]
def R7 (a m k:Nat)(h:a<2^k)(b:a+m*2^k<9223372036854775808)(d:υ lB)(c:Bool)(Z:O):R .or d c (I a) (ζ (m*2^k)) Z=.ok (ζ (a+m*2^k)) Z:=by
 have e:R .or d c (I a) (ζ (m*2^k)) Z=(match lr .or .i64 (a:Int) ((m*2^k:Nat):Int)with|some r=>.ok (I r) Z|none=>.bad):=rfl;rw[e,YC a m k h b]
def R6 (a m k:Nat)(h:a<2^k)(b:a+m*2^k<18446744073709551616)(d:υ lB)(c:Bool)(Z:O):R .or d c (.int .u64 a) (.int .u64 ((m*2^k:Nat):Int)) Z=.ok (.int .u64 ((a+m*2^k:Nat):Int)) Z:=by
 have e:R .or d c (.int .u64 a) (.int .u64 ((m*2^k:Nat):Int)) Z=(match lr .or .u64 (a:Int) ((m*2^k:Nat):Int)with|some r=>.ok (.int .u64 r) Z|none=>.bad):=rfl;rw[e,ahB a m k h b]
def Pd (a k:Nat)(f:k<=64)(b:a*2^k<18446744073709551616)(d:υ lB)(c:Bool)(Z:O):R .shl d c (.int .u64 a) (I k) Z=.ok (.int .u64 ((a*2^k:Nat):Int)) Z:=by
 have e:R .shl d c (.int .u64 a) (I k) Z=if (k:Int)<0 then .bad else .ok (.int .u64 (IntKind.u64.wrap ((a:Int)*2^(min (k:Int).toNat 64)))) Z:=rfl
 rw[e,B J,û,us f];have g:(a:Int)*2^k=((a*2^k:Nat):Int):=V
 rw[g,uW _ b]
def AW (n:Nat)(h:n<9223372036854775808)(k:IntKind)(Z:O):cX (.toInt .i64) (.int k (n:Int)) Z=.ok (I n) Z:=by
 show OR.ok (I (IntKind.i64.wrap n)) Z=_;rw[MS n h]
def agO (n:Nat)(h:n<18446744073709551616)(k:IntKind)(Z:O):cX (.toInt .u64) (.int k (n:Int)) Z=.ok (.int .u64 n) Z:=by
 show OR.ok (.int .u64 (IntKind.u64.wrap n)) Z=_;rw[uW n h]
def Pe (a b:δ Γ)(n:Nat)(f:a.length=n)(d:b.length=n)(c:Bool)(Z:O):R .neq (Φ (.bytes n)) c (.agg (al a)) (.agg (al b)) Z=.ok (.bool (!(a==b))) Z:=by
 rw[pB];have e:mN (.bytes n) (.agg (al a)) (.agg (al b))=(match Ka (al a),Ka (al b)with|some a,some b=>bF (decide (a.length=n)&&decide (b.length=n)) (Φ (a==b)) ν|_,_=>ν):=rfl;have i:Ka (al a)=Φ a:=EY a;have g:Ka (al b)=Φ b:=EY b;rw[e,i,g];simp[f,d,aS]
section
variable {Z Z':O}
def Piece.ok (p:Piece):Prop:=p.n<=4611686018427387904/\p.data.length<=501/\(p.n=0->p.data=[]/\p.last=φ)/\(p.n≠0->p.last=φ->p.data.length=501)
def aeV (p:Piece)(Z:O)(x:K)(Z':O):Prop:=∃v,x=.agg [I p.n,.bool p.last,v]/\Made 1 5 (al p.data) Z v Z'
def Lg {p:Piece}(hf:dV Z)(hp:p.ok):Rq0 201 [.agg (al p.bX)] Z λx Z'=>∃y,x=.tuple [y,.bool (decide (p.n≠0))]/\aeV p Z y Z':=by
 obtain⟨aw,PJ,P,N⟩:=hp;refine bE ?_;rw[apC];have hlen:=Piece.sL p PJ;have vu:(al p.bX).length=512:=by simp[hlen]
 have e9:∀s,gE 512 1 (.ptr Z.nx 0) (I 9) s=.ok (.ptr Z.nx 9) s:=λs=>rfl;have Od:∀s,gE 512 1 (.ptr Z.nx 0) (I 10) s=.ok (.ptr Z.nx 10) s:=λs=>rfl
 have f9:∀s,cX (.toInt .i64) (bG (UInt8.ofNat (p.data.length%256))) s=.ok (ζ (p.data.length%256)) s:=λs=>by
  rw[jG _ J,AW _ J]
 have ai:∀s,cX (.toInt .i64) (bG (UInt8.ofNat (p.data.length/256%256))) s=.ok (ζ (p.data.length/256%256)) s:=λs=>by
  rw[jG _ J,AW _ J]
 have ah:∀s,R .shl ν true (ζ (p.data.length/256%256)) (.int .u64 8) s=.ok (ζ (p.data.length/256%256*2^8)) s:=λs=>by
  have e:R .shl ν true (ζ (p.data.length/256%256)) (.int .u64 8) s=.ok (I (IntKind.i64.wrap (((p.data.length/256%256:Nat):Int)*2^8))) s:=rfl;rw[e,bt J];simp
 have ag:∀s,R .or ν false (ζ (p.data.length%256)) (ζ (p.data.length/256%256*2^8)) s=.ok (I p.data.length) s:=λs=>by
  rw[R7 _ _ _ J J];congr 3;omega
 have hx:(K.agg (al p.bX)).isAny=φ:=rfl;have G:Kp [] Z (O.new (O.new Z (ϡ (al p.bX))) ϐc):=((Δ [] Z).new _).new _
 have g1:(O.new (O.new Z (ϡ (al p.bX))) ϐc).m.g Z.nx=Φ (ϡ (al p.bX)):=by
  rw[bo _ _ _ V];exact ay _ _
 have g2:(O.new (O.new Z (ϡ (al p.bX))) ϐc).m.g (Z.nx+1)=Φ ϐc:=ay (O.new Z (ϡ (al p.bX))) _;simp only[bz,bW,aP,aN];refine⟨rfl,?_⟩;simp only[aZ,e9,Od,rb,av,g1,Rx,OX,f9,ai,ah,ag];refine⟨⟨gt,gt,gt⟩,gt,?_⟩;show cV ..;simp only[ke,ym];refine bD (λm vs s=>∃i,m+i=8/\vs=[.ptr Z.nx 0,.ptr (Z.nx+1) 0,.int .u64 ((p.n%256^i:Nat):Int),I p.data.length,I i]/\s=(O.new (O.new Z (ϡ (al p.bX))) ϐc)) ?_ (n:=8) ⟨0,rfl,by simp[Nat.mod_one],rfl⟩;rintro m vs s k ⟨i,hm,rfl,rfl⟩ next;generalize hS:(O.new (O.new Z (ϡ (al p.bX))) ϐc)=S at*;have u:S.nx=Z.nx+2:=by rw[<-hS];rfl
 by_cases hi:i<8
 .have fB:(i:Int)<8:=by omega
  have a1:R .lss ν true (I i) (I 8) S=.ok ι S:=by rw[au,cU];simp only[fB,PO]
  have a2:R .mul ν true (I 8) (I i) S=.ok (ζ (8*i)) S:=MR
  have a3:R .add ν true (I i) ϖ S=.ok (ζ (i+1)) S:=AU
  have a4:cX (.toInt .u64) (bG (UInt8.ofNat (p.n/256^i%256))) S=.ok (.int .u64 ((p.n/256^i%256:Nat):Int)) S:=by rw[jG _ J,agO _ J]
  have F:(2:Nat)^(8*i)=256^i:=by rw[Nat.pow_mul]
  have aL:256^i<=256^7:=Nat.pow_le_pow_right J J
  have a:p.n/256^i%256*256^i<=p.n:=by
   have j:p.n/256^i%256<=p.n/256^i:=Nat.mod_le _ _;exact rx (zv _ j) (Nat.div_mul_le_self _ _)
  have Gr:p.n%256^i<256^i:=NO _ (Nat.pow_pos J)
  have oT:p.n%256^i+p.n/256^i%256*256^i=p.n%256^(i+1):=by
   rw[WP,Nat.mod_mul,LH (256^i)]
  have a5:R .shl ν false (.int .u64 ((p.n/256^i%256:Nat):Int)) (ζ (8*i)) S=.ok (.int .u64 ((p.n/256^i%256*2^(8*i):Nat):Int)) S:=Pd _ _ J (by rw[F];omega) _ _ _
  have a6:R .or ν false (.int .u64 ((p.n%256^i:Nat):Int)) (.int .u64 ((p.n/256^i%256*2^(8*i):Nat):Int)) S=.ok (.int .u64 ((p.n%256^(i+1):Nat):Int)) S:=by
   rw[R6 _ _ _ (by rw[F];exact Gr) (by rw[F,oT];have:=Nat.mod_le p.n (256^(i+1));omega),F,oT]
  simp only[DJ,a1,ix,Bl (show i<512 from J),zac,Fi,av,g1,KC hi,a4,a2,a5,a6,a3];exact next (m-1) _ _ J ⟨i+1,J,rfl,rfl⟩
 .have ab:i=8:=by omega
  subst ab;have W:p.n%256^8=p.n:=QF J;rw[W];have a1:∀s,R .lss ν true (ζ 8) (I 8) s=.ok Θ s:=λs=>rfl;simp only[ke,a1,ll,ii]
  by_cases v:p.n=0
  .obtain⟨d0,l0⟩:=P v;have b1:∀s,R .lss ν true (.int .u64 ((p.n:Nat):Int)) (.int .u64 1) s=.ok ι s:=λs=>by rw[v];rfl
   have aq:p=⟨0,φ,[]⟩:=by cases p;simp_all
   simp only[b1,xk,ix,ii,eK,mi,xz,g2,aN,nW,ao,ak,yj];refine⟨⟨rfl,rfl,tW⟩,tW,.agg [I p.n,.bool p.last,.ae],?_,.ae,rfl,[],G.set _ (.inr J) J,.inl ⟨rfl,by rw[d0];rfl,rfl⟩,V⟩;rw[v,l0];rfl
  .have b1:∀s,R .lss ν true (.int .u64 ((p.n:Nat):Int)) (.int .u64 1) s=.ok Θ s:=λs=>by
    rw[au,cU,jo J]
   have b2:∀s,R .gtr ν true (.int .u64 ((p.n:Nat):Int)) (.int .u64 4611686018427387904) s=.ok Θ s:=λs=>by
    rw[au,cQ,jo J]
   have b3:∀s,R .gtr ν true (I p.data.length) (I 501) s=.ok Θ s:=λs=>by
    rw[au,cQ,jo J]
   have b4:∀s,cX (.toInt .i64) (.int .u64 ((p.n:Nat):Int)) s=.ok (I p.n) s:=λs=>AW _ J _ _;have e8:∀s,gE 512 1 (.ptr Z.nx 0) (I 8) s=.ok (.ptr Z.nx 8) s:=λs=>rfl;generalize r:O.new (O.skip S) ϐc=d;have am:d.nx=Z.nx+4:=by rw[<-r];simp;omega
   have lQ:Kp [] Z d:=by rw[<-r];exact G.skip.new _
   have wA:d.m.g S.nx=ν:=by rw[<-r,bo _ _ _ V];exact G.fresh hf _ (hI _)
   have M:d.m.g (Z.nx+3)=Φ ϐc:=by
    have:Z.nx+3=(O.skip S).nx:=xI
    rw[this,<-r];exact ay _ _
   have mW:d.m.g Z.nx=Φ (ϡ (al p.bX)):=by rw[<-r,bo _ _ _ xI];exact g1
   have yV:d.m.g (Z.nx+1)=Φ ϐc:=by rw[<-r,bo _ _ _ xI];exact g2
   have b8:∀s,R .eql ψ true (bG (if p.last=θ then 1 else 0)) (.int .u8 1) s=.ok (.bool p.last) s:=λs=>by cases p.last<;>rfl
   have aj:(O.skip S).nx=Z.nx+3:=xI
   simp only[b1,ii,GT,b2,b3,b4,e8,av,mW,lW,HJ,b8,u,aj];rw[u]at wA;have BV:gY ([]:δ wa) (cr 0 [K.int .u8 0])=Φ []:=rfl;rw[fY wA BV,aP]
   have c1:∀s,R .add ν true (I 11) (I p.data.length) s=.ok (ζ (11+p.data.length)) s:=λs=>by
    rw[au,cE,bt J];rfl
   have c2:∀s,cD 512 1 (.ptr Z.nx 0) (Φ (I 11)) (Φ (ζ (11+p.data.length))) s=.ok (.slice Z.nx 11 p.data.length 501 0) s:=λs=>by
    have:=xX (n:=512) (b:=Z.nx) (l:=11) (h:=11+p.data.length) J J J s;rw[aMZ]at this;exact this
   have vt:Kp [] Z (O.set d (Z.nx+2) (Ϡ [])):=lQ.set _ (.inr J) J;have aH:(O.set d (Z.nx+2) (Ϡ [])).nx=Z.nx+4:=am;have Ax:(O.set d (Z.nx+2) (Ϡ [])).m.g Z.nx=Φ (ϡ (al p.bX)):=by rw[ar _ _ _ _ J];exact mW
   have NZ:(O.set d (Z.nx+2) (Ϡ [])).m.g (Z.nx+1)=Φ ϐc:=by rw[ar _ _ _ _ J];exact yV
   have Vn:(O.set d (Z.nx+2) (Ϡ [])).m.g (Z.nx+3)=Φ ϐc:=by rw[ar _ _ _ _ J];exact M
   have Q:Own (O.set d (Z.nx+2) (Ϡ [])) (.slice (Z.nx+2) 0 0 0 0) 1 5 [] [Z.nx+2]:=.inr (.inl ⟨_,_,_,_,rfl,rfl,rfl,ao ..⟩);generalize O.set d (Z.nx+2) (Ϡ [])=C at*;have lP:Sl C [] (.slice Z.nx 11 p.data.length 501 0) 1 (al p.data):=.inr ⟨Z.nx,11,p.data.length,501,0,rfl,V,⟨PJ,.inl rfl⟩,.inr ⟨V,J,_,_,_,Ax,by rw[vu];omega,by rw[Fi];exact HI p⟩⟩;have c3:=(lP.Us J p.data.length V).1
   have c4:cZ .slice 1 [ϕ] (.slice Z.nx 11 p.data.length 501 0) C=Φ (p.data.length,al p.data):=by
    have e:cZ .slice 1 [ϕ] (.slice Z.nx 11 p.data.length 501 0) C=(match dW 1 p.data.length (.slice Z.nx 11 p.data.length 501 0) C with|some s=>Φ (p.data.length,s)|none=>ν):=rfl;rw[e,c3]
   obtain⟨v',c,F',d1,D,d3,d4⟩:=Q.append (n:=p.data.length) (bytes:=1) (T:=al p.data) J V (bK _) xI xI;rw[ow]at D;obtain⟨o1,o2⟩:=D.cI
   have q:∀b∈F',Z.nx+2<=b/\b<c.nx/\b≠Z.nx+3:=λb a=>by
    obtain⟨j,h2⟩:=d4 b a;simp at j;omega
   have o3:=(D.sl (X:=[]) λb a=>⟨V,(q b a).2.1⟩).bM.1;have H:∀b,b<Z.nx+4->b≠Z.nx+2->c.m.g b=C.m.g b:=λb j h2=>d3.keep b J Vl;have az:Z.nx+4<=c.nx:=by have:=d3.nx;omega
   have aa:=vt.trans d3 V;have yW:=(H Z.nx J J).trans Ax;have ad:=(H (Z.nx+1) J J).trans NZ;have z:=(H (Z.nx+3) J J).trans Vn
   have ql:aR ϐ0 [(0,1,I p.n),(1,1,.bool p.last),(2,1,v')] c=.ok (.agg [I p.n,.bool p.last,v']) c:=by
    rw[eK];simp[cW,bC,o2,o3]
   simp only[c1,rb,c2,c4,d1,GE,ql,jZ z,jZ Vn,z,aN,Ax,yW,HJ];have mL:bC ϐ0 0 [I p.n,.bool p.last,v']=[I p.n,.bool p.last,v']:=db _ _ rfl;rw[mL];refine⟨⟨rfl,Vf,tW⟩,⟨⟨gt,gt,gt⟩,⟨gt,gt,gt⟩,gt⟩,⟨gt,gt⟩,?_⟩;have Y:Kp [] Z (O.set c (Z.nx+3) (ϙ [I p.n,.bool p.last,v'])):=aa.set _ (.inr J) J;have Ki:(O.set c (Z.nx+3) (ϙ [I p.n,.bool p.last,v'])).m.g Z.nx=Φ (ϡ (al p.bX)):=by rw[ar _ _ _ _ J];exact yW
   have ac:(O.set c (Z.nx+3) (ϙ [I p.n,.bool p.last,v'])).m.g (Z.nx+1)=Φ ϐc:=by rw[ar _ _ _ _ J];exact ad
   have w:(O.set c (Z.nx+3) (ϙ [I p.n,.bool p.last,v'])).m.g (Z.nx+3)=Φ (ϙ [I p.n,.bool p.last,v']):=ao ..;have d9:Own (O.set c (Z.nx+3) (ϙ [I p.n,.bool p.last,v'])) v' 1 5 (al p.data) F':=D.mono λb a=>ar _ _ _ _ (q b a).2.2;have ax:(O.set c (Z.nx+3) (ϙ [I p.n,.bool p.last,v'])).nx=c.nx:=rfl;generalize O.set c (Z.nx+3) (ϙ [I p.n,.bool p.last,v'])=S9 at*;have PM:∀s:O,s.m.g (Z.nx+3)=Φ (ϙ [I p.n,.bool p.last,v'])->aF 3 (.ptr (Z.nx+3) 0) s=.ok (.agg [I p.n,.bool p.last,v']) s:=λs L=>aG L rfl;have I2:∀s:O,s.m.g Z.nx=Φ (ϡ (al p.bX))->aF 512 (.ptr Z.nx 0) s=.ok (.agg (al p.bX)) s:=λs L=>aG L vu;rw[PM S9 w,af];refine(DS (p:=p) (d9.sl (X:=[]) λb a=>⟨V,by have:=(q b a).2.1;omega⟩) PJ J).mono ?_;rintro x f ⟨rfl,o⟩;have TI:=(o.keep Z.nx J V).trans Ki;have ap:=(o.keep (Z.nx+1) J V).trans ac;have Mv:=(o.keep (Z.nx+3) J V).trans w
   have q1:R .neq (Φ (.bytes 512)) false (.agg (al p.bX)) (.agg (al p.bX)) f=.ok Θ f:=by
    rw[Pe _ _ _ hlen hlen];simp
   have q2:R .neq ψ true (I p.data.length) (I 501) f=.ok (.bool (!decide (p.data.length=501))) f:=by
    rw[au,dJ];congr 3;simp only[CI];omega
   simp only[I2 f TI,I2 S9 Ki,q1,aD,tw,yU,ix,ii,vr,Mv,kc,io,bZ];have q3:(!p.last)=θ->p.data.length=501:=λh=>N v GU
   have q4:U (kx (Φ !p.last) f (.ok (I p.data.length) f)) λpO=>U (kx (Φ !p.last) f (R .neq ψ true pO (I 501) f)) λtV=>U (bg (.bool !p.last) tV Θ f) λtG=>tG=.bool false:=by
    cases hl:p.last with
    |true=>simp
    |false=>
     have:=q3 (by rw[hl];rfl);simp only[tw,af,q2,aC,ix];rw[this];rfl
   refine mC q4 λ_ j=>mC j λ_ h2=>mC h2 λ_ h3=>?_;subst h3;simp only[aC,ii,ll,PM f Mv,ap,aU,aN,mL];refine⟨⟨gt,⟨gt,gt⟩,gt,gt⟩,gt,⟨rfl,Vf,tW⟩,?_⟩;rw[aG (n:=3) (ao f (Z.nx+1) (ϙ [I p.n,.bool p.last,v'])) rfl,af];have an:=Y.trans o V;have aI:=o.nx;refine⟨.agg [I p.n,.bool p.last,v'],by rw[jp v],v',rfl,F',an.set _ (.inr J) J,d9.mono λb a=>?_,λb a=>⟨by have:=(q b a).1;omega,by have:=(q b a).2.1;simp;omega⟩⟩;obtain⟨j,h2,h3⟩:=q b a;rw[ar _ _ _ _ J];exact o.keep b J V
end
section
variable {r a n:Nat}{F:δ Nat}{D:aX}
section
variable {Z Z':O}
structure RingM where
 first:Nat
 count:Nat
 base:Nat
 last:Nat
 top:Nat
def gR (Z:O)(r a:Nat)(m:RingM):Prop:=r<Z.nx/\Z.m.g r=Φ (Ú [.ptr a 0,I m.first,I m.count,I m.base,I m.last,I m.top])
def gR.keep {m:RingM}{X:δ Nat}(h:gR Z r a m)(b:Kp X Z Z')(c:r∉X):gR Z' r a m:=⟨ov h.1 b.nx,by rw[b.keep r h.1 c];exact h.2⟩
def RingM.place (m:RingM)(n:Nat):Nat:=m.first+n%m.count
def Bg {m:RingM}(h:gR Z r a m)(c:0<m.count)(f:m.first+m.count<=1000000)(g:n<=9000000000000000000):Rq0 202 [.ptr r 0,I n] Z λv Z'=>v=I (m.place n)/\Z'=Z:=by
 obtain⟨j,b⟩:=h;refine bE ?_;rw[apB]
 have e:IntKind.i64.wrap ((m.first:Int)+Int.tmod n m.count)=((m.place n:Nat):Int):=by
  have i:n%m.count<m.count:=NO _ c;have:Int.tmod (n:Int) m.count=((n%m.count:Nat):Int):=by rw[Int.tmod_eq_emod_of_nonneg J];rfl
  rw[this];unfold RingM.place;rw[bt J];omega
 have d:¬m.count=0:=J
 simp[b,e,d]
def zd {m:RingM}(h:gR Z r a m)(b:dz Z a F D):Rq0 230 [.ptr r 0] Z λv Z'=>v=I (if D.dead=θ then 20 else 0)/\Z'=Z:=by
 obtain⟨d,c⟩:=h;refine bE ?_;rw[api];simp[fP,c];refine(XW b).same ?_;cases D.dead<;>simp
def E4 {m:RingM}(h:gR Z r a m):Rq0 232 [.ptr r 0] Z λv Z'=>v=.bool (decide (m.last<m.top))/\Z'=Z:=by
 obtain⟨c,b⟩:=h;refine bE ?_;rw[apg];simp[b]
def aaR {m:RingM}(h:gR Z r a m):Rq0 115 [.ptr r 0] Z λv Z'=>v=I m.top/\Z'=Z:=by
 obtain⟨c,b⟩:=h;refine bE ?_;rw[aqM];simp[fP,b]
def RingM.room (m:RingM):Int:=if m.last<m.top then 0 else (m.count:Int)-((m.last:Int)-m.base)
def M6 {m:RingM}(h:gR Z r a m)(i:m.count<=1000000)(g:m.base<=4611686018427387904)(f:m.last<=4611686018427387904):Rq0 233 [.ptr r 0] Z λv Z'=>v=I m.room/\Z'=Z:=by
 have c:=h;obtain⟨j,d⟩:=h;refine bE ?_;rw[apf];simp;refine(E4 c).same ?_
 by_cases b:m.last<m.top
 .simp[b,RingM.room]
 .have e1:IntKind.i64.wrap ((m.last:Int)-m.base)=(m.last:Int)-m.base:=bt J;have e:IntKind.i64.wrap ((m.count:Int)-((m.last:Int)-m.base))=(m.count:Int)-((m.last:Int)-m.base):=bt J;simp[b,d,RingM.room,e1,e]
def bf (n:Nat):Nat:=if n=0 then 1 else (n-1)/501+1
def DW (g:n<=1000000000):Rq0 231 [I n] Z λv Z'=>v=I (bf n)/\Z'=Z:=by
 refine bE ?_;rw[aph];have f:¬(n:Int)<0:=J
 by_cases b:n=0
 .simp[b,bf]
 .have e1:IntKind.i64.wrap ((n:Int)-1)=((n-1:Nat):Int):=by rw[bt J];omega
  have e:IntKind.i64.wrap (Int.tdiv ((n-1:Nat):Int) 501)=(((n-1)/501:Nat):Int):=by
   have:Int.tdiv ((n-1:Nat):Int) 501=(((n-1)/501:Nat):Int):=rfl;rw[this,bt J]
  have d:IntKind.i64.wrap ((((n-1)/501:Nat):Int)+1)=((bf n:Nat):Int):=by
   rw[bt J];unfold bf;rw[B b];omega
  have c:¬(n:Int)=0:=J
  simp only[au,cU,cn,dY,RZ,cE,ll,f,c,FS,ii,e1,aaP,e,d];simp
def VQ {m:RingM}(h:gR Z r a m)(c:dz Z a F D)(d:D.waits.length<=1000000000):Rq0 187 [.ptr r 0] Z λv Z'=>v=I (if D.flush.1=0 then 0 else 20)/\zG a F Z D.flush.2 Z':=by
 have j:=h;obtain⟨k,g⟩:=h;refine bE ?_;rw[apK];refine(zd j c).same ?_
 by_cases b:D.dead=θ
 .have e:D.flush=(20,D):=by simp[aX.flush,b]
  simp[b,e];exact⟨Δ _ _,F,c,lk⟩
 .simp[b,fP,g];refine(yC c d).mono ?_;rintro _ s ⟨rfl,f⟩
  by_cases i:D.flush.1=0<;>simp[i,f]
def HO {m:RingM}{p:Piece}{at_:Nat}(X:dV Z)(h:gR Z r a m)(Y:dz Z a F D)(hr:r∉F)(L:D.dead=φ)(h0:0<m.count)(Q:m.first+m.count<=1000000)
 (mz:at_<D.aB.length) (w:p.ok) (hc:D.cur at_=p.bX):Rq0 156 [.ptr r 0,I at_] Z λx Z'=>∃y,x=.tuple [y,.bool (decide (p.n≠0/\m.place p.n=at_)),μ]/\aeV p Z y Z':=by
 have h':=h;obtain⟨h1,h2⟩:=h;refine bE ?_;rw[aqh];have f:Kp [] Z (O.new Z ϐc):=(Δ [] Z).new _;have g1:(O.new Z ϐc).m.g Z.nx=Φ ϐc:=ay _ _;have g2:=(f.keep r h1 V).trans h2;have Gx:=Y.keep f V;have Hb:(O.new Z ϐc).nx=Z.nx+1:=rfl;simp only[bW,aP];generalize O.new Z ϐc=S1 at*;simp[fP,g2];refine(FC Gx at_).mono ?_;intro x G u
 have er:D.read at_=(0,p.bX):=by
  simp[aX.read,L,hc,Int.not_le.mpr (show(at_:Int)<D.aB.length by omega)]
 rw[er,gq rfl]at u;obtain⟨i,W,b,rfl,g3,b1,b2⟩:=u;have ab:=i.nx;have Kd:qL 512 (.slice b 0 512 512 1) G=.ok (.ptr b 0) G:=rfl;have Qx:(al p.bX).length=512:=by simp[W]
 simp only[au,dJ,Al,zY,ii,Kd,aG g3 Qx];refine(Lg (i.fresh (f.fresh X)) w).mono ?_;rintro _ d ⟨_,rfl,v,rfl,H,j,z,PU⟩;have Mj:=(f.trans i V).trans j V
 have N:d.m.g Z.nx=Φ ϐc:=by
  rw[j.keep _ J V,i.keep _ J V];exact g1
 have aa:=j.nx;obtain⟨o1,o2⟩:=z.cI;have P:bC ϐ0 0 [I p.n,.bool p.last,v]=[I p.n,.bool p.last,v]:=db _ _ rfl;have M:bC [I p.n,.bool p.last,v] 0 [I p.n,.bool p.last,v]=[I p.n,.bool p.last,v]:=db _ _ rfl;simp only[u6,N,aU,aN,P];refine⟨⟨rfl,Vf,tW⟩,?_⟩;have s:Kp [] Z (O.set d Z.nx (ϙ [I p.n,.bool p.last,v])):=Mj.set _ (.inr (hI _)) J;have o:(O.set d Z.nx (ϙ [I p.n,.bool p.last,v])).m.g Z.nx=Φ (ϙ [I p.n,.bool p.last,v]):=ao ..;have l:Own (O.set d Z.nx (ϙ [I p.n,.bool p.last,v])) v 1 5 (al p.data) H:=z.mono λq hq=>ar _ _ _ _ afj;have T:(O.set d Z.nx (ϙ [I p.n,.bool p.last,v])).nx=d.nx:=rfl;have k:=h'.keep s V;generalize O.set d Z.nx (ϙ [I p.n,.bool p.last,v])=S4 at*;refine⟨V,?_⟩
 have e:∀C:Bool,C=(!decide (p.n=0)&&decide (m.place p.n=at_))->aeV p Z (.agg [I p.n,.bool p.last,v]) (O.set S4 Z.nx (ϙ [I p.n,.bool p.last,v])):=λC _=>
  ⟨v,rfl,H,s.set _ (.inr (hI _)) J,l.mono λq hq=>ar _ _ _ _ afj,λq hq=>⟨afj,by have:=(PU q hq).2;simp;omega⟩⟩
 by_cases c:p.n=0
 .simp[c,o,o1];have Mc:bC [μ,K.bool p.last,v] 0 [μ,K.bool p.last,v]=[μ,K.bool p.last,v]:=db _ _ rfl;rw[Mc];have:=e _ rfl;rw[c]at this;exact this
 .simp only[c,ne_eq,not_false_eq_true,PO,aD,ix,aW,rb,av,o,io,dH];have S:=w.1;refine(Bg k h0 Q (n:=p.n) J).same ?_;simp[o,o1,M];exact⟨_,⟨rfl,J⟩,e _ rfl⟩
end
end
section
variable {f:K}{c q r n a:Nat}{m:RingM}{D:aX}{P:Nat->Piece}
section
variable {Z Z':O}
structure xt (D:aX)(m:RingM)(P:Nat->Piece):Prop where
 pos:0<m.count
 fits:m.first+m.count<=D.aB.length
 jT:D.aB.length<=65536
 base:m.base<=4611686018427387904
 cur:∀j,j<m.count->D.cur (m.first+j)=(P j).bX/\(P j).ok
def tl (Z:O)(f:K)(c q r n:Nat):Prop:=f=.func (.func 241) [] [.ptr c 0,.ptr q 0]/\c<Z.nx/\q<Z.nx/\c≠q/\Z.m.g c=Φ (Ϝ [I n])/\Z.m.g q=Φ (Ö [.ptr r 0])
def tl.keep {X:δ Nat}(h:tl Z f c q r n)(b:Kp X Z Z')(i:c∉X)(g:q∉X):tl Z' f c q r n:=by
 obtain⟨o,e,d,l,k,j⟩:=h;exact⟨o,ov e b.nx,ov d b.nx,l,by rw[b.keep c e i];exact k,by rw[b.keep q d g];exact j⟩
def Lf (h:gR Z r a m):Rq0 203 [.ptr r 0] Z λf Z'=>Kp [] Z Z'/\∃c q,tl Z' f c q r m.base/\Z.nx<=c/\Z.nx<=q:=by
 obtain⟨j,i⟩:=h;refine bE ?_;rw[apA];have k:(O.new Z (Ö [.ptr r 0])).m.g r=Z.m.g r:=bo _ _ _ j;have d:K.bY (.ptr r 0)=[.ptr r 0]:=rfl;have b:K.isAny (.ptr r 0)=φ:=rfl;simp only[bz,d,b,ay,io,fP,rr,k,i,kc,bW,GE,ju];have e:bC [μ] 0 [I m.base]=[I m.base]:=db _ _ rfl;refine⟨gt,⟨rfl,rfl,tW⟩,?_,(O.new Z (Ö [.ptr r 0])).nx,Z.nx,⟨rfl,?_,?_,?_,?_,?_⟩,?_,hI _⟩
 .exact(((Δ [] Z).new _).new _).set _ (.inr V) V
 .simp
 .simp;omega
 .simp
 .rw[ao];exact congrArg Φ (congrArg (λl=>tp.cells l 3 false) e)
 .rw[ar _ _ _ _ V,bo _ _ _ V];exact ay _ _
 .simp
def RingM.is (m:RingM)(P:Nat->Piece)(n:Nat):Prop:=(P (n%m.count)).n=n
instance (m:RingM) (P:Nat->Piece) (n:Nat):Decidable (m.is P n):=by unfold RingM.is;infer_instance
def Sg (h:gR Z r a m)(e:xt D m P)(j:tl Z f c q r n)(y:n=m.base+m.count):eJ Rq0 f [] Z λx Z'=>x=.tuple [.agg ϐ0,Θ,μ]/\Kp [] Z Z':=by
 obtain⟨o,l⟩:=h;obtain⟨rfl,v,u,z,s,p⟩:=j;rw[dv];refine bE ?_;simp only[ow];rw[agC];have d:∀b,b<Z.nx->(O.new Z ϐc).m.g b=Z.m.g b:=λb k=>bo _ _ _ k;have w:IntKind.i64.wrap ((n:Int)-m.base)=(m.count:Int):=by have:=e.base;have:=e.fits;have:=e.jT;rw[bt J];omega
 simp only[bW,GE,aZ,d c v,s,d q u,p,io,rr,d r o,l,kc,au,dY,w,cn,PO,ag,ix,eK,mi,ay,aN];have i:bC ϐ0 0 ϐ0=ϐ0:=db _ _ rfl;refine⟨⟨gt,gt,gt,gt,gt,gt⟩,gt,⟨rfl,rfl,tW⟩,?_⟩;rw[aG (n:=3) (ao ..) rfl,af,i];exact⟨rfl,((Δ [] Z).new _).set _ (.inr (hI _)) V⟩
def aat (p:Piece)(X:δ Nat)(Z:O)(y:K)(Z':O):Prop:=∃v d,y=.agg [I p.n,.bool p.last,v]/\Kp X Z Z'/\Own Z' v 1 5 (al p.data) d/\∀b∈d,Z.nx<=b/\b<Z'.nx
def Wy {F:δ Nat}(hf:dV Z)(h:gR Z r a m)(hd:dz Z a F D)(hr:r∉F)(yA:D.dead=φ)(i:xt D m P)(hn:tl Z f c q r n)(he:n≠m.base+m.count)(hb:m.base<=n)(hl:n<m.base+m.count)(H:r≠c)(Zh:r≠q)(M:c∉F):
 eJ Rq0 f [] Z λx Z'=>∃y,x=.tuple [y,.bool (decide (m.is P (n+1))),μ]/\aat (P ((n+1)%m.count)) [c] Z y Z'/\tl Z' f c q r (n+1):=by
 have h':=h;obtain⟨h1,h2⟩:=h;have ad:=hn;obtain⟨rfl,g2,g3,g4,g5,g6⟩:=hn;rw[dv];refine bE ?_;simp only[ow];rw[agC];have G:∀b,b<Z.nx->(O.new Z ϐc).m.g b=Z.m.g b:=λb hb=>bo _ _ _ hb;have q1:=i.base;have q2:=i.fits;have q3:=i.jT;have e1:IntKind.i64.wrap ((n:Int)-m.base)=(n:Int)-m.base:=bt J;have e2:¬((n:Int)-m.base=m.count):=J
 have e3:IntKind.i64.wrap ((n:Int)+1)=((n+1:Nat):Int):=by rw[bt J];rfl
 simp only[bW,GE,aZ,vr,G c g2,g5,G q g3,g6,io,bk,G r h1,h2,kc,au,dY,e1,cn,e2,FS,ll,ii,cE,e3];refine⟨⟨gt,gt,gt,gt,gt,gt⟩,gt,⟨rfl,rfl,V⟩,?_⟩;have mL:bC [I n] 0 (K.bY (ζ (n+1)))=[ζ (n+1)]:=db _ _ rfl;have W:bC [I n] 0 (K.bY (ζ (n+1)))=[ζ (n+1)]:=mL;rw[W];have L:(O.set (O.new Z ϐc) c (Ϝ [ζ (n+1)])).nx=Z.nx+1:=rfl;have o:Kp [c] Z (O.new (O.set (O.new Z ϐc) c (Ϝ [ζ (n+1)])) ϐc):=(((Δ _ Z).new _).set _ (.inl V) xI).new _
 have c4:(O.new (O.set (O.new Z ϐc) c (Ϝ [ζ (n+1)])) ϐc).m.g c=Φ (Ϝ [ζ (n+1)]):=by
  rw[bo _ _ _ xI,ao]
 have x4:(O.new (O.set (O.new Z ϐc) c (Ϝ [ζ (n+1)])) ϐc).m.g Z.nx=Φ ϐc:=by
  rw[bo _ _ _ V,ar _ _ _ _ J];exact ay _ _
 have y4:(O.new (O.set (O.new Z ϐc) c (Ϝ [ζ (n+1)])) ϐc).m.g (Z.nx+1)=Φ ϐc:=by
  have:=ay (O.set (O.new Z ϐc) c (Ϝ [ζ (n+1)])) ϐc;exact this
 have ac:(O.new (O.set (O.new Z ϐc) c (Ϝ [ζ (n+1)])) ϐc).nx=Z.nx+2:=rfl;rw[L];generalize O.new (O.set (O.new Z ϐc) c (Ϝ [ζ (n+1)])) ϐc=S4 at*;have z:=(o.keep q g3 (by simp;exact ny g4)).trans g6;have r4:=h'.keep o (by simpa using H);have d4:=hd.keep o (λb hb=>by simp;exact λe=>M (e▸hb));have Ha:m.place (n+1)=m.first+(n+1)%m.count:=rfl;have Gr:(n+1)%m.count<m.count:=NO _ i.pos;obtain⟨u1,u2⟩:=i.cur _ Gr;simp only[z,c4,lW,io];refine(Bg r4 i.pos J (n:=n+1) J).same ?_;refine(HO (o.fresh hf) r4 d4 hr yA i.pos J (at_:=m.place (n+1)) J u2 u1).mono ?_;rintro _ d ⟨_,rfl,v,rfl,Fv,l,ho,PU⟩;have ab:=l.nx;have c5:=(l.keep c J V).trans c4;have q5:=(l.keep q J V).trans z;have x5:=(l.keep Z.nx J V).trans x4;have Y:=(l.keep (Z.nx+1) J V).trans y4;obtain⟨o1,o2⟩:=ho.cI;generalize hP:P ((n+1)%m.count)=p at*;have C:bC ϐ0 0 [I p.n,.bool p.last,v]=[I p.n,.bool p.last,v]:=db _ _ rfl;simp only[DK,rb,jZ Y,jZ y4,GE,Y,aN,C,z,io];refine⟨⟨rfl,Vf,tW⟩,⟨⟨gt,gt⟩,gt,gt,⟨gt,gt,gt⟩,gt⟩,gt,?_⟩;have Gu:Kp [c] Z (O.set d (Z.nx+1) (ϙ [I p.n,.bool p.last,v])):=(o.trans l V).set _ (.inr J) J;have S:(O.set d (Z.nx+1) (ϙ [I p.n,.bool p.last,v])).m.g c=Φ (Ϝ [ζ (n+1)]):=by rw[ar _ _ _ _ J];exact c5
 have q6:(O.set d (Z.nx+1) (ϙ [I p.n,.bool p.last,v])).m.g q=Φ (Ö [.ptr r 0]):=by rw[ar _ _ _ _ J];exact q5
 have x6:(O.set d (Z.nx+1) (ϙ [I p.n,.bool p.last,v])).m.g Z.nx=Φ ϐc:=by rw[ar _ _ _ _ J];exact x5
 have u:(O.set d (Z.nx+1) (ϙ [I p.n,.bool p.last,v])).m.g (Z.nx+1)=Φ (ϙ [I p.n,.bool p.last,v]):=ao ..;have o6:Own (O.set d (Z.nx+1) (ϙ [I p.n,.bool p.last,v])) v 1 5 (al p.data) Fv:=ho.mono λb hb=>ar _ _ _ _ afk;have aa:(O.set d (Z.nx+1) (ϙ [I p.n,.bool p.last,v])).nx=d.nx:=rfl;generalize O.set d (Z.nx+1) (ϙ [I p.n,.bool p.last,v])=j at*;have ag:∀bb:Bool,True:=λ_=>trivial
 have k:decide (m.is P (n+1))=(decide (p.n≠0/\m.place p.n=m.place (n+1))&&decide (p.n=n+1)):=by
  have T:m.is P (n+1)↔p.n=n+1:=by unfold RingM.is;rw[hP]
  rw[show decide (m.is P (n+1))=decide (p.n=n+1)from decide_eq_decide.2 T]
  by_cases e:p.n=n+1
  .simp[e]
  .simp[e]
 have s:∀X:O,X=O.set j Z.nx (ϙ [I p.n,.bool p.last,v])->aat p [c] Z (.agg [I p.n,.bool p.last,v]) X/\tl X (.func (.func 241) [] [.ptr c 0,.ptr q 0]) c q r (n+1):=by
  rintro _ rfl;refine⟨⟨v,Fv,rfl,Gu.set _ (.inr (hI _)) J,o6.mono λb hb=>ar _ _ _ _ afk,λb hb=>⟨afk,by have:=(PU b hb).2;simp;omega⟩⟩,rfl,xI,xI,g4,?_,?_⟩
  .rw[ar _ _ _ _ J];exact S
  .rw[ar _ _ _ _ J];exact q6
 rw[aG (n:=3) u rfl,af]
 by_cases CP:p.n≠0/\m.place p.n=m.place (n+1)
 .rw[jp CP]at k⊢
  have qe:R .eql ψ false (I p.n) (ζ (n+1)) j=.ok (.bool (decide (p.n=n+1))) j:=by
   rw[au,cn];congr 2;simp only[CI];omega
  simp only[ix,aW,ly,u,S,io,qe,AC,x6,aU,aN,C];rw[S5]at k;have y7:(O.set j Z.nx (ϙ [I p.n,.bool p.last,v])).m.g (Z.nx+1)=Φ (ϙ [I p.n,.bool p.last,v]):=by rw[ar _ _ _ _ J];exact u
  have c7:(O.set j Z.nx (ϙ [I p.n,.bool p.last,v])).m.g c=Φ (Ϝ [ζ (n+1)]):=by rw[ar _ _ _ _ J];exact S
  have w:(O.set j Z.nx (ϙ [I p.n,.bool p.last,v])).m.g Z.nx=Φ (ϙ [I p.n,.bool p.last,v]):=ao ..;obtain⟨Q,N⟩:=s _ rfl;simp only[y7,c7,lW,io];rw[aG (n:=3) w rfl,af,k];exact⟨⟨rfl,Vf,tW⟩,⟨gt,⟨gt,gt⟩,⟨gt,gt⟩,gt⟩,gt,_,rfl,Q,N⟩
 .rw[jo CP]at k⊢;simp only[ix,bA,NE,ii,x6,aU,aN,C];rw[Bool.false_and]at k;have w:(O.set j Z.nx (ϙ [I p.n,.bool p.last,v])).m.g Z.nx=Φ (ϙ [I p.n,.bool p.last,v]):=ao ..;obtain⟨Q,N⟩:=s _ rfl;rw[aG (n:=3) w rfl,af,k];exact⟨⟨rfl,Vf,tW⟩,⟨gt,⟨gt,gt⟩,⟨gt,gt⟩,gt⟩,gt,_,rfl,Q,N⟩
end
end
