import Derived.Test.YtomffjeofpafnaaGreatDoorDisk
namespace Lim
open Go
noncomputable section
set_option linter.defProp false
set_option maxRecDepth 100000
def le:Nat->Nat->List UInt8
 |0,_=>[]
 |k+1,n=>le k n++[UInt8.ofNat (n/256^k%256)]
def iJ (k n:Nat):(le k n).length=k:=by induction k with|zero=>rfl|succ k a=>simp[le,a]
structure Piece where
 n:Nat
 last:Bool
 data:List UInt8
def Piece.bX (p:Piece):iT:=le 8 p.n++[if p.last=true then 1 else 0,UInt8.ofNat (p.data.length%256),UInt8.ofNat (p.data.length/256%256)]++p.data++List.replicate (501-p.data.length) 0
def Piece.rk (p:Piece)(h:p.data.length<=501):p.bX.length=512:=by
 simp only[Piece.bX,aHR,iJ,aIg,aJB,aIF];omega
def AA {n size b o j:Nat}(h:j<n)(st:St):fP n size (.ptr b o) (I j) st=.ok (.ptr b (o+j*size)) st:=by
 have e:fP n size (.ptr b o) (I j) st=bE (Nat.ble (Nat.succ j) n) (pT (Nat.add o (Nat.mul j size)) λo=>.ok (.ptr b o) st) .bad:=rfl;rw[e,aO,aHP acd];rfl
def Eg (n i:Nat)(hi:i<8)(d:Option kK)(c:Bool)(st:St):aj .shr d c (I n) (I ((8*i:Nat):Int)) st=.ok (I ((n/256^i:Nat):Int)) st:=by
 have e:aj .shr d c (I n) (I ((8*i:Nat):Int)) st=if ((8*i:Nat):Int)<0 then .bad else .ok (I ((n:Int).fdiv (2^(min ((8*i:Nat):Int).toNat 64)))) st:=rfl
 rw[e,aHM uM,aJS,aIC uM,Int.fdiv_eq_ediv_of_nonneg _ (Int.le_of_lt (Int.pow_pos uM))]
 congr 2
 have:(2:Nat)^(8*i)=256^i:=by rw[Nat.pow_mul]
 rw[<-this];simp
def MX (n:Nat)(k:IntKind)(st:St):dw (.toInt .u8) (.int k (n:Int)) st=.ok (bP (UInt8.ofNat (n%256))) st:=by
 rw[jY _ uM];show OR.ok (.int .u8 (IntKind.u8.wrap n)) st=_;rw[Pa]
def wJ (A B:List CV)(x y:CV):bz (A++x::B) A.length [y]=A++y::B:=by
 unfold bz;simp
def qG (P Z T:List CV):bz (P++Z) P.length T=P++(T++Z.drop T.length):=by
 unfold bz;simp[List.drop_append]
def oz (n:Nat):zr n=ai (List.replicate n 0):=by unfold zr ai;rw[List.map_replicate];rfl
section
variable {st st':St}
def CO {X:List Nat}{v:CV}{p:Piece}(h:Sl st X v 1 (ai p.data))(Z:p.data.length<=501)(hn:p.n<9223372036854775808):R 175 [.agg [I p.n,.bool p.last,v]] st λx st'=>x=.agg (ai p.bX)/\Kp [] st st':=by
 refine bK ?_;rw[amx];have hv:=h.bL;simp only[bS,cz,aP];refine⟨rfl,?_⟩;show df _ _ _;simp only[aK,aL];have P:Kp [] st (St.new (St.new (St.new st (.cells [I p.n,.bool p.last,v] 200 false)) (.cells (zr 512) 233 false)) (.cells (zr 512) 233 false)):=(((Kp.refl [] st).new _).new _).new _
 refine bG (λm r s=>∃i,m+i=8/\r=[.ptr st.nx 0,.ptr (st.nx+1) 0,.ptr (st.nx+2) 0,I i]/\Kp [] st s/\s.nx=st.nx+3/\s.m.g st.nx=some (.cells [I p.n,.bool p.last,v] 200 false)/\s.m.g (st.nx+1)=some (.cells (zr 512) 233 false)/\
  s.m.g (st.nx+2)=some (.cells (ai (le i p.n++List.replicate (512-i) 0)) 233 false)) ?_ (n:=8) ⟨0,rfl,rfl,P,rfl,?_,?_,?_⟩
 .rintro m r s k ⟨i,hm,rfl,c,o,g1,j,d⟩ next
  by_cases hi:i<8
  .have eT:(i:Int)<8:=by omega
   have e1:IntKind.i64.wrap (8*(i:Int))=((8*i:Nat):Int):=abG
   have e2:IntKind.i64.wrap ((i:Int)+1)=((i+1:Nat):Int):=abG
   have D:∀s,aj .lss none true (I i) (.int .i64 8) s=.ok (.bool true) s:=λs=>by rw[av,c8];simp only[eT,aIS]
   have e4:∀s,aj .mul none true (.int .i64 8) (I i) s=.ok (I ((8*i:Nat):Int)) s:=λs=>by rw[av,jj,e1]
   have e5:∀s,aj .add none true (I i) (.int .i64 1) s=.ok (I ((i+1:Nat):Int)) s:=λs=>by rw[av,cI,e2]
   simp only[aK,aL,D,af,ag,aIj,fl,ah,az,g1,ar,aHN,aHG,aw,e4,Eg _ _ hi,MX,AA (show i<512 from uM),aH,d,aS,e5];refine⟨⟨rfl,rfl,by simp[iJ];omega⟩,next (m-1) _ _ uM ⟨i+1,uM,rfl,c.set _ (.inr uM) uM,o,?_,?_,?_⟩⟩
   .rw[ak _ _ _ _ uM];exact g1
   .rw[ak _ _ _ _ uM];exact j
   .rw[an]
    congr 2
    have e6:List.replicate (512-i) (0:UInt8)=0::List.replicate (512-(i+1)) 0:=by
     rw[show 512-i=(512-(i+1))+1 from uM,aJW]
    rw[e6,bI,bI];have:=wJ (ai (le i p.n)) (ai (List.replicate (512-(i+1)) 0)) (bP 0) (bP (UInt8.ofNat (p.n/256^i%256)));rw[bF,iJ]at this;simp only[aJr];show bz (ai (le i p.n)++bP 0::ai _) i [bP _]=_;rw[this];simp[le,ai]
  .have eT:¬(i:Int)<8:=by omega
   have w:i=8:=uM
   subst w
   have hb:ai (le 8 p.n++List.replicate (512-8) 0)=ai (le 8 p.n)++(bP 0::bP 0::bP 0::ai (List.replicate 501 0)):=by
    rw[bI];rfl
   have J:(ai (le 8 p.n)).length=8:=by simp[iJ]
   rw[hb]at d;have D:∀s,aj .lss none true (I ((8:Nat):Int)) (.int .i64 8) s=.ok (.bool false) s:=λs=>rfl;simp only[aK,aL,D,af,ag,aHH,aHV]
   refine kY (λr s=>r=[.ptr st.nx 0,.ptr (st.nx+1) 0,.ptr (st.nx+2) 0]/\Kp [] st s/\s.nx=st.nx+3/\s.m.g st.nx=some (.cells [I p.n,.bool p.last,v] 200 false)/\s.m.g (st.nx+1)=some (.cells (zr 512) 233 false)/\
    s.m.g (st.nx+2)=some (.cells (ai (le 8 p.n)++(bP (if p.last=true then 1 else 0)::bP 0::bP 0::ai (List.replicate 501 0))) 233 false)) ?_ ?_
   .intro k' H;have e8:∀s,fP 512 1 (.ptr (st.nx+2) 0) (.int .i64 8) s=.ok (.ptr (st.nx+2) 8) s:=λs=>rfl;simp only[fl,ah,af,az,g1,ar,aHN,aHI,aHG,aw,ag]
    by_cases u:p.last=true
    .simp only[u,aIj,e8,af,aH,d,aS];refine⟨⟨rfl,rfl,by simp[iJ]⟩,H _ _ ⟨rfl,c.set _ (.inr uM) uM,o,?_,?_,?_⟩⟩
     .rw[ak _ _ _ _ uM];exact g1
     .rw[ak _ _ _ _ uM];exact j
     .rw[an];have:=wJ (ai (le 8 p.n)) (bP 0::bP 0::ai (List.replicate 501 0)) (bP 0) (bP 1);rw[J]at this;rw[aHP u,<-this];rfl
    .simp only[u,aHH,aHV];exact H _ _ ⟨rfl,c,o,g1,j,by rw[aHM u];exact d⟩
   .rintro _ s ⟨rfl,c,o,g1,j,d⟩;have e9:∀s,fP 512 1 (.ptr (st.nx+2) 0) (.int .i64 9) s=.ok (.ptr (st.nx+2) 9) s:=λs=>rfl;have Ot:∀s,fP 512 1 (.ptr (st.nx+2) 0) (.int .i64 10) s=.ok (.ptr (st.nx+2) 10) s:=λs=>rfl;have E:∀s,bT 512 1 (.ptr (st.nx+2) 0) (some (.int .i64 11)) none s=.ok (.slice (st.nx+2) 11 501 501 0) s:=λs=>rfl;have hlen:=h.len p.data.length wb uM;have B:∀s,dw (.toInt .u8) (I p.data.length) s=.ok (bP (UInt8.ofNat (p.data.length%256))) s:=λs=>MX _ _ _
    have A:∀s,aj .shr none true (I p.data.length) (.int .u64 8) s=.ok (I ((p.data.length/256:Nat):Int)) s:=λs=>by
     have e:aj .shr none true (I p.data.length) (.int .u64 8) s=.ok (I ((p.data.length:Int).fdiv 256)) s:=rfl;rw[e,Int.fdiv_eq_ediv_of_nonneg _ uM];rfl
    have z:∀s,dw (.toInt .u8) (I ((p.data.length/256:Nat):Int)) s=.ok (bP (UInt8.ofNat (p.data.length/256%256))) s:=λs=>MX _ _ _;generalize y:(if p.last=true then (1:UInt8)else 0)=a at*;have C:st.nx≠st.nx+2:=uM
    simp only[aK,aL,bD,ah,af,az,g1,d,ar,aS,aHN,aHI,aHG,aw,hlen,B,A,z,e9,Ot,E,aH,an,ak _ _ _ _ C];have L:∀b:UInt8,(bP b).cK=[bP b]:=λ_=>rfl;have ku:∀b:UInt8,bh [bP b]=true:=λ_=>rfl
    have N:ai p.bX=ai (le 8 p.n)++(bP a::bP (UInt8.ofNat (p.data.length%256))::bP (UInt8.ofNat (p.data.length/256%256))::(ai p.data++ai (List.replicate (501-p.data.length) 0))):=by
     simp[Piece.bX,ai,y]
    generalize UInt8.ofNat (p.data.length%256)=b1 at*;generalize UInt8.ofNat (p.data.length/256%256)=l at*;have o1:=wJ (ai (le 8 p.n)++[bP a]) (bP 0::ai (List.replicate 501 0)) (bP 0) (bP b1);have o2:=wJ (ai (le 8 p.n)++[bP a,bP b1]) (ai (List.replicate 501 0)) (bP 0) (bP l);have o3:=qG (ai (le 8 p.n)++[bP a,bP b1,bP l]) (ai (List.replicate 501 0)) (ai p.data);simp only[aIq,aIL,aIm,aHR,J,aIg,aJB,Nat.reduceAdd]at o1 o2 o3;rw[L,L,o1,o2];have V:(ai (le 8 p.n)++bP a::bP 0::bP 0::ai (List.replicate 501 0)).length=512:=by simp[iJ]
    have yl:(ai (le 8 p.n)++bP a::bP b1::bP 0::ai (List.replicate 501 0)).length=512:=by simp[iJ]
    have I9:(ai (le 8 p.n)++bP a::bP b1::bP l::ai (List.replicate 501 0)).length=512:=by simp[iJ]
    refine⟨⟨rfl,rfl,uM⟩,⟨rfl,rfl,uM⟩,⟨afp,⟨afp,afp⟩,afp⟩,afp,?_⟩;simp only[set_set]
    have S:Sl (St.set s (st.nx+2) (.cells (ai (le 8 p.n)++bP a::bP b1::bP l::ai (List.replicate 501 0)) 233 false)) [] v 1 (ai p.data):=by
     exact(h.eH (Y:=[]) wb).mono (c.set _ (.inr uM) uM)
    obtain⟨s4,c1,c2,K,F⟩:=Qc (n:=501) (cap:=501) (off:=11) S (an _ _ _) zS (by rw[I9];simp;omega) (bu _);rw[c1,aP]
    have G:bz (ai (le 8 p.n)++bP a::bP b1::bP l::ai (List.replicate 501 0)) 11 (ai p.data)=ai p.bX:=by
     have e0:(ai (List.replicate 501 0)).drop (ai p.data).length=ai (List.replicate (501-p.data.length) 0):=by
      unfold ai;rw[<-aJs,aJY,aIx]
     rw[N,o3,e0]
    rw[G]at K;have M:(ai p.bX).length=512:=by simp[Piece.rk p Z]
    have g4:s4.m.g (st.nx+1)=some (.cells (zr 512) 233 false):=by rw[F _ uM,ak _ _ _ _ uM];exact j
    have T:List.take 512 (ai p.bX)=ai p.bX:=aHS uM;have f:(zr 512).length=512:=aIF;have Q:bz (zr 512) 0 (ai p.bX)=ai p.bX:=dU _ _ (by rw[f];exact M);have U:=c2.trans o;simp only[qv,K,g4,ar,aS,wL,aIn,aHN,T,aT,M,bu,f,Q,an];refine⟨⟨afp,afp⟩,afp,aHK _,⟨afp,afp,aHK _⟩,aHK _,afp,?_⟩;have O:Kp [] st s4:=⟨uM,λq h1 h2=>?_,λW q hq=>?_⟩
    .exact O.set _ (.inr uM) uM
    .rw[F q uM,ak _ _ _ _ uM];exact c.keep q h1 h2
    .rw[F q uM,ak _ _ _ _ uM];exact c.fresh W q uM
 .rw[aX _ _ _ zS,aX _ _ _ wb];exact au _ _
 .rw[aX _ _ _ wb];exact au _ _
 .have:(St.new (St.new st (.cells [I p.n,.bool p.last,v] 200 false)) (.cells (zr 512) 233 false)).nx=st.nx+2:=by simp
  rw[<-this];refine(au _ _).trans ?_;rw[oz];rfl
end
def Y7 {k n i:Nat}(h:i<k):(le k n)[i]?=some (UInt8.ofNat (n/256^i%256)):=by
 induction k with
 |zero=>omega
 |succ k a=>
  simp only[le]
  by_cases hi:i<k
  .rw[aJi (by rw[iJ];exact hi)];exact a hi
  .have:i=k:=by omega
   subst this;rw[aIY (by rw[iJ];exact aHK _),iJ,Nat.sub_self];rfl
def Js {p:Piece}{i:Nat}(h:i<8):(ai p.bX)[i]?=some (bP (UInt8.ofNat (p.n/256^i%256))):=by
 unfold Piece.bX ai;rw[aIu,aIq,aIq,aJi (by rw[iJ];exact h),Y7 h];rfl
def GA (p:Piece):(ai p.bX)[8]?=some (bP (if p.last=true then 1 else 0)):=by
 unfold Piece.bX ai;rw[aIu,aIq,aIq,aIY (by rw[iJ];exact aHK _),iJ];rfl
def PJ (p:Piece):(ai p.bX)[9]?=some (bP (UInt8.ofNat (p.data.length%256))):=by
 unfold Piece.bX ai;rw[aIu,aIq,aIq,aIY (by rw[iJ];omega),iJ];rfl
def M7 (p:Piece):(ai p.bX)[10]?=some (bP (UInt8.ofNat (p.data.length/256%256))):=by
 unfold Piece.bX ai;rw[aIu,aIq,aIq,aIY (by rw[iJ];omega),iJ];rfl
def Gz (p:Piece):((ai p.bX).drop 11).take p.data.length=ai p.data:=by
 have e:ai p.bX=(ai (le 8 p.n)++ai [if p.last=true then 1 else 0,UInt8.ofNat (p.data.length%256),UInt8.ofNat (p.data.length/256%256)])++(ai p.data++ai (List.replicate (501-p.data.length) 0)):=by
  simp only[Piece.bX,bI,aIq]
 have a:(ai (le 8 p.n)++ai [if p.last=true then (1:UInt8)else 0,UInt8.ofNat (p.data.length%256),UInt8.ofNat (p.data.length/256%256)]).length=11:=by rw[aHR,bF,bF,iJ];rfl
 rw[e,List.drop_append,aIp uM,a,Nat.sub_self,aIn,aIm,aJJ,aHS wb];simp
def Uh:lO=(Piece.mk 0 false []).bX:=by decide+kernel
def Lc (k:Nat)(h:k<9223372036854775808):IntKind.i64.wrap (k:Int)=(k:Int):=bA uM
def WH (a m:Nat)(k:Nat)(h:a<2^k)(b:a+m*2^k<9223372036854775808):kD .or .i64 (a:Int) ((m*2^k:Nat):Int)=some ((a+m*2^k:Nat):Int):=by
 have e:kD .or .i64 (a:Int) ((m*2^k:Nat):Int)=some (IntKind.i64.wrap ((BitVec.ofInt 64 (a:Int)|||BitVec.ofInt 64 ((m*2^k:Nat):Int)).toNat:Int)):=rfl;rw[e,BitVec.ofInt_natCast,BitVec.ofInt_natCast,BitVec.toNat_or,BitVec.toNat_ofNat,BitVec.toNat_ofNat,aJC uM,aJC uM,Nat.or_comm,aJO m,<-Nat.two_pow_add_eq_or_of_lt h,Lc _ (by rw[aJO];omega),aJO,aKL]
def Qe (a m k:Nat)(h:a<2^k)(b:a+m*2^k<9223372036854775808)(d:Option kK)(c:Bool)(st:St):aj .or d c (I a) (I ((m*2^k:Nat):Int)) st=.ok (I ((a+m*2^k:Nat):Int)) st:=by
 have e:aj .or d c (I a) (I ((m*2^k:Nat):Int)) st=(match kD .or .i64 (a:Int) ((m*2^k:Nat):Int)with|some r=>.ok (.int .i64 r) st|none=>.bad):=rfl;rw[e,WH a m k h b]
def Qd (a m k:Nat)(h:a<2^k)(b:a+m*2^k<18446744073709551616)(d:Option kK)(c:Bool)(st:St):aj .or d c (.int .u64 a) (.int .u64 ((m*2^k:Nat):Int)) st=.ok (.int .u64 ((a+m*2^k:Nat):Int)) st:=by
 have e:aj .or d c (.int .u64 a) (.int .u64 ((m*2^k:Nat):Int)) st=(match kD .or .u64 (a:Int) ((m*2^k:Nat):Int)with|some r=>.ok (.int .u64 r) st|none=>.bad):=rfl;rw[e,aeO a m k h b]
def Np (a k:Nat)(f:k<=64)(b:a*2^k<18446744073709551616)(d:Option kK)(c:Bool)(st:St):aj .shl d c (.int .u64 a) (I k) st=.ok (.int .u64 ((a*2^k:Nat):Int)) st:=by
 have e:aj .shl d c (.int .u64 a) (I k) st=if (k:Int)<0 then .bad else .ok (.int .u64 (IntKind.u64.wrap ((a:Int)*2^(min (k:Int).toNat 64)))) st:=rfl
 rw[e,aHM uM,aJS,aIC f];have g:(a:Int)*2^k=((a*2^k:Nat):Int):=wb
 rw[g,tK _ b]
def Gh (n:Nat)(h:n<9223372036854775808)(k:IntKind)(st:St):dw (.toInt .i64) (.int k (n:Int)) st=.ok (I n) st:=by
 show OR.ok (.int .i64 (IntKind.i64.wrap n)) st=_;rw[Lc n h]
def aeh (n:Nat)(h:n<18446744073709551616)(k:IntKind)(st:St):dw (.toInt .u64) (.int k (n:Int)) st=.ok (.int .u64 n) st:=by
 show OR.ok (.int .u64 (IntKind.u64.wrap n)) st=_;rw[tK n h]
def Nq (a b:List UInt8)(n:Nat)(f:a.length=n)(d:b.length=n)(c:Bool)(st:St):aj .neq (some (.bytes n)) c (.agg (ai a)) (.agg (ai b)) st=.ok (.bool (!(a==b))) st:=by
 rw[EH];have e:mJ (.bytes n) (.agg (ai a)) (.agg (ai b))=(match I3 (ai a),I3 (ai b)with|some a,some b=>bE (decide (a.length=n)&&decide (b.length=n)) (some (a==b)) none|_,_=>none):=rfl;have i:I3 (ai a)=some a:=DT a;have g:I3 (ai b)=some b:=DT b;rw[e,i,g];simp[f,d,aO]
section
variable {st st':St}
def Piece.ok (p:Piece):Prop:=p.n<=4611686018427387904/\p.data.length<=501/\(p.n=0->p.data=[]/\p.last=false)/\(p.n≠0->p.last=false->p.data.length=501)
def abW (p:Piece)(st:St)(x:CV)(st':St):Prop:=∃v,x=.agg [I p.n,.bool p.last,v]/\Made 1 5 (ai p.data) st v st'
def JP {p:Piece}(hf:eA st)(hp:p.ok):R 152 [.agg (ai p.bX)] st λx st'=>∃y,x=.tuple [y,.bool (decide (p.n≠0))]/\abW p st y st':=by
 obtain⟨Vj,NP,J,H⟩:=hp;refine bK ?_;rw[amO];have hlen:=Piece.rk p NP;have te:(ai p.bX).length=512:=by simp[hlen]
 have e9:∀s,fP 512 1 (.ptr st.nx 0) (.int .i64 9) s=.ok (.ptr st.nx 9) s:=λs=>rfl;have Ot:∀s,fP 512 1 (.ptr st.nx 0) (.int .i64 10) s=.ok (.ptr st.nx 10) s:=λs=>rfl
 have f9:∀s,dw (.toInt .i64) (bP (UInt8.ofNat (p.data.length%256))) s=.ok (I ((p.data.length%256:Nat):Int)) s:=λs=>by
  rw[jY _ uM,Gh _ uM]
 have W:∀s,dw (.toInt .i64) (bP (UInt8.ofNat (p.data.length/256%256))) s=.ok (I ((p.data.length/256%256:Nat):Int)) s:=λs=>by
  rw[jY _ uM,Gh _ uM]
 have V:∀s,aj .shl none true (I ((p.data.length/256%256:Nat):Int)) (.int .u64 8) s=.ok (I ((p.data.length/256%256*2^8:Nat):Int)) s:=λs=>by
  have e:aj .shl none true (I ((p.data.length/256%256:Nat):Int)) (.int .u64 8) s=.ok (I (IntKind.i64.wrap (((p.data.length/256%256:Nat):Int)*2^8))) s:=rfl;rw[e,bA uM];simp
 have U:∀s,aj .or none false (I ((p.data.length%256:Nat):Int)) (I ((p.data.length/256%256*2^8:Nat):Int)) s=.ok (I p.data.length) s:=λs=>by
  rw[Qe _ _ _ uM uM];congr 3;omega
 have hx:(CV.agg (ai p.bX)).isAny=false:=rfl;have D:Kp [] st (St.new (St.new st (.cells (ai p.bX) 233 false)) (.cells [.int .i64 0,.bool false,.ae] 200 false)):=((Kp.refl [] st).new _).new _
 have Q:(St.new (St.new st (.cells (ai p.bX) 233 false)) (.cells [.int .i64 0,.bool false,.ae] 200 false)).m.g st.nx=some (.cells (ai p.bX) 233 false):=by
  rw[aX _ _ _ wb];exact au _ _
 have g2:(St.new (St.new st (.cells (ai p.bX) 233 false)) (.cells [.int .i64 0,.bool false,.ae] 200 false)).m.g (st.nx+1)=some (.cells [.int .i64 0,.bool false,.ae] 200 false):=au (St.new st (.cells (ai p.bX) 233 false)) _;simp only[bS,cz,aP,aT];refine⟨rfl,?_⟩;simp only[bD,e9,Ot,af,az,Q,ar,PJ,M7,aw,f9,W,V,U];refine⟨⟨afp,afp,afp⟩,afp,?_⟩;show df _ _ _;simp only[aK,aL,wP];refine bG (λm vs s=>∃i,m+i=8/\vs=[.ptr st.nx 0,.ptr (st.nx+1) 0,.int .u64 ((p.n%256^i:Nat):Int),I p.data.length,I i]/\s=(St.new (St.new st (.cells (ai p.bX) 233 false)) (.cells [.int .i64 0,.bool false,.ae] 200 false))) ?_ (n:=8) ⟨0,rfl,by simp[Nat.mod_one],rfl⟩;rintro m vs s k ⟨i,hm,rfl,rfl⟩ next;generalize hS:(St.new (St.new st (.cells (ai p.bX) 233 false)) (.cells [.int .i64 0,.bool false,.ae] 200 false))=S at*;have u:S.nx=st.nx+2:=by rw[<-hS];rfl
 by_cases hi:i<8
 .have eT:(i:Int)<8:=by omega
  have a1:aj .lss none true (I i) (.int .i64 8) S=.ok (.bool true) S:=by rw[av,c8];simp only[eT,aIS]
  have a2:aj .mul none true (.int .i64 8) (I i) S=.ok (I ((8*i:Nat):Int)) S:=Ww
  have a3:aj .add none true (I i) (.int .i64 1) S=.ok (I ((i+1:Nat):Int)) S:=F7
  have a4:dw (.toInt .u64) (bP (UInt8.ofNat (p.n/256^i%256))) S=.ok (.int .u64 ((p.n/256^i%256:Nat):Int)) S:=by rw[jY _ uM,aeh _ uM]
  have C:(2:Nat)^(8*i)=256^i:=by rw[Nat.pow_mul]
  have ax:256^i<=256^7:=aKm uM uM
  have a:p.n/256^i%256*256^i<=p.n:=by
   have o:p.n/256^i%256<=p.n/256^i:=Nat.mod_le _ _;exact aIz (aIB _ o) (Nat.div_mul_le_self _ _)
  have Vo:p.n%256^i<256^i:=aKq _ (Nat.pow_pos uM)
  have jU:p.n%256^i+p.n/256^i%256*256^i=p.n%256^(i+1):=by
   rw[aKt,Nat.mod_mul,aJO (256^i)]
  have a5:aj .shl none false (.int .u64 ((p.n/256^i%256:Nat):Int)) (I ((8*i:Nat):Int)) S=.ok (.int .u64 ((p.n/256^i%256*2^(8*i):Nat):Int)) S:=Np _ _ uM (by rw[C];omega) _ _ _
  have a6:aj .or none false (.int .u64 ((p.n%256^i:Nat):Int)) (.int .u64 ((p.n/256^i%256*2^(8*i):Nat):Int)) S=.ok (.int .u64 ((p.n%256^(i+1):Nat):Int)) S:=by
   rw[Qd _ _ _ (by rw[C];exact Vo) (by rw[C,jU];have:=Nat.mod_le p.n (256^(i+1));omega),C,jU]
  simp only[aK,aL,a1,af,ag,aIj,AA (show i<512 from uM),aHN,aJr,az,Q,ar,Js hi,aw,a4,a2,a5,a6,a3];exact next (m-1) _ _ uM ⟨i+1,uM,rfl,rfl⟩
 .have N:i=8:=by omega
  subst N;have Vl:p.n%256^8=p.n:=aJC uM;rw[Vl];have a1:∀s,aj .lss none true (I ((8:Nat):Int)) (.int .i64 8) s=.ok (.bool false) s:=λs=>rfl;simp only[aK,aL,a1,af,ag,aHH,aHV]
  by_cases v:p.n=0
  .obtain⟨d0,l0⟩:=J v;have Z:∀s,aj .lss none true (.int .u64 ((p.n:Nat):Int)) (.int .u64 1) s=.ok (.bool true) s:=λs=>by rw[v];rfl
   have ZV:p=⟨0,false,[]⟩:=by cases p;simp_all
   simp only[Z,af,aG,bU,aF,aIj,aIb,aHH,aHV,ag,dB,lJ,aH,g2,aS,aT,qv,an,ar,wL];refine⟨⟨rfl,rfl,xI⟩,xI,.agg [I p.n,.bool p.last,.ae],?_,.ae,rfl,[],D.set _ (.inr uM) uM,.inl ⟨rfl,by rw[d0];rfl,rfl⟩,wb⟩;rw[v,l0];rfl
  .have Z:∀s,aj .lss none true (.int .u64 ((p.n:Nat):Int)) (.int .u64 1) s=.ok (.bool false) s:=λs=>by
    rw[av,c8,aHL uM]
   have b2:∀s,aj .gtr none true (.int .u64 ((p.n:Nat):Int)) (.int .u64 4611686018427387904) s=.ok (.bool false) s:=λs=>by
    rw[av,dh,aHL uM]
   have b3:∀s,aj .gtr none true (I p.data.length) (.int .i64 501) s=.ok (.bool false) s:=λs=>by
    rw[av,dh,aHL uM]
   have b4:∀s,dw (.toInt .i64) (.int .u64 ((p.n:Nat):Int)) s=.ok (I p.n) s:=λs=>Gh _ uM _ _;have e8:∀s,fP 512 1 (.ptr st.nx 0) (.int .i64 8) s=.ok (.ptr st.nx 8) s:=λs=>rfl;generalize c:St.new (St.skip S) (.cells [.int .i64 0,.bool false,.ae] 200 false)=f;have ab:f.nx=st.nx+4:=by rw[<-c];simp;omega
   have lH:Kp [] st f:=by rw[<-c];exact D.skip.new _
   have uY:f.m.g S.nx=none:=by rw[<-c,aX _ _ _ wb];exact D.fresh hf _ (aHK _)
   have G:f.m.g (st.nx+3)=some (.cells [.int .i64 0,.bool false,.ae] 200 false):=by
    have:st.nx+3=(St.skip S).nx:=zS
    rw[this,<-c];exact au _ _
   have qS:f.m.g st.nx=some (.cells (ai p.bX) 233 false):=by rw[<-c,aX _ _ _ zS];exact Q
   have Ih:f.m.g (st.nx+1)=some (.cells [.int .i64 0,.bool false,.ae] 200 false):=by rw[<-c,aX _ _ _ zS];exact g2
   have b8:∀s,aj .eql (some .int) true (bP (if p.last=true then 1 else 0)) (.int .u8 1) s=.ok (.bool p.last) s:=λs=>by cases p.last<;>rfl
   have aa:(St.skip S).nx=st.nx+3:=zS
   simp only[Z,af,aG,ba,aF,aHY,aHH,aHV,ag,b2,b3,b4,e8,az,qS,ar,GA,aw,b8,u,aa];rw[u]at uY;have A8:gC ([]:List uI) (cH 0 [CV.int .u8 0])=some []:=rfl;rw[jO uY A8,aP]
   have c1:∀s,aj .add none true (.int .i64 11) (I p.data.length) s=.ok (I ((11+p.data.length:Nat):Int)) s:=λs=>by
    rw[av,cI,bA uM];rfl
   have c2:∀s,bT 512 1 (.ptr st.nx 0) (some (.int .i64 11)) (some (I ((11+p.data.length:Nat):Int))) s=.ok (.slice st.nx 11 p.data.length 501 0) s:=λs=>by
    have:=rp (n:=512) (b:=st.nx) (l:=11) (h:=11+p.data.length) uM uM uM s;rw[aJn]at this;exact this
   have ub:Kp [] st (St.set f (st.nx+2) (.cells [] 5 false)):=lH.set _ (.inr uM) uM;have ap:(St.set f (st.nx+2) (.cells [] 5 false)).nx=st.nx+4:=ab;have My:(St.set f (st.nx+2) (.cells [] 5 false)).m.g st.nx=some (.cells (ai p.bX) 233 false):=by rw[ak _ _ _ _ uM];exact qS
   have TE:(St.set f (st.nx+2) (.cells [] 5 false)).m.g (st.nx+1)=some (.cells [.int .i64 0,.bool false,.ae] 200 false):=by rw[ak _ _ _ _ uM];exact Ih
   have TD:(St.set f (st.nx+2) (.cells [] 5 false)).m.g (st.nx+3)=some (.cells [.int .i64 0,.bool false,.ae] 200 false):=by rw[ak _ _ _ _ uM];exact G
   have K:Own (St.set f (st.nx+2) (.cells [] 5 false)) (.slice (st.nx+2) 0 0 0 0) 1 5 [] [st.nx+2]:=.inr (.inl ⟨_,_,_,_,rfl,rfl,rfl,an _ _ _⟩);generalize St.set f (st.nx+2) (.cells [] 5 false)=A at*;have jS:Sl A [] (.slice st.nx 11 p.data.length 501 0) 1 (ai p.data):=.inr ⟨st.nx,11,p.data.length,501,0,rfl,wb,⟨NP,.inl rfl⟩,.inr ⟨wb,uM,_,_,_,My,by rw[te];omega,by rw[aJr];exact Gz p⟩⟩;have c3:=(jS.SB uM p.data.length wb).1
   have c4:cT .slice 1 [(.int .u8 0)] (.slice st.nx 11 p.data.length 501 0) A=some (p.data.length,ai p.data):=by
    have e:cT .slice 1 [(.int .u8 0)] (.slice st.nx 11 p.data.length 501 0) A=(match dE 1 p.data.length (.slice st.nx 11 p.data.length 501 0) A with|some s=>some (p.data.length,s)|none=>none):=rfl;rw[e,c3]
   obtain⟨v',d,F',d1,B,Y,d4⟩:=K.append (n:=p.data.length) (bytes:=1) (T:=ai p.data) uM wb (bu _) zS zS;rw[aIm]at B;obtain⟨o1,o2⟩:=B.cF
   have r:∀b∈F',st.nx+2<=b/\b<d.nx/\b≠st.nx+3:=λb a=>by
    obtain⟨o,h2⟩:=d4 b a;simp at o;omega
   have o3:=(B.sl (X:=[]) λb a=>⟨wb,(r b a).2.1⟩).bL.1;have E:∀b,b<st.nx+4->b≠st.nx+2->d.m.g b=A.m.g b:=λb o h2=>Y.keep b uM abm;have ao:st.nx+4<=d.nx:=by have:=Y.nx;omega
   have M:=ub.trans Y wb;have VS:=(E st.nx uM uM).trans My;have P:=(E (st.nx+1) uM uM).trans TE;have z:=(E (st.nx+3) uM uM).trans TD
   have mo:aZ [.int .i64 0,.bool false,.ae] [(0,1,I p.n),(1,1,.bool p.last),(2,1,v')] d=.ok (.agg [I p.n,.bool p.last,v']) d:=by
    rw[dB];simp[cE,bz,o2,o3]
   simp only[c1,af,c2,c4,d1,aP,mo,kh z,kh TD,aH,z,aS,aT,My,VS,ar,GA,aw];have kW:bz [.int .i64 0,.bool false,.ae] 0 [I p.n,.bool p.last,v']=[I p.n,.bool p.last,v']:=dU _ _ rfl;rw[kW];refine⟨⟨rfl,acu,xI⟩,⟨⟨afp,afp,afp⟩,⟨afp,afp,afp⟩,afp⟩,⟨afp,afp⟩,?_⟩;have L:Kp [] st (St.set d (st.nx+3) (.cells [I p.n,.bool p.last,v'] 200 false)):=M.set _ (.inr uM) uM;have Yc:(St.set d (st.nx+3) (.cells [I p.n,.bool p.last,v'] 200 false)).m.g st.nx=some (.cells (ai p.bX) 233 false):=by rw[ak _ _ _ _ uM];exact VS
   have O:(St.set d (st.nx+3) (.cells [I p.n,.bool p.last,v'] 200 false)).m.g (st.nx+1)=some (.cells [.int .i64 0,.bool false,.ae] 200 false):=by rw[ak _ _ _ _ uM];exact P
   have w:(St.set d (st.nx+3) (.cells [I p.n,.bool p.last,v'] 200 false)).m.g (st.nx+3)=some (.cells [I p.n,.bool p.last,v'] 200 false):=an _ _ _;have d9:Own (St.set d (st.nx+3) (.cells [I p.n,.bool p.last,v'] 200 false)) v' 1 5 (ai p.data) F':=B.mono λb a=>ak _ _ _ _ (r b a).2.2;have am:(St.set d (st.nx+3) (.cells [I p.n,.bool p.last,v'] 200 false)).nx=d.nx:=rfl;generalize St.set d (st.nx+3) (.cells [I p.n,.bool p.last,v'] 200 false)=S9 at*;have I8:∀s:St,s.m.g (st.nx+3)=some (.cells [I p.n,.bool p.last,v'] 200 false)->aJ 3 (.ptr (st.nx+3) 0) s=.ok (.agg [I p.n,.bool p.last,v']) s:=λs F=>aM F rfl;have HN:∀s:St,s.m.g st.nx=some (.cells (ai p.bX) 233 false)->aJ 512 (.ptr st.nx 0) s=.ok (.agg (ai p.bX)) s:=λs F=>aM F te;rw[I8 S9 w,af];refine(CO (p:=p) (d9.sl (X:=[]) λb a=>⟨wb,by have:=(r b a).2.1;omega⟩) NP uM).mono ?_;rintro x j ⟨rfl,q⟩;have ad:=(q.keep st.nx uM wb).trans Yc;have al:=(q.keep (st.nx+1) uM wb).trans O;have KH:=(q.keep (st.nx+3) uM wb).trans w
   have q1:aj .neq (some (.bytes 512)) false (.agg (ai p.bX)) (.agg (ai p.bX)) j=.ok (.bool false) j:=by
    rw[Nq _ _ _ hlen hlen];simp
   have q2:aj .neq (some .int) true (I p.data.length) (.int .i64 501) j=.ok (.bool (!decide (p.data.length=501))) j:=by
    rw[av,ff];congr 3;simp only[aIi];omega
   simp only[HN j ad,HN S9 Yc,af,q1,aG,ba,aHY,aHH,aIj,aHV,ah,az,KH,ar,aHN,aHI,aHG,aw,cR];have q3:(!p.last)=true->p.data.length=501:=λh=>H v TK
   have q4:us (br (some !p.last) j (.ok (I p.data.length) j)) λpC=>us (br (some !p.last) j (aj .neq (some .int) true pC (.int .i64 501) j)) λvZ=>us (bk (.bool !p.last) vZ (.bool false) j) λuy=>uy=.bool false:=by
    cases hl:p.last with
    |true=>simp
    |false=>
     have:=q3 (by rw[hl];rfl);simp only[aHY,ba,af,q2,aF,aIj];rw[this];rfl
   refine lT q4 λ_ o=>lT o λ_ h2=>lT h2 λ_ h3=>?_;subst h3;simp only[aF,aHH,aHV,af,ag,I8 j KH,al,aS,aT,kW];refine⟨⟨afp,⟨afp,afp⟩,afp,afp⟩,afp,⟨rfl,acu,xI⟩,?_⟩;rw[aM (n:=3) (an j (st.nx+1) (.cells [I p.n,.bool p.last,v'] 200 false)) rfl,af];have ac:=L.trans q wb;have aq:=q.nx;refine⟨.agg [I p.n,.bool p.last,v'],by rw[aHQ v],v',rfl,F',ac.set _ (.inr uM) uM,d9.mono λb a=>?_,λb a=>⟨by have:=(r b a).1;omega,by have:=(r b a).2.1;simp;omega⟩⟩;obtain⟨o,h2,h3⟩:=r b a;rw[ak _ _ _ _ uM];exact q.keep b uM wb
end
section
variable {r a n:Nat}{F:List Nat}{D:aU}
section
variable {st st':St}
structure RingM where
 first:Nat
 count:Nat
 base:Nat
 last:Nat
 top:Nat
def fL (st:St)(r a:Nat)(m:RingM):Prop:=r<st.nx/\st.m.g r=some (.cells [.ptr a 0,I m.first,I m.count,I m.base,I m.last,I m.top] 198 false)
def fL.keep {m:RingM}{X:List Nat}(h:fL st r a m)(b:Kp X st st')(c:r∉X):fL st' r a m:=⟨aId h.1 b.nx,by rw[b.keep r h.1 c];exact h.2⟩
def RingM.place (m:RingM)(n:Nat):Nat:=m.first+n%m.count
def As {m:RingM}(h:fL st r a m)(c:0<m.count)(f:m.first+m.count<=1000000)(g:n<=9000000000000000000):R 153 [.ptr r 0,I n] st λv st'=>v=I (m.place n)/\st'=st:=by
 obtain⟨j,b⟩:=h;refine bK ?_;rw[amN];have k:¬((m.count:Int)=0):=uM
 have e:IntKind.i64.wrap ((m.first:Int)+Int.tmod n m.count)=((m.place n:Nat):Int):=by
  have i:n%m.count<m.count:=aKq _ c;have:Int.tmod (n:Int) m.count=((n%m.count:Nat):Int):=by rw[Int.tmod_eq_emod_of_nonneg uM];rfl
  rw[this];unfold RingM.place;rw[bA uM];omega
 have d:¬m.count=0:=uM
 simp[b,e,d]
def ya {m:RingM}(h:fL st r a m)(b:cQ st a F D):R 171 [.ptr r 0] st λv st'=>v=I (if D.dead=true then 20 else 0)/\st'=st:=by
 obtain⟨d,c⟩:=h;refine bK ?_;rw[amB];simp[eQ,c];refine(xi b).same ?_;cases D.dead<;>simp
def DW {m:RingM}(h:fL st r a m):R 173 [.ptr r 0] st λv st'=>v=.bool (decide (m.last<m.top))/\st'=st:=by
 obtain⟨c,b⟩:=h;refine bK ?_;rw[amz];simp[b]
def Pm {m:RingM}(h:fL st r a m):R 74 [.ptr r 0] st λv st'=>v=I m.top/\st'=st:=by
 obtain⟨c,b⟩:=h;refine bK ?_;rw[w74];simp[eQ,b]
def RingM.room (m:RingM):Int:=if m.last<m.top then 0 else (m.count:Int)-((m.last:Int)-m.base)
def Lq {m:RingM}(h:fL st r a m)(j:m.count<=1000000)(i:m.base<=4611686018427387904)(g:m.last<=4611686018427387904):R 174 [.ptr r 0] st λv st'=>v=I m.room/\st'=st:=by
 have c:=h;obtain⟨k,d⟩:=h;refine bK ?_;rw[amy];simp;refine(DW c).same ?_
 by_cases b:m.last<m.top
 .simp[b,RingM.room]
 .have f:IntKind.i64.wrap ((m.last:Int)-m.base)=(m.last:Int)-m.base:=bA uM;have e:IntKind.i64.wrap ((m.count:Int)-((m.last:Int)-m.base))=(m.count:Int)-((m.last:Int)-m.base):=bA uM;simp[b,d,RingM.room,f,e]
def bf (n:Nat):Nat:=if n=0 then 1 else (n-1)/501+1
def CU (i:n<=1000000000):R 172 [I n] st λv st'=>v=I (bf n)/\st'=st:=by
 refine bK ?_;rw[amA];have g:¬(n:Int)<0:=uM
 by_cases b:n=0
 .simp[b,bf]
 .have f:IntKind.i64.wrap ((n:Int)-1)=((n-1:Nat):Int):=by rw[bA uM];omega
  have e:IntKind.i64.wrap (Int.tdiv ((n-1:Nat):Int) 501)=(((n-1)/501:Nat):Int):=by
   have:Int.tdiv ((n-1:Nat):Int) 501=(((n-1)/501:Nat):Int):=rfl;rw[this,bA uM]
  have d:IntKind.i64.wrap ((((n-1)/501:Nat):Int)+1)=((bf n:Nat):Int):=by
   rw[bA uM];unfold bf;rw[aHM b];omega
  have c:¬(n:Int)=0:=uM
  simp only[av,c8,cC,dS,Qb,cI,af,ag,g,c,aJm,aHH,aHV,f,YA,e,d];simp
def Ud {m:RingM}(h:fL st r a m)(c:cQ st a F D)(d:D.waits.length<=1000000000):R 132 [.ptr r 0] st λv st'=>v=I (if D.flush.1=0 then 0 else 20)/\vW a F st D.flush.2 st':=by
 have j:=h;obtain⟨k,g⟩:=h;refine bK ?_;rw[ang];refine(ya j c).same ?_
 by_cases b:D.dead=true
 .have e:D.flush=(20,D):=by simp[aU.flush,b]
  simp[b,e];exact⟨Kp.refl _ _,F,c,afk⟩
 .simp[b,eQ,g];refine(xe c d).mono ?_;rintro _ s ⟨rfl,f⟩
  by_cases i:D.flush.1=0<;>simp[i,f]
def GF {m:RingM}{p:Piece}{at_:Nat}(O:eA st)(h:fL st r a m)(P:cQ st a F D)(hr:r∉F)(G:D.dead=false)(U:0<m.count)(L:m.first+m.count<=1000000)
 (lI:at_<D.aq.length) (w:p.ok) (Q:D.cur at_=p.bX):R 114 [.ptr r 0,I at_] st λx st'=>∃y,x=.tuple [y,.bool (decide (p.n≠0/\m.place p.n=at_)),I 0]/\abW p st y st':=by
 have V:=h;obtain⟨T,S⟩:=h;refine bK ?_;rw[anv];have i:Kp [] st (St.new st (.cells [.int .i64 0,.bool false,.ae] 200 false)):=(Kp.refl [] st).new _;have Y:(St.new st (.cells [.int .i64 0,.bool false,.ae] 200 false)).m.g st.nx=some (.cells [.int .i64 0,.bool false,.ae] 200 false):=au _ _;have X:=(i.keep r T wb).trans S;have OV:=P.keep i wb;have Cr:(St.new st (.cells [.int .i64 0,.bool false,.ae] 200 false)).nx=st.nx+1:=rfl;simp only[cz,aP];generalize St.new st (.cells [.int .i64 0,.bool false,.ae] 200 false)=S1 at*;simp[eQ,X];refine(wA OV at_).mono ?_;intro x B u
 have Z:D.read at_=(0,p.bX):=by
  simp[aU.read,G,Q,Int.not_le.mpr (show(at_:Int)<D.aq.length by omega)]
 rw[Z,aHP rfl]at u;obtain⟨f,N,b,rfl,W,b1,b2⟩:=u;have ab:=f.nx;have I6:pM 512 (.slice b 0 512 512 1) B=.ok (.ptr b 0) B:=rfl;have OS:(ai p.bX).length=512:=by simp[N]
 simp only[aD,aI,af,av,ff,aIS,aIb,ag,aHH,aHV,I6,aM W OS];refine(JP (f.fresh (i.fresh O)) w).mono ?_;rintro _ d ⟨_,rfl,v,rfl,C,j,z,Oa⟩;have Kx:=(i.trans f wb).trans j wb
 have E:d.m.g st.nx=some (.cells [.int .i64 0,.bool false,.ae] 200 false):=by
  rw[j.keep _ uM wb,f.keep _ uM wb];exact Y
 have aa:=j.nx;obtain⟨o1,o2⟩:=z.cF;have H:bz [.int .i64 0,.bool false,.ae] 0 [I p.n,.bool p.last,v]=[I p.n,.bool p.last,v]:=dU _ _ rfl;have J:bz [I p.n,.bool p.last,v] 0 [I p.n,.bool p.last,v]=[I p.n,.bool p.last,v]:=dU _ _ rfl;simp only[aD,aI,af,E,aS,aT,H];refine⟨⟨rfl,acu,xI⟩,?_⟩;have s:Kp [] st (St.set d st.nx (.cells [I p.n,.bool p.last,v] 200 false)):=Kx.set _ (.inr (aHK _)) uM;have o:(St.set d st.nx (.cells [I p.n,.bool p.last,v] 200 false)).m.g st.nx=some (.cells [I p.n,.bool p.last,v] 200 false):=an _ _ _;have l:Own (St.set d st.nx (.cells [I p.n,.bool p.last,v] 200 false)) v 1 5 (ai p.data) C:=z.mono λq hq=>ak _ _ _ _ adB;have M:(St.set d st.nx (.cells [I p.n,.bool p.last,v] 200 false)).nx=d.nx:=rfl;have k:=V.keep s wb;generalize St.set d st.nx (.cells [I p.n,.bool p.last,v] 200 false)=S4 at*;refine⟨wb,?_⟩;have K:List.take 3 [I p.n,CV.bool p.last,v]=[I p.n,.bool p.last,v]:=rfl
 have e:∀A:Bool,A=(!decide (p.n=0)&&decide (m.place p.n=at_))->abW p st (.agg [I p.n,.bool p.last,v]) (St.set S4 st.nx (.cells [I p.n,.bool p.last,v] 200 false)):=λA _=>
  ⟨v,rfl,C,s.set _ (.inr (aHK _)) uM,l.mono λq hq=>ak _ _ _ _ adB,λq hq=>⟨adB,by have:=(Oa q hq).2;simp;omega⟩⟩
 by_cases c:p.n=0
 .simp[c,o,o1];have AZ:bz [I 0,CV.bool p.last,v] 0 [I 0,CV.bool p.last,v]=[I 0,CV.bool p.last,v]:=dU _ _ rfl;rw[AZ];have:=e _ rfl;rw[c]at this;exact this
 .simp only[c,ne_eq,not_false_eq_true,aIS,aG,aIj,ba,af,az,o,ar,aHG,aw,dI];have Vj:=w.1;refine(As k U L (n:=p.n) uM).same ?_;simp[o,o1,J];exact⟨_,⟨rfl,uM⟩,e _ rfl⟩
end
end
section
variable {f:CV}{c q r n a:Nat}{m:RingM}{D:aU}{P:Nat->Piece}
section
variable {st st':St}
structure tH (D:aU)(m:RingM)(P:Nat->Piece):Prop where
 pos:0<m.count
 fits:m.first+m.count<=D.aq.length
 ik:D.aq.length<=65536
 base:m.base<=4611686018427387904
 cur:∀j,j<m.count->D.cur (m.first+j)=(P j).bX/\(P j).ok
def rR (st:St)(f:CV)(c q r n:Nat):Prop:=f=.func (.func 191) [] [.ptr c 0,.ptr q 0]/\c<st.nx/\q<st.nx/\c≠q/\st.m.g c=some (.cells [I n] 3 false)/\st.m.g q=some (.cells [.ptr r 0] 146 false)
def rR.keep {X:List Nat}(h:rR st f c q r n)(b:Kp X st st')(i:c∉X)(g:q∉X):rR st' f c q r n:=by
 obtain⟨o,e,d,l,k,j⟩:=h;exact⟨o,aId e b.nx,aId d b.nx,l,by rw[b.keep c e i];exact k,by rw[b.keep q d g];exact j⟩
def JO (h:fL st r a m):R 154 [.ptr r 0] st λf st'=>Kp [] st st'/\∃c q,rR st' f c q r m.base/\st.nx<=c/\st.nx<=q:=by
 obtain⟨i,e⟩:=h;refine bK ?_;rw[amM];have j:(St.new st (.cells [.ptr r 0] 146 false)).m.g r=st.m.g r:=aX _ _ _ i;have b:CV.cK (.ptr r 0)=[.ptr r 0]:=rfl;have k:CV.isAny (.ptr r 0)=false:=rfl;simp only[bS,b,k,az,au,ar,aHG,aw,eQ,bj,ah,af,j,e,aHN,aHI,cz,aP,aH,aS,lV];have d:bz [.int .i64 0] 0 [I m.base]=[I m.base]:=dU _ _ rfl;refine⟨afp,⟨rfl,rfl,xI⟩,?_,(St.new st (.cells [.ptr r 0] 146 false)).nx,st.nx,⟨rfl,?_,?_,?_,?_,?_⟩,?_,aHK _⟩
 .exact(((Kp.refl [] st).new _).new _).set _ (.inr wb) wb
 .simp
 .simp;omega
 .simp
 .rw[an];exact congrArg some (congrArg (λl=>rU.cells l 3 false) d)
 .rw[ak _ _ _ _ wb,aX _ _ _ wb];exact au _ _
 .simp
def RingM.is (m:RingM)(P:Nat->Piece)(n:Nat):Prop:=(P (n%m.count)).n=n
instance (m:RingM) (P:Nat->Piece) (n:Nat):Decidable (m.is P n):=by unfold RingM.is;infer_instance
def Qm (h:fL st r a m)(e:tH D m P)(j:rR st f c q r n)(y:n=m.base+m.count):fA R f [] st λx st'=>x=.tuple [.agg [.int .i64 0,.bool false,.ae],.bool false,I 0]/\Kp [] st st':=by
 obtain⟨o,l⟩:=h;obtain⟨rfl,v,u,z,s,p⟩:=j;rw[dM];refine bK ?_;simp only[aIm];rw[adS];have d:∀b,b<st.nx->(St.new st (.cells [.int .i64 0,.bool false,.ae] 200 false)).m.g b=st.m.g b:=λb k=>aX _ _ _ k;have w:IntKind.i64.wrap ((n:Int)-m.base)=(m.count:Int):=by have:=e.base;have:=e.fits;have:=e.ik;rw[bA uM];omega
 simp only[cz,aP,bD,az,d c v,s,d q u,p,ar,aHG,aw,bj,ah,af,d r o,l,aHN,aHI,av,dS,w,cC,aIS,ag,aIj,dB,lJ,aH,au,aS,aT];have i:bz [.int .i64 0,.bool false,.ae] 0 [.int .i64 0,.bool false,.ae]=[.int .i64 0,.bool false,.ae]:=dU _ _ rfl;refine⟨⟨afp,afp,afp,afp,afp,afp⟩,afp,⟨rfl,rfl,xI⟩,?_⟩;rw[aM (n:=3) (an _ _ _) rfl,af,i];exact⟨rfl,((Kp.refl [] st).new _).set _ (.inr (aHK _)) wb⟩
def Yo (p:Piece)(X:List Nat)(st:St)(y:CV)(st':St):Prop:=∃v d,y=.agg [I p.n,.bool p.last,v]/\Kp X st st'/\Own st' v 1 5 (ai p.data) d/\∀b∈d,st.nx<=b/\b<st'.nx
def UM {F:List Nat}(hf:eA st)(h:fL st r a m)(hd:cQ st a F D)(hr:r∉F)(nj:D.dead=false)(i:tH D m P)(U:rR st f c q r n)(he:n≠m.base+m.count)(hb:m.base<=n)(hl:n<m.base+m.count)(C:r≠c)(aa:r≠q)(E:c∉F):
 fA R f [] st λx st'=>∃y,x=.tuple [y,.bool (decide (m.is P (n+1))),I 0]/\Yo (P ((n+1)%m.count)) [c] st y st'/\rR st' f c q r (n+1):=by
 have h':=h;obtain⟨h1,h2⟩:=h;have al:=U;obtain⟨rfl,g2,X,W,g5,V⟩:=U;rw[dM];refine bK ?_;simp only[aIm];rw[adS];have B:∀b,b<st.nx->(St.new st (.cells [.int .i64 0,.bool false,.ae] 200 false)).m.g b=st.m.g b:=λb hb=>aX _ _ _ hb;have q1:=i.base;have q2:=i.fits;have q3:=i.ik;have e1:IntKind.i64.wrap ((n:Int)-m.base)=(n:Int)-m.base:=bA uM;have e2:¬((n:Int)-m.base=m.count):=uM
 have e3:IntKind.i64.wrap ((n:Int)+1)=((n+1:Nat):Int):=by rw[bA uM];rfl
 simp only[cz,aP,bD,az,B c g2,g5,B q X,V,ar,aHG,aw,bj,ah,af,B r h1,h2,aHN,aHI,av,dS,e1,cC,e2,aJm,ag,aHH,aHV,cI,e3,aH,aS];refine⟨⟨afp,afp,afp,afp,afp,afp⟩,afp,⟨rfl,rfl,wb⟩,?_⟩;have kW:bz [I n] 0 (CV.cK (I ((n+1:Nat):Int)))=[I ((n+1:Nat):Int)]:=dU _ _ rfl;have L:bz [I n] 0 (CV.cK (.int .i64 ((n+1:Nat):Int)))=[I ((n+1:Nat):Int)]:=kW;rw[L];have Z6:(St.set (St.new st (.cells [.int .i64 0,.bool false,.ae] 200 false)) c (.cells [I ((n+1:Nat):Int)] 3 false)).nx=st.nx+1:=rfl;have o:Kp [c] st (St.new (St.set (St.new st (.cells [.int .i64 0,.bool false,.ae] 200 false)) c (.cells [I ((n+1:Nat):Int)] 3 false)) (.cells [.int .i64 0,.bool false,.ae] 200 false)):=(((Kp.refl _ st).new _).set _ (.inl wb) zS).new _
 have Y:(St.new (St.set (St.new st (.cells [.int .i64 0,.bool false,.ae] 200 false)) c (.cells [I ((n+1:Nat):Int)] 3 false)) (.cells [.int .i64 0,.bool false,.ae] 200 false)).m.g c=some (.cells [I ((n+1:Nat):Int)] 3 false):=by
  rw[aX _ _ _ zS,an]
 have x4:(St.new (St.set (St.new st (.cells [.int .i64 0,.bool false,.ae] 200 false)) c (.cells [I ((n+1:Nat):Int)] 3 false)) (.cells [.int .i64 0,.bool false,.ae] 200 false)).m.g st.nx=some (.cells [.int .i64 0,.bool false,.ae] 200 false):=by
  rw[aX _ _ _ wb,ak _ _ _ _ uM];exact au _ _
 have O:(St.new (St.set (St.new st (.cells [.int .i64 0,.bool false,.ae] 200 false)) c (.cells [I ((n+1:Nat):Int)] 3 false)) (.cells [.int .i64 0,.bool false,.ae] 200 false)).m.g (st.nx+1)=some (.cells [.int .i64 0,.bool false,.ae] 200 false):=by
  have:=au (St.set (St.new st (.cells [.int .i64 0,.bool false,.ae] 200 false)) c (.cells [I ((n+1:Nat):Int)] 3 false)) (.cells [.int .i64 0,.bool false,.ae] 200 false);exact this
 have ad:(St.new (St.set (St.new st (.cells [.int .i64 0,.bool false,.ae] 200 false)) c (.cells [I ((n+1:Nat):Int)] 3 false)) (.cells [.int .i64 0,.bool false,.ae] 200 false)).nx=st.nx+2:=rfl;rw[Z6];generalize St.new (St.set (St.new st (.cells [.int .i64 0,.bool false,.ae] 200 false)) c (.cells [I ((n+1:Nat):Int)] 3 false)) (.cells [.int .i64 0,.bool false,.ae] 200 false)=S4 at*;have z:=(o.keep q X (by simp;exact aIG W)).trans V;have S:=h'.keep o (by simpa using C);have d4:=hd.keep o (λb hb=>by simp;exact λe=>E (e▸hb));have Kr:m.place (n+1)=m.first+(n+1)%m.count:=rfl;have Vo:(n+1)%m.count<m.count:=aKq _ i.pos;obtain⟨u1,u2⟩:=i.cur _ Vo;simp only[z,Y,ar,aHG,aw];refine(As S i.pos uM (n:=n+1) uM).same ?_;refine(GF (o.fresh hf) S d4 hr nj i.pos uM (at_:=m.place (n+1)) uM u2 u1).mono ?_;rintro _ d ⟨_,rfl,v,rfl,Z,l,T,Oa⟩;have ac:=l.nx;have c5:=(l.keep c uM wb).trans Y;have q5:=(l.keep q uM wb).trans z;have x5:=(l.keep st.nx uM wb).trans x4;have N:=(l.keep (st.nx+1) uM wb).trans O;obtain⟨o1,o2⟩:=T.cF;generalize hP:P ((n+1)%m.count)=p at*;have A:bz [.int .i64 0,.bool false,.ae] 0 [I p.n,.bool p.last,v]=[I p.n,.bool p.last,v]:=dU _ _ rfl;simp only[aD,aI,af,kh N,kh O,aP,aH,N,aS,aT,A,z,ar,aHG,aw];refine⟨⟨rfl,acu,xI⟩,⟨⟨afp,afp⟩,afp,afp,⟨afp,afp,afp⟩,afp⟩,afp,?_⟩;have Fg:Kp [c] st (St.set d (st.nx+1) (.cells [I p.n,.bool p.last,v] 200 false)):=(o.trans l wb).set _ (.inr uM) uM;have J:(St.set d (st.nx+1) (.cells [I p.n,.bool p.last,v] 200 false)).m.g c=some (.cells [I ((n+1:Nat):Int)] 3 false):=by rw[ak _ _ _ _ uM];exact c5
 have q6:(St.set d (st.nx+1) (.cells [I p.n,.bool p.last,v] 200 false)).m.g q=some (.cells [.ptr r 0] 146 false):=by rw[ak _ _ _ _ uM];exact q5
 have Q:(St.set d (st.nx+1) (.cells [I p.n,.bool p.last,v] 200 false)).m.g st.nx=some (.cells [.int .i64 0,.bool false,.ae] 200 false):=by rw[ak _ _ _ _ uM];exact x5
 have u:(St.set d (st.nx+1) (.cells [I p.n,.bool p.last,v] 200 false)).m.g (st.nx+1)=some (.cells [I p.n,.bool p.last,v] 200 false):=an _ _ _;have o6:Own (St.set d (st.nx+1) (.cells [I p.n,.bool p.last,v] 200 false)) v 1 5 (ai p.data) Z:=T.mono λb hb=>ak _ _ _ _ adC;have ab:(St.set d (st.nx+1) (.cells [I p.n,.bool p.last,v] 200 false)).nx=d.nx:=rfl;generalize St.set d (st.nx+1) (.cells [I p.n,.bool p.last,v] 200 false)=j at*;have am:∀bb:Bool,True:=λ_=>trivial
 have k:decide (m.is P (n+1))=(decide (p.n≠0/\m.place p.n=m.place (n+1))&&decide (p.n=n+1)):=by
  have K:m.is P (n+1)↔p.n=n+1:=by unfold RingM.is;rw[hP]
  rw[show decide (m.is P (n+1))=decide (p.n=n+1)from decide_eq_decide.2 K]
  by_cases e:p.n=n+1
  .simp[e]
  .simp[e]
 have s:∀M:St,M=St.set j st.nx (.cells [I p.n,.bool p.last,v] 200 false)->Yo p [c] st (.agg [I p.n,.bool p.last,v]) M/\rR M (.func (.func 191) [] [.ptr c 0,.ptr q 0]) c q r (n+1):=by
  rintro _ rfl;refine⟨⟨v,Z,rfl,Fg.set _ (.inr (aHK _)) uM,o6.mono λb hb=>ak _ _ _ _ adC,λb hb=>⟨adC,by have:=(Oa b hb).2;simp;omega⟩⟩,rfl,zS,zS,W,?_,?_⟩
  .rw[ak _ _ _ _ uM];exact J
  .rw[ak _ _ _ _ uM];exact q6
 rw[aM (n:=3) u rfl,af]
 by_cases FY:p.n≠0/\m.place p.n=m.place (n+1)
 .rw[aHQ FY]at k⊢
  have qe:aj .eql (some .int) false (I p.n) (I ((n+1:Nat):Int)) j=.ok (.bool (decide (p.n=n+1))) j:=by
   rw[av,cC];congr 2;simp only[aIi];omega
  simp only[aG,aIj,ba,ah,af,az,u,J,ar,aHN,aHG,aw,qe,aF,Q,aS,aT,A];rw[Bool.true_and]at k;have y7:(St.set j st.nx (.cells [I p.n,.bool p.last,v] 200 false)).m.g (st.nx+1)=some (.cells [I p.n,.bool p.last,v] 200 false):=by rw[ak _ _ _ _ uM];exact u
  have c7:(St.set j st.nx (.cells [I p.n,.bool p.last,v] 200 false)).m.g c=some (.cells [I ((n+1:Nat):Int)] 3 false):=by rw[ak _ _ _ _ uM];exact J
  have w:(St.set j st.nx (.cells [I p.n,.bool p.last,v] 200 false)).m.g st.nx=some (.cells [I p.n,.bool p.last,v] 200 false):=an _ _ _;obtain⟨H,G⟩:=s _ rfl;simp only[y7,c7,ar,aHG,aw];rw[aM (n:=3) w rfl,af,k];exact⟨⟨rfl,acu,xI⟩,⟨afp,⟨afp,afp⟩,⟨afp,afp⟩,afp⟩,afp,_,rfl,H,G⟩
 .rw[aHL FY]at k⊢;simp only[aG,aIj,bU,aHH,aHV,af,aF,Q,aS,aT,A];rw[Bool.false_and]at k;have w:(St.set j st.nx (.cells [I p.n,.bool p.last,v] 200 false)).m.g st.nx=some (.cells [I p.n,.bool p.last,v] 200 false):=an _ _ _;obtain⟨H,G⟩:=s _ rfl;rw[aM (n:=3) w rfl,af,k];exact⟨⟨rfl,acu,xI⟩,⟨afp,⟨afp,afp⟩,⟨afp,afp⟩,afp⟩,afp,_,rfl,H,G⟩
end
end
