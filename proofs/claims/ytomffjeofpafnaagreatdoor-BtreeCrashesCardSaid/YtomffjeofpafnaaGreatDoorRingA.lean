import Derived.Test.YtomffjeofpafnaaGreatDoorDisk
namespace Lim
open Go
noncomputable section
set_option linter.defProp false
set_option maxRecDepth 100000
def le:Nat->Nat->List UInt8
 |0,_=>[]
 |k+1,n=>le k n++[UInt8.ofNat (n/256^k%256)]
def ig (k n:Nat):(le k n).length=k:=by induction k with|zero=>rfl|succ k ih=>simp[le,ih]
structure Piece where
 n:Nat
 last:Bool
 data:List UInt8
def Piece.bT (p:Piece):iJ:=le 8 p.n++[if p.last=true then 1 else 0,UInt8.ofNat (p.data.length%256),UInt8.ofNat (p.data.length/256%256)]++p.data++List.replicate (501-p.data.length) 0
def Piece.qf (p:Piece)(h:p.data.length<=501):p.bT.length=512:=by
 simp only[Piece.bT,aDw,ig,aDT,aEO,aEo];omega
def zy {n size b o j:Nat}(h:j<n)(st:St):fL n size (.ptr b o) (I j) st=.ok (.ptr b (o+j*size)) st:=by
 have e:fL n size (.ptr b o) (I j) st=bz (Nat.ble (Nat.succ j) n) (ot (Nat.add o (Nat.mul j size)) λo=>.ok (.ptr b o) st) .bad:=rfl;rw[e,aO,aDy aah];rfl
def CU (n i:Nat)(hi:i<8)(d:Option jX)(c:Bool)(st:St):ai .shr d c (I n) (I ((8*i:Nat):Int)) st=.ok (I ((n/256^i:Nat):Int)) st:=by
 have e:ai .shr d c (I n) (I ((8*i:Nat):Int)) st=if ((8*i:Nat):Int)<0 then .bad else .ok (I ((n:Int).fdiv (2^(min ((8*i:Nat):Int).toNat 64)))) st:=rfl
 rw[e,aDv pX,aGb,aEi pX,Int.fdiv_eq_ediv_of_nonneg _ (Int.le_of_lt (Int.pow_pos pX))]
 congr 2
 have:(2:Nat)^(8*i)=256^i:=by rw[Nat.pow_mul]
 rw[<-this];simp
def NJ (n:Nat)(k:IntKind)(st:St):dy (.toInt .u8) (.int k (n:Int)) st=.ok (bP (UInt8.ofNat (n%256))) st:=by
 rw[jC _ pX];show OR.ok (.int .u8 (IntKind.u8.wrap n)) st=_;rw[Nz]
def vL (A B:List CV)(x y:CV):bo (A++x::B) A.length [y]=A++y::B:=by
 unfold bo;simp
def pG (P Z T:List CV):bo (P++Z) P.length T=P++(T++Z.drop T.length):=by
 unfold bo;simp[List.drop_append]
def nI (n:Nat):zr n=aj (List.replicate n 0):=by unfold zr aj;rw[List.map_replicate];rfl
section
variable {st st':St}
def By {X:List Nat}{v:CV}{p:Piece}(h:Sl st X v 1 (aj p.data))(hd:p.data.length<=501)(hn:p.n<9223372036854775808):R 175 [.agg [I p.n,.bool p.last,v]] st λx st'=>x=.agg (aj p.bT)/\Kp [] st st':=by
 refine bN ?_;rw[ajg];have hv:=h.bD;simp only[bW,cE,aT];refine⟨rfl,?_⟩;show db _ _ _;simp only[aH,aI];have kV:Kp [] st (St.new (St.new (St.new st (.cells [I p.n,.bool p.last,v] 200 false)) (.cells (zr 512) 233 false)) (.cells (zr 512) 233 false)):=(((Kp.refl [] st).new _).new _).new _
 refine bK (λm vs s=>∃i,m+i=8/\vs=[.ptr st.nx 0,.ptr (st.nx+1) 0,.ptr (st.nx+2) 0,I i]/\Kp [] st s/\s.nx=st.nx+3/\s.m.g st.nx=some (.cells [I p.n,.bool p.last,v] 200 false)/\s.m.g (st.nx+1)=some (.cells (zr 512) 233 false)/\
  s.m.g (st.nx+2)=some (.cells (aj (le i p.n++List.replicate (512-i) 0)) 233 false)) ?_ (n:=8) ⟨0,rfl,rfl,kV,rfl,?_,?_,?_⟩
 .rintro m vs s k ⟨i,hm,rfl,hk,Bd,g1,g2,g3⟩ next
  by_cases hi:i<8
  .have ff:(i:Int)<8:=by omega
   have e1:IntKind.i64.wrap (8*(i:Int))=((8*i:Nat):Int):=WT
   have e2:IntKind.i64.wrap ((i:Int)+1)=((i+1:Nat):Int):=WT
   have e3:∀s,ai .lss none true (I i) (.int .i64 8) s=.ok (.bool true) s:=λs=>by rw[ay,cY];simp only[ff,aEq]
   have e4:∀s,ai .mul none true (.int .i64 8) (I i) s=.ok (I ((8*i:Nat):Int)) s:=λs=>by rw[ay,kg,e1]
   have e5:∀s,ai .add none true (I i) (.int .i64 1) s=.ok (I ((i+1:Nat):Int)) s:=λs=>by rw[ay,cI,e2]
   simp only[aH,aI,e3,af,ag,aDQ,fl,ah,aC,g1,ar,aDx,aDo,az,e4,CU _ _ hi,NJ,zy (show i<512 from pX),aF,g3,aS,e5];refine⟨⟨rfl,rfl,by simp[ig];omega⟩,next (m-1) _ _ pX ⟨i+1,pX,rfl,hk.set _ (.inr pX) pX,Bd,?_,?_,?_⟩⟩
   .rw[al _ _ _ _ pX];exact g1
   .rw[al _ _ _ _ pX];exact g2
   .rw[aq]
    congr 2
    have e6:List.replicate (512-i) (0:UInt8)=0::List.replicate (512-(i+1)) 0:=by
     rw[show 512-i=(512-(i+1))+1 from pX,aFz]
    rw[e6,bF,bF];have:=vL (aj (le i p.n)) (aj (List.replicate (512-(i+1)) 0)) (bP 0) (bP (UInt8.ofNat (p.n/256^i%256)));rw[bJ,ig]at this;simp only[aEQ];show bo (aj (le i p.n)++bP 0::aj _) i [bP _]=_;rw[this];simp[le,aj]
  .have ff:¬(i:Int)<8:=by omega
   have hi8:i=8:=pX
   subst hi8
   have hb:aj (le 8 p.n++List.replicate (512-8) 0)=aj (le 8 p.n)++(bP 0::bP 0::bP 0::aj (List.replicate 501 0)):=by
    rw[bF];rfl
   have hA:(aj (le 8 p.n)).length=8:=by simp[ig]
   rw[hb]at g3;have e3:∀s,ai .lss none true (I ((8:Nat):Int)) (.int .i64 8) s=.ok (.bool false) s:=λs=>rfl;simp only[aH,aI,e3,af,ag,aDp,aDE]
   refine iN (λvs s=>vs=[.ptr st.nx 0,.ptr (st.nx+1) 0,.ptr (st.nx+2) 0]/\Kp [] st s/\s.nx=st.nx+3/\s.m.g st.nx=some (.cells [I p.n,.bool p.last,v] 200 false)/\s.m.g (st.nx+1)=some (.cells (zr 512) 233 false)/\
    s.m.g (st.nx+2)=some (.cells (aj (le 8 p.n)++(bP (if p.last=true then 1 else 0)::bP 0::bP 0::aj (List.replicate 501 0))) 233 false)) ?_ ?_
   .intro k' u7;have e8:∀s,fL 512 1 (.ptr (st.nx+2) 0) (.int .i64 8) s=.ok (.ptr (st.nx+2) 8) s:=λs=>rfl;simp only[fl,ah,af,aC,g1,ar,aDx,aDq,aDo,az,ag]
    by_cases hl:p.last=true
    .simp only[hl,aDQ,e8,af,aF,g3,aS];refine⟨⟨rfl,rfl,by simp[ig]⟩,u7 _ _ ⟨rfl,hk.set _ (.inr pX) pX,Bd,?_,?_,?_⟩⟩
     .rw[al _ _ _ _ pX];exact g1
     .rw[al _ _ _ _ pX];exact g2
     .rw[aq];have:=vL (aj (le 8 p.n)) (bP 0::bP 0::aj (List.replicate 501 0)) (bP 0) (bP 1);rw[hA]at this;rw[aDy hl,<-this];rfl
    .simp only[hl,aDp,aDE];exact u7 _ _ ⟨rfl,hk,Bd,g1,g2,by rw[aDv hl];exact g3⟩
   .rintro _ s ⟨rfl,hk,Bd,g1,g2,g3⟩;have e9:∀s,fL 512 1 (.ptr (st.nx+2) 0) (.int .i64 9) s=.ok (.ptr (st.nx+2) 9) s:=λs=>rfl;have Qz:∀s,fL 512 1 (.ptr (st.nx+2) 0) (.int .i64 10) s=.ok (.ptr (st.nx+2) 10) s:=λs=>rfl;have e11:∀s,bR 512 1 (.ptr (st.nx+2) 0) (some (.int .i64 11)) none s=.ok (.slice (st.nx+2) 11 501 501 0) s:=λs=>rfl;have hlen:=h.len p.data.length rq pX;have eu1:∀s,dy (.toInt .u8) (I p.data.length) s=.ok (bP (UInt8.ofNat (p.data.length%256))) s:=λs=>NJ _ _ _
    have eu2:∀s,ai .shr none true (I p.data.length) (.int .u64 8) s=.ok (I ((p.data.length/256:Nat):Int)) s:=λs=>by
     have e:ai .shr none true (I p.data.length) (.int .u64 8) s=.ok (I ((p.data.length:Int).fdiv 256)) s:=rfl;rw[e,Int.fdiv_eq_ediv_of_nonneg _ pX];rfl
    have eu3:∀s,dy (.toInt .u8) (I ((p.data.length/256:Nat):Int)) s=.ok (bP (UInt8.ofNat (p.data.length/256%256))) s:=λs=>NJ _ _ _;generalize hfb:(if p.last=true then (1:UInt8)else 0)=fb at*;have en1:st.nx≠st.nx+2:=pX
    simp only[aH,aI,bA,ah,af,aC,g1,g3,ar,aS,aDx,aDq,aDo,az,hlen,eu1,eu2,eu3,e9,Qz,e11,aF,aq,al _ _ _ _ en1];have Vh:∀b:UInt8,(bP b).cA=[bP b]:=λ_=>rfl;have iY:∀b:UInt8,aU [bP b]=true:=λ_=>rfl
    have vX:aj p.bT=aj (le 8 p.n)++(bP fb::bP (UInt8.ofNat (p.data.length%256))::bP (UInt8.ofNat (p.data.length/256%256))::(aj p.data++aj (List.replicate (501-p.data.length) 0))):=by
     simp[Piece.bT,aj,hfb]
    generalize UInt8.ofNat (p.data.length%256)=b1 at*;generalize UInt8.ofNat (p.data.length/256%256)=b2 at*;have o1:=vL (aj (le 8 p.n)++[bP fb]) (bP 0::aj (List.replicate 501 0)) (bP 0) (bP b1);have o2:=vL (aj (le 8 p.n)++[bP fb,bP b1]) (aj (List.replicate 501 0)) (bP 0) (bP b2);have o3:=pG (aj (le 8 p.n)++[bP fb,bP b1,bP b2]) (aj (List.replicate 501 0)) (aj p.data);simp only[aDY,aEp,aDV,aDw,hA,aDT,aEO,Nat.reduceAdd]at o1 o2 o3;rw[Vh,Vh,o1,o2];have hl0:(aj (le 8 p.n)++bP fb::bP 0::bP 0::aj (List.replicate 501 0)).length=512:=by simp[ig]
    have xh:(aj (le 8 p.n)++bP fb::bP b1::bP 0::aj (List.replicate 501 0)).length=512:=by simp[ig]
    have Ev:(aj (le 8 p.n)++bP fb::bP b1::bP b2::aj (List.replicate 501 0)).length=512:=by simp[ig]
    refine⟨⟨rfl,rfl,pX⟩,⟨rfl,rfl,pX⟩,⟨adu,⟨adu,adu⟩,adu⟩,adu,?_⟩;simp only[set_set]
    have lu:Sl (St.set s (st.nx+2) (.cells (aj (le 8 p.n)++bP fb::bP b1::bP b2::aj (List.replicate 501 0)) 233 false)) [] v 1 (aj p.data):=by
     exact(h.dz (Y:=[]) rq).mono (hk.set _ (.inr pX) pX)
    obtain⟨s4,c1,c2,c3,c4⟩:=OI (n:=501) (cap:=501) (off:=11) lu (aq _ _ _) AI (by rw[Ev];simp;omega) (bC _);rw[c1,aT]
    have adF:bo (aj (le 8 p.n)++bP fb::bP b1::bP b2::aj (List.replicate 501 0)) 11 (aj p.data)=aj p.bT:=by
     have e0:(aj (List.replicate 501 0)).drop (aj p.data).length=aj (List.replicate (501-p.data.length) 0):=by
      unfold aj;rw[<-aEN,aFA,aEt]
     rw[vX,o3,e0]
    rw[adF]at c3;have Kv:(aj p.bT).length=512:=by simp[Piece.qf p hd]
    have g4:s4.m.g (st.nx+1)=some (.cells (zr 512) 233 false):=by rw[c4 _ pX,al _ _ _ _ pX];exact g2
    have ht:List.take 512 (aj p.bT)=aj p.bT:=aDA pX;have hz5:(zr 512).length=512:=aEo;have kq:bo (zr 512) 0 (aj p.bT)=aj p.bT:=dZ _ _ (by rw[hz5];exact Kv);have hn4:=c2.trans Bd;simp only[nJ,c3,g4,ar,aS,rR,aDX,aDx,ht,aV,Kv,bC,hz5,kq,aq];refine⟨⟨adu,adu⟩,adu,aDt _,⟨adu,adu,aDt _⟩,aDt _,adu,?_⟩;have th:Kp [] st s4:=⟨pX,λq h1 h2=>?_,λhf q hq=>?_⟩
    .exact th.set _ (.inr pX) pX
    .rw[c4 q pX,al _ _ _ _ pX];exact hk.keep q h1 h2
    .rw[c4 q pX,al _ _ _ _ pX];exact hk.fresh hf q pX
 .rw[ba _ _ _ AI,ba _ _ _ rq];exact aw _ _
 .rw[ba _ _ _ rq];exact aw _ _
 .have:(St.new (St.new st (.cells [I p.n,.bool p.last,v] 200 false)) (.cells (zr 512) 233 false)).nx=st.nx+2:=by simp
  rw[<-this];refine(aw _ _).trans ?_;rw[nI];rfl
end
def XG {k n i:Nat}(h:i<k):(le k n)[i]?=some (UInt8.ofNat (n/256^i%256)):=by
 induction k with
 |zero=>omega
 |succ k ih=>
  simp only[le]
  by_cases hi:i<k
  .rw[aET (by rw[ig];exact hi)];exact ih hi
  .have:i=k:=by omega
   subst this;rw[aEF (by rw[ig];exact aDt _),ig,Nat.sub_self];rfl
def HY {p:Piece}{i:Nat}(h:i<8):(aj p.bT)[i]?=some (bP (UInt8.ofNat (p.n/256^i%256))):=by
 unfold Piece.bT aj;rw[aEf,aDY,aDY,aET (by rw[ig];exact h),XG h];rfl
def EY (p:Piece):(aj p.bT)[8]?=some (bP (if p.last=true then 1 else 0)):=by
 unfold Piece.bT aj;rw[aEf,aDY,aDY,aEF (by rw[ig];exact aDt _),ig];rfl
def Oh (p:Piece):(aj p.bT)[9]?=some (bP (UInt8.ofNat (p.data.length%256))):=by
 unfold Piece.bT aj;rw[aEf,aDY,aDY,aEF (by rw[ig];omega),ig];rfl
def Ln (p:Piece):(aj p.bT)[10]?=some (bP (UInt8.ofNat (p.data.length/256%256))):=by
 unfold Piece.bT aj;rw[aEf,aDY,aDY,aEF (by rw[ig];omega),ig];rfl
def EX (p:Piece):((aj p.bT).drop 11).take p.data.length=aj p.data:=by
 have e:aj p.bT=(aj (le 8 p.n)++aj [if p.last=true then 1 else 0,UInt8.ofNat (p.data.length%256),UInt8.ofNat (p.data.length/256%256)])++(aj p.data++aj (List.replicate (501-p.data.length) 0)):=by
  simp only[Piece.bT,bF,aDY]
 have hl:(aj (le 8 p.n)++aj [if p.last=true then (1:UInt8)else 0,UInt8.ofNat (p.data.length%256),UInt8.ofNat (p.data.length/256%256)]).length=11:=by rw[aDw,bJ,bJ,ig];rfl
 rw[e,List.drop_append,aEa pX,hl,Nat.sub_self,aDX,aDV,aFm,aDA rq];simp
def Sw:lE=(Piece.mk 0 false []).bT:=by decide+kernel
def JB (k:Nat)(h:k<9223372036854775808):IntKind.i64.wrap (k:Int)=(k:Int):=bB pX
def UR (a m:Nat)(k:Nat)(h:a<2^k)(hs:a+m*2^k<9223372036854775808):jP .or .i64 (a:Int) ((m*2^k:Nat):Int)=some ((a+m*2^k:Nat):Int):=by
 have e:jP .or .i64 (a:Int) ((m*2^k:Nat):Int)=some (IntKind.i64.wrap ((BitVec.ofInt 64 (a:Int)|||BitVec.ofInt 64 ((m*2^k:Nat):Int)).toNat:Int)):=rfl;rw[e,BitVec.ofInt_natCast,BitVec.ofInt_natCast,BitVec.toNat_or,BitVec.toNat_ofNat,BitVec.toNat_ofNat,aFn pX,aFn pX,Nat.or_comm,aFs m,<-Nat.two_pow_add_eq_or_of_lt h,JB _ (by rw[aFs];omega),aFs,aGg]
def OK (a m k:Nat)(h:a<2^k)(hs:a+m*2^k<9223372036854775808)(d:Option jX)(c:Bool)(st:St):ai .or d c (I a) (I ((m*2^k:Nat):Int)) st=.ok (I ((a+m*2^k:Nat):Int)) st:=by
 have e:ai .or d c (I a) (I ((m*2^k:Nat):Int)) st=(match jP .or .i64 (a:Int) ((m*2^k:Nat):Int)with|some r=>.ok (.int .i64 r) st|none=>.bad):=rfl;rw[e,UR a m k h hs]
def OJ (a m k:Nat)(h:a<2^k)(hs:a+m*2^k<18446744073709551616)(d:Option jX)(c:Bool)(st:St):ai .or d c (.int .u64 a) (.int .u64 ((m*2^k:Nat):Int)) st=.ok (.int .u64 ((a+m*2^k:Nat):Int)) st:=by
 have e:ai .or d c (.int .u64 a) (.int .u64 ((m*2^k:Nat):Int)) st=(match jP .or .u64 (a:Int) ((m*2^k:Nat):Int)with|some r=>.ok (.int .u64 r) st|none=>.bad):=rfl;rw[e,acx a m k h hs]
def LJ (a k:Nat)(hk:k<=64)(hs:a*2^k<18446744073709551616)(d:Option jX)(c:Bool)(st:St):ai .shl d c (.int .u64 a) (I k) st=.ok (.int .u64 ((a*2^k:Nat):Int)) st:=by
 have e:ai .shl d c (.int .u64 a) (I k) st=if (k:Int)<0 then .bad else .ok (.int .u64 (IntKind.u64.wrap ((a:Int)*2^(min (k:Int).toNat 64)))) st:=rfl
 rw[e,aDv pX,aGb,aEi hk];have e2:(a:Int)*2^k=((a*2^k:Nat):Int):=rq
 rw[e2,sN _ hs]
def EL (n:Nat)(h:n<9223372036854775808)(k:IntKind)(st:St):dy (.toInt .i64) (.int k (n:Int)) st=.ok (I n) st:=by
 show OR.ok (.int .i64 (IntKind.i64.wrap n)) st=_;rw[JB n h]
def abQ (n:Nat)(h:n<18446744073709551616)(k:IntKind)(st:St):dy (.toInt .u64) (.int k (n:Int)) st=.ok (.int .u64 n) st:=by
 show OR.ok (.int .u64 (IntKind.u64.wrap n)) st=_;rw[sN n h]
def LK (a b:List UInt8)(n:Nat)(h1:a.length=n)(h2:b.length=n)(c:Bool)(st:St):ai .neq (some (.bytes n)) c (.agg (aj a)) (.agg (aj b)) st=.ok (.bool (!(a==b))) st:=by
 rw[Du];have e:nb (.bytes n) (.agg (aj a)) (.agg (aj b))=(match Hx (aj a),Hx (aj b)with|some a,some b=>bz (decide (a.length=n)&&decide (b.length=n)) (some (a==b)) none|_,_=>none):=rfl;have e1:Hx (aj a)=some a:=CF a;have e2:Hx (aj b)=some b:=CF b;rw[e,e1,e2];simp[h1,h2,aO]
section
variable {st st':St}
def Piece.ok (p:Piece):Prop:=p.n<=4611686018427387904/\p.data.length<=501/\(p.n=0->p.data=[]/\p.last=false)/\(p.n≠0->p.last=false->p.data.length=501)
def aab (p:Piece)(st:St)(x:CV)(st':St):Prop:=∃v,x=.agg [I p.n,.bool p.last,v]/\Made 1 5 (aj p.data) st v st'
def Iu {p:Piece}(hf:eM st)(hp:p.ok):R 152 [.agg (aj p.bT)] st λx st'=>∃y,x=.tuple [y,.bool (decide (p.n≠0))]/\aab p st y st':=by
 obtain⟨Vr,Et,hp3,hp4⟩:=hp;refine bN ?_;rw[ajw];have hlen:=Piece.qf p Et;have si:(aj p.bT).length=512:=by simp[hlen]
 have e9:∀s,fL 512 1 (.ptr st.nx 0) (.int .i64 9) s=.ok (.ptr st.nx 9) s:=λs=>rfl;have Qz:∀s,fL 512 1 (.ptr st.nx 0) (.int .i64 10) s=.ok (.ptr st.nx 10) s:=λs=>rfl
 have f9:∀s,dy (.toInt .i64) (bP (UInt8.ofNat (p.data.length%256))) s=.ok (I ((p.data.length%256:Nat):Int)) s:=λs=>by
  rw[jC _ pX,EL _ pX]
 have f10:∀s,dy (.toInt .i64) (bP (UInt8.ofNat (p.data.length/256%256))) s=.ok (I ((p.data.length/256%256:Nat):Int)) s:=λs=>by
  rw[jC _ pX,EL _ pX]
 have f11:∀s,ai .shl none true (I ((p.data.length/256%256:Nat):Int)) (.int .u64 8) s=.ok (I ((p.data.length/256%256*2^8:Nat):Int)) s:=λs=>by
  have e:ai .shl none true (I ((p.data.length/256%256:Nat):Int)) (.int .u64 8) s=.ok (I (IntKind.i64.wrap (((p.data.length/256%256:Nat):Int)*2^8))) s:=rfl;rw[e,bB pX];simp
 have f12:∀s,ai .or none false (I ((p.data.length%256:Nat):Int)) (I ((p.data.length/256%256*2^8:Nat):Int)) s=.ok (I p.data.length) s:=λs=>by
  rw[OK _ _ _ pX pX];congr 3;omega
 have hx:(CV.agg (aj p.bT)).isAny=false:=rfl;have kW:Kp [] st (St.new (St.new st (.cells (aj p.bT) 233 false)) (.cells [.int .i64 0,.bool false,.ae] 200 false)):=((Kp.refl [] st).new _).new _
 have g1:(St.new (St.new st (.cells (aj p.bT) 233 false)) (.cells [.int .i64 0,.bool false,.ae] 200 false)).m.g st.nx=some (.cells (aj p.bT) 233 false):=by
  rw[ba _ _ _ rq];exact aw _ _
 have g2:(St.new (St.new st (.cells (aj p.bT) 233 false)) (.cells [.int .i64 0,.bool false,.ae] 200 false)).m.g (st.nx+1)=some (.cells [.int .i64 0,.bool false,.ae] 200 false):=aw (St.new st (.cells (aj p.bT) 233 false)) _;simp only[bW,cE,aT,aV];refine⟨rfl,?_⟩;simp only[bA,e9,Qz,af,aC,g1,ar,Oh,Ln,az,f9,f10,f11,f12];refine⟨⟨adu,adu,adu⟩,adu,?_⟩;show db _ _ _;simp only[aH,aI,vQ];refine bK (λm vs s=>∃i,m+i=8/\vs=[.ptr st.nx 0,.ptr (st.nx+1) 0,.int .u64 ((p.n%256^i:Nat):Int),I p.data.length,I i]/\s=(St.new (St.new st (.cells (aj p.bT) 233 false)) (.cells [.int .i64 0,.bool false,.ae] 200 false))) ?_ (n:=8) ⟨0,rfl,by simp[Nat.mod_one],rfl⟩;rintro m vs s k ⟨i,hm,rfl,rfl⟩ next;generalize hS:(St.new (St.new st (.cells (aj p.bT) 233 false)) (.cells [.int .i64 0,.bool false,.ae] 200 false))=S at*;have hSn:S.nx=st.nx+2:=by rw[<-hS];rfl
 by_cases hi:i<8
 .have ff:(i:Int)<8:=by omega
  have a1:ai .lss none true (I i) (.int .i64 8) S=.ok (.bool true) S:=by rw[ay,cY];simp only[ff,aEq]
  have a2:ai .mul none true (.int .i64 8) (I i) S=.ok (I ((8*i:Nat):Int)) S:=Sd
  have a3:ai .add none true (I i) (.int .i64 1) S=.ok (I ((i+1:Nat):Int)) S:=CE
  have a4:dy (.toInt .u64) (bP (UInt8.ofNat (p.n/256^i%256))) S=.ok (.int .u64 ((p.n/256^i%256:Nat):Int)) S:=by rw[jC _ pX,abQ _ pX]
  have Tv:(2:Nat)^(8*i)=256^i:=by rw[Nat.pow_mul]
  have axT:256^i<=256^7:=Nat.pow_le_pow_right pX pX
  have hb:p.n/256^i%256*256^i<=p.n:=by
   have h1:p.n/256^i%256<=p.n/256^i:=Nat.mod_le _ _;exact aEB (aEj _ h1) (Nat.div_mul_le_self _ _)
  have TB:p.n%256^i<256^i:=aFM _ (Nat.pow_pos pX)
  have iZ:p.n%256^i+p.n/256^i%256*256^i=p.n%256^(i+1):=by
   rw[aFY,Nat.mod_mul,aFs (256^i)]
  have a5:ai .shl none false (.int .u64 ((p.n/256^i%256:Nat):Int)) (I ((8*i:Nat):Int)) S=.ok (.int .u64 ((p.n/256^i%256*2^(8*i):Nat):Int)) S:=LJ _ _ pX (by rw[Tv];omega) _ _ _
  have a6:ai .or none false (.int .u64 ((p.n%256^i:Nat):Int)) (.int .u64 ((p.n/256^i%256*2^(8*i):Nat):Int)) S=.ok (.int .u64 ((p.n%256^(i+1):Nat):Int)) S:=by
   rw[OJ _ _ _ (by rw[Tv];exact TB) (by rw[Tv,iZ];have:=Nat.mod_le p.n (256^(i+1));omega),Tv,iZ]
  simp only[aH,aI,a1,af,ag,aDQ,zy (show i<512 from pX),aDx,aEQ,aC,g1,ar,HY hi,az,a4,a2,a5,a6,a3];exact next (m-1) _ _ pX ⟨i+1,pX,rfl,rfl⟩
 .have hi8:i=8:=by omega
  subst hi8;have Tx:p.n%256^8=p.n:=aFn pX;rw[Tx];have a1:∀s,ai .lss none true (I ((8:Nat):Int)) (.int .i64 8) s=.ok (.bool false) s:=λs=>rfl;simp only[aH,aI,a1,af,ag,aDp,aDE]
  by_cases h0:p.n=0
  .obtain⟨d0,l0⟩:=hp3 h0;have b1:∀s,ai .lss none true (.int .u64 ((p.n:Nat):Int)) (.int .u64 1) s=.ok (.bool true) s:=λs=>by rw[h0];rfl
   have Yv:p=⟨0,false,[]⟩:=by cases p;simp_all
   simp only[b1,af,aL,cH,aJ,aDQ,aDJ,aDp,aDE,ag,dw,kY,aF,g2,aS,aV,nJ,aq,ar,rR];refine⟨⟨rfl,rfl,wI⟩,wI,.agg [I p.n,.bool p.last,.ae],?_,.ae,rfl,[],kW.set _ (.inr pX) pX,.inl ⟨rfl,by rw[d0];rfl,rfl⟩,rq⟩;rw[h0,l0];rfl
  .have b1:∀s,ai .lss none true (.int .u64 ((p.n:Nat):Int)) (.int .u64 1) s=.ok (.bool false) s:=λs=>by
    rw[ay,cY,aDr pX]
   have b2:∀s,ai .gtr none true (.int .u64 ((p.n:Nat):Int)) (.int .u64 4611686018427387904) s=.ok (.bool false) s:=λs=>by
    rw[ay,dx,aDr pX]
   have b3:∀s,ai .gtr none true (I p.data.length) (.int .i64 501) s=.ok (.bool false) s:=λs=>by
    rw[ay,dx,aDr pX]
   have b4:∀s,dy (.toInt .i64) (.int .u64 ((p.n:Nat):Int)) s=.ok (I p.n) s:=λs=>EL _ pX _ _;have e8:∀s,fL 512 1 (.ptr st.nx 0) (.int .i64 8) s=.ok (.ptr st.nx 8) s:=λs=>rfl;generalize Zp:St.new (St.skip S) (.cells [.int .i64 0,.bool false,.ae] 200 false)=S3;have afs:S3.nx=st.nx+4:=by rw[<-Zp];simp;omega
   have kV:Kp [] st S3:=by rw[<-Zp];exact kW.skip.new _
   have uk:S3.m.g S.nx=none:=by rw[<-Zp,ba _ _ _ rq];exact kW.fresh hf _ (aDt _)
   have hpc:S3.m.g (st.nx+3)=some (.cells [.int .i64 0,.bool false,.ae] 200 false):=by
    have:st.nx+3=(St.skip S).nx:=AI
    rw[this,<-Zp];exact aw _ _
   have qZ:S3.m.g st.nx=some (.cells (aj p.bT) 233 false):=by rw[<-Zp,ba _ _ _ AI];exact g1
   have Jk:S3.m.g (st.nx+1)=some (.cells [.int .i64 0,.bool false,.ae] 200 false):=by rw[<-Zp,ba _ _ _ AI];exact g2
   have b8:∀s,ai .eql (some .int) true (bP (if p.last=true then 1 else 0)) (.int .u8 1) s=.ok (.bool p.last) s:=λs=>by cases p.last<;>rfl
   have aml:(St.skip S).nx=st.nx+3:=AI
   simp only[b1,af,aL,bp,aJ,aDI,aDp,aDE,ag,b2,b3,b4,e8,aC,qZ,ar,EY,az,b8,hSn,aml];rw[hSn]at uk;have zZ:gf ([]:List tU) (cJ 0 [CV.int .u8 0])=some []:=rfl;rw[jw uk zZ,aT]
   have c1:∀s,ai .add none true (.int .i64 11) (I p.data.length) s=.ok (I ((11+p.data.length:Nat):Int)) s:=λs=>by
    rw[ay,cI,bB pX];rfl
   have c2:∀s,bR 512 1 (.ptr st.nx 0) (some (.int .i64 11)) (some (I ((11+p.data.length:Nat):Int))) s=.ok (.slice st.nx 11 p.data.length 501 0) s:=λs=>by
    have:=qj (n:=512) (b:=st.nx) (l:=11) (h:=11+p.data.length) pX pX pX s;rw[aFb]at this;exact this
   have th:Kp [] st (St.set S3 (st.nx+2) (.cells [] 5 false)):=kV.set _ (.inr pX) pX;have azp:(St.set S3 (st.nx+2) (.cells [] 5 false)).nx=st.nx+4:=afs;have Nd:(St.set S3 (st.nx+2) (.cells [] 5 false)).m.g st.nx=some (.cells (aj p.bT) 233 false):=by rw[al _ _ _ _ pX];exact qZ
   have RP:(St.set S3 (st.nx+2) (.cells [] 5 false)).m.g (st.nx+1)=some (.cells [.int .i64 0,.bool false,.ae] 200 false):=by rw[al _ _ _ _ pX];exact Jk
   have ZF:(St.set S3 (st.nx+2) (.cells [] 5 false)).m.g (st.nx+3)=some (.cells [.int .i64 0,.bool false,.ae] 200 false):=by rw[al _ _ _ _ pX];exact hpc
   have ho4:Own (St.set S3 (st.nx+2) (.cells [] 5 false)) (.slice (st.nx+2) 0 0 0 0) 1 5 [] [st.nx+2]:=.inr (.inl ⟨_,_,_,_,rfl,rfl,rfl,aq _ _ _⟩);generalize St.set S3 (st.nx+2) (.cells [] 5 false)=S4 at*;have lu:Sl S4 [] (.slice st.nx 11 p.data.length 501 0) 1 (aj p.data):=.inr ⟨st.nx,11,p.data.length,501,0,rfl,rq,⟨Et,.inl rfl⟩,.inr ⟨rq,pX,_,_,_,Nd,by rw[si];omega,by rw[aEQ];exact EX p⟩⟩;have c3:=(lu.QO pX p.data.length rq).1
   have c4:cW .slice 1 [(.int .u8 0)] (.slice st.nx 11 p.data.length 501 0) S4=some (p.data.length,aj p.data):=by
    have e:cW .slice 1 [(.int .u8 0)] (.slice st.nx 11 p.data.length 501 0) S4=(match dD 1 p.data.length (.slice st.nx 11 p.data.length 501 0) S4 with|some s=>some (p.data.length,s)|none=>none):=rfl;rw[e,c3]
   obtain⟨v',S7,F',d1,d2,d3,d4⟩:=ho4.append (n:=p.data.length) (bytes:=1) (T:=aj p.data) pX rq (bC _) AI AI;rw[aDV]at d2;obtain⟨o1,o2⟩:=d2.ck
   have nz:∀b∈F',st.nx+2<=b/\b<S7.nx/\b≠st.nx+3:=λb hb=>by
    obtain⟨h1,h2⟩:=d4 b hb;simp at h1;omega
   have o3:=(d2.sl (X:=[]) λb hb=>⟨rq,(nz b hb).2.1⟩).bD.1;have k7:∀b,b<st.nx+4->b≠st.nx+2->S7.m.g b=S4.m.g b:=λb h1 h2=>d3.keep b pX WJ;have hn7:st.nx+4<=S7.nx:=by have:=d3.nx;omega
   have hk7:=th.trans d3 rq;have Ui:=(k7 st.nx pX pX).trans Nd;have g27:=(k7 (st.nx+1) pX pX).trans RP;have g37:=(k7 (st.nx+3) pX pX).trans ZF
   have mR:bu [.int .i64 0,.bool false,.ae] [(0,1,I p.n),(1,1,.bool p.last),(2,1,v')] S7=.ok (.agg [I p.n,.bool p.last,v']) S7:=by
    rw[dw];simp[cq,bo,o2,o3]
   simp only[c1,af,c2,c4,d1,aT,mR,jJ g37,jJ ZF,aF,g37,aS,aV,Nd,Ui,ar,EY,az];have kq:bo [.int .i64 0,.bool false,.ae] 0 [I p.n,.bool p.last,v']=[I p.n,.bool p.last,v']:=dZ _ _ rfl;rw[kq];refine⟨⟨rfl,aap,wI⟩,⟨⟨adu,adu,adu⟩,⟨adu,adu,adu⟩,adu⟩,⟨adu,adu⟩,?_⟩;have RH:Kp [] st (St.set S7 (st.nx+3) (.cells [I p.n,.bool p.last,v'] 200 false)):=hk7.set _ (.inr pX) pX;have V9:(St.set S7 (st.nx+3) (.cells [I p.n,.bool p.last,v'] 200 false)).m.g st.nx=some (.cells (aj p.bT) 233 false):=by rw[al _ _ _ _ pX];exact Ui
   have g29:(St.set S7 (st.nx+3) (.cells [I p.n,.bool p.last,v'] 200 false)).m.g (st.nx+1)=some (.cells [.int .i64 0,.bool false,.ae] 200 false):=by rw[al _ _ _ _ pX];exact g27
   have g39:(St.set S7 (st.nx+3) (.cells [I p.n,.bool p.last,v'] 200 false)).m.g (st.nx+3)=some (.cells [I p.n,.bool p.last,v'] 200 false):=aq _ _ _;have d9:Own (St.set S7 (st.nx+3) (.cells [I p.n,.bool p.last,v'] 200 false)) v' 1 5 (aj p.data) F':=d2.mono λb hb=>al _ _ _ _ (nz b hb).2.2;have hn9:(St.set S7 (st.nx+3) (.cells [I p.n,.bool p.last,v'] 200 false)).nx=S7.nx:=rfl;generalize St.set S7 (st.nx+3) (.cells [I p.n,.bool p.last,v'] 200 false)=S9 at*;have Me:∀s:St,s.m.g (st.nx+3)=some (.cells [I p.n,.bool p.last,v'] 200 false)->aK 3 (.ptr (st.nx+3) 0) s=.ok (.agg [I p.n,.bool p.last,v']) s:=λs hs=>aR hs rfl;have Gs:∀s:St,s.m.g st.nx=some (.cells (aj p.bT) 233 false)->aK 512 (.ptr st.nx 0) s=.ok (.agg (aj p.bT)) s:=λs hs=>aR hs si;rw[Me S9 g39,af];refine(By (p:=p) (d9.sl (X:=[]) λb hb=>⟨rq,by have:=(nz b hb).2.1;omega⟩) Et pX).mono ?_;rintro x Ng ⟨rfl,oY⟩;have ZK:=(oY.keep st.nx pX rq).trans V9;have ZI:=(oY.keep (st.nx+1) pX rq).trans g29;have Jj:=(oY.keep (st.nx+3) pX rq).trans g39
   have q1:ai .neq (some (.bytes 512)) false (.agg (aj p.bT)) (.agg (aj p.bT)) Ng=.ok (.bool false) Ng:=by
    rw[LK _ _ _ hlen hlen];simp
   have q2:ai .neq (some .int) true (I p.data.length) (.int .i64 501) Ng=.ok (.bool (!decide (p.data.length=501))) Ng:=by
    rw[ay,fq];congr 3;simp only[aDU];omega
   simp only[Gs Ng ZK,Gs S9 V9,af,q1,aL,bp,aDI,aDp,aDQ,aDE,ah,aC,Jj,ar,aDx,aDq,aDo,az,cN];have q3:(!p.last)=true->p.data.length=501:=λh=>hp4 h0 R5
   have q4:us (aX (some !p.last) Ng (.ok (I p.data.length) Ng)) λpV=>us (aX (some !p.last) Ng (ai .neq (some .int) true pV (.int .i64 501) Ng)) λvg=>us (bf (.bool !p.last) vg (.bool false) Ng) λre=>re=.bool false:=by
    cases hl:p.last with
    |true=>simp
    |false=>
     have:=q3 (by rw[hl];rfl);simp only[aDI,bp,af,q2,aJ,aDQ];rw[this];rfl
   refine lC q4 λ_ h1=>lC h1 λ_ h2=>lC h2 λ_ h3=>?_;subst h3;simp only[aJ,aDp,aDE,af,ag,Me Ng Jj,ZI,aS,aV,kq];refine⟨⟨adu,⟨adu,adu⟩,adu,adu⟩,adu,⟨rfl,aap,wI⟩,?_⟩;rw[aR (n:=3) (aq Ng (st.nx+1) (.cells [I p.n,.bool p.last,v'] 200 false)) rfl,af];have aev:=RH.trans oY rq;have ayh:=oY.nx;refine⟨.agg [I p.n,.bool p.last,v'],by rw[aDz h0],v',rfl,F',aev.set _ (.inr pX) pX,d9.mono λb hb=>?_,λb hb=>⟨by have:=(nz b hb).1;omega,by have:=(nz b hb).2.1;simp;omega⟩⟩;obtain⟨h1,h2,h3⟩:=nz b hb;rw[al _ _ _ _ pX];exact oY.keep b pX rq
end
section
variable {r a n:Nat}{F:List Nat}{D:aP}
section
variable {st st':St}
structure RingM where
 first:Nat
 count:Nat
 base:Nat
 last:Nat
 top:Nat
def fI (st:St)(r a:Nat)(m:RingM):Prop:=r<st.nx/\st.m.g r=some (.cells [.ptr a 0,I m.first,I m.count,I m.base,I m.last,I m.top] 198 false)
def fI.keep {m:RingM}{X:List Nat}(h:fI st r a m)(hk:Kp X st st')(hx:r∉X):fI st' r a m:=⟨aDM h.1 hk.nx,by rw[hk.keep r h.1 hx];exact h.2⟩
def RingM.place (m:RingM)(n:Nat):Nat:=m.first+n%m.count
def zo {m:RingM}(h:fI st r a m)(h0:0<m.count)(hs:m.first+m.count<=1000000)(hn:n<=9000000000000000000):R 153 [.ptr r 0,I n] st λv st'=>v=I (m.place n)/\st'=st:=by
 obtain⟨h1,h2⟩:=h;refine bN ?_;rw[ajv];have e1:¬((m.count:Int)=0):=pX
 have e2:IntKind.i64.wrap ((m.first:Int)+Int.tmod n m.count)=((m.place n:Nat):Int):=by
  have hm:n%m.count<m.count:=aFM _ h0;have:Int.tmod (n:Int) m.count=((n%m.count:Nat):Int):=by rw[Int.tmod_eq_emod_of_nonneg pX];rfl
  rw[this];unfold RingM.place;rw[bB pX];omega
 have e3:¬m.count=0:=pX
 simp[h2,e2,e3]
def wQ {m:RingM}(h:fI st r a m)(hd:cG st a F D):R 171 [.ptr r 0] st λv st'=>v=I (if D.dead=true then 20 else 0)/\st'=st:=by
 obtain⟨h1,h2⟩:=h;refine bN ?_;rw[ajk];simp[eW,h2];refine(wi hd).same ?_;cases D.dead<;>simp
def CI {m:RingM}(h:fI st r a m):R 173 [.ptr r 0] st λv st'=>v=.bool (decide (m.last<m.top))/\st'=st:=by
 obtain⟨h1,h2⟩:=h;refine bN ?_;rw[aji];simp[h2]
def NH {m:RingM}(h:fI st r a m):R 74 [.ptr r 0] st λv st'=>v=I m.top/\st'=st:=by
 obtain⟨h1,h2⟩:=h;refine bN ?_;rw[w74];simp[eW,h2]
def RingM.room (m:RingM):Int:=if m.last<m.top then 0 else (m.count:Int)-((m.last:Int)-m.base)
def JL {m:RingM}(h:fI st r a m)(h1:m.count<=1000000)(h2:m.base<=4611686018427387904)(h3:m.last<=4611686018427387904):R 174 [.ptr r 0] st λv st'=>v=I m.room/\st'=st:=by
 have h':=h;obtain⟨g1,g2⟩:=h;refine bN ?_;rw[ajh];simp;refine(CI h').same ?_
 by_cases ht:m.last<m.top
 .simp[ht,RingM.room]
 .have e1:IntKind.i64.wrap ((m.last:Int)-m.base)=(m.last:Int)-m.base:=bB pX;have e2:IntKind.i64.wrap ((m.count:Int)-((m.last:Int)-m.base))=(m.count:Int)-((m.last:Int)-m.base):=bB pX;simp[ht,g2,RingM.room,e1,e2]
def aY (n:Nat):Nat:=if n=0 then 1 else (n-1)/501+1
def BF (hn:n<=1000000000):R 172 [I n] st λv st'=>v=I (aY n)/\st'=st:=by
 refine bN ?_;rw[ajj];have e0:¬(n:Int)<0:=pX
 by_cases h0:n=0
 .simp[h0,aY]
 .have e1:IntKind.i64.wrap ((n:Int)-1)=((n-1:Nat):Int):=by rw[bB pX];omega
  have e2:IntKind.i64.wrap (Int.tdiv ((n-1:Nat):Int) 501)=(((n-1)/501:Nat):Int):=by
   have:Int.tdiv ((n-1:Nat):Int) 501=(((n-1)/501:Nat):Int):=rfl;rw[this,bB pX]
  have e3:IntKind.i64.wrap ((((n-1)/501:Nat):Int)+1)=((aY n:Nat):Int):=by
   rw[bB pX];unfold aY;rw[aDv h0];omega
  have e4:¬(n:Int)=0:=pX
  simp only[ay,cY,cz,dX,OH,cI,af,ag,e0,e4,aEY,aDp,aDE,e1,WY,e2,e3];simp
def Sr {m:RingM}(h:fI st r a m)(hd:cG st a F D)(hw:D.waits.length<=1000000000):R 132 [.ptr r 0] st λv st'=>v=I (if D.flush.1=0 then 0 else 20)/\pk a F st D.flush.2 st':=by
 have h':=h;obtain⟨h1,h2⟩:=h;refine bN ?_;rw[ajN];refine(wQ h' hd).same ?_
 by_cases nZ:D.dead=true
 .have e:D.flush=(20,D):=by simp[aP.flush,nZ]
  simp[nZ,e];exact⟨Kp.refl _ _,F,hd,adt⟩
 .simp[nZ,eW,h2];refine(wc hd hw).mono ?_;rintro _ s ⟨rfl,ht⟩
  by_cases h0:D.flush.1=0<;>simp[h0,ht]
def pk.refl (hd:cG st a F D):pk a F st D st:=⟨Kp.refl _ _,F,hd,adt⟩
def E5 {m:RingM}{p:Piece}{at_:Nat}(hf:eM st)(h:fI st r a m)(hd:cG st a F D)(hr:r∉F)(nZ:D.dead=false)(h0:0<m.count)(hs:m.first+m.count<=1000000)
 (mM:at_<D.ao.length) (hp:p.ok) (hc:D.cur at_=p.bT):R 114 [.ptr r 0,I at_] st λx st'=>∃y,x=.tuple [y,.bool (decide (p.n≠0/\m.place p.n=at_)),I 0]/\aab p st y st':=by
 have h':=h;obtain⟨h1,h2⟩:=h;refine bN ?_;rw[aka];have nt:Kp [] st (St.new st (.cells [.int .i64 0,.bool false,.ae] 200 false)):=(Kp.refl [] st).new _;have g1:(St.new st (.cells [.int .i64 0,.bool false,.ae] 200 false)).m.g st.nx=some (.cells [.int .i64 0,.bool false,.ae] 200 false):=aw _ _;have g2:=(nt.keep r h1 rq).trans h2;have Na:=hd.keep nt rq;have Cc:(St.new st (.cells [.int .i64 0,.bool false,.ae] 200 false)).nx=st.nx+1:=rfl;simp only[cE,aT];generalize St.new st (.cells [.int .i64 0,.bool false,.ae] 200 false)=S1 at*;simp[eW,g2];refine(yv Na at_).mono ?_;intro x S2 hx
 have er:D.read at_=(0,p.bT):=by
  simp[aP.read,nZ,hc,Int.not_le.mpr (show(at_:Int)<D.ao.length by omega)]
 rw[er,aDy rfl]at hx;obtain⟨kW,hl,b,rfl,g3,b1,b2⟩:=hx;have azq:=kW.nx;have HC:oJ 512 (.slice b 0 512 512 1) S2=.ok (.ptr b 0) S2:=rfl;have M7:(aj p.bT).length=512:=by simp[hl]
 simp only[aD,aG,af,ay,fq,aEq,aDJ,ag,aDp,aDE,HC,aR g3 M7];refine(Iu (kW.fresh (nt.fresh hf)) hp).mono ?_;rintro _ S3 ⟨_,rfl,v,rfl,Fv,kV,ho,Mj⟩;have I7:=(nt.trans kW rq).trans kV rq
 have qZ:S3.m.g st.nx=some (.cells [.int .i64 0,.bool false,.ae] 200 false):=by
  rw[kV.keep _ pX rq,kW.keep _ pX rq];exact g1
 have afs:=kV.nx;obtain⟨o1,o2⟩:=ho.ck;have kq:bo [.int .i64 0,.bool false,.ae] 0 [I p.n,.bool p.last,v]=[I p.n,.bool p.last,v]:=dZ _ _ rfl;have ko:bo [I p.n,.bool p.last,v] 0 [I p.n,.bool p.last,v]=[I p.n,.bool p.last,v]:=dZ _ _ rfl;simp only[aD,aG,af,qZ,aS,aV,kq];refine⟨⟨rfl,aap,wI⟩,?_⟩;have th:Kp [] st (St.set S3 st.nx (.cells [I p.n,.bool p.last,v] 200 false)):=I7.set _ (.inr (aDt _)) pX;have g4:(St.set S3 st.nx (.cells [I p.n,.bool p.last,v] 200 false)).m.g st.nx=some (.cells [I p.n,.bool p.last,v] 200 false):=aq _ _ _;have ho4:Own (St.set S3 st.nx (.cells [I p.n,.bool p.last,v] 200 false)) v 1 5 (aj p.data) Fv:=ho.mono λq hq=>al _ _ _ _ abB;have hn4:(St.set S3 st.nx (.cells [I p.n,.bool p.last,v] 200 false)).nx=S3.nx:=rfl;have hr4:=h'.keep th rq;generalize St.set S3 st.nx (.cells [I p.n,.bool p.last,v] 200 false)=S4 at*;refine⟨rq,?_⟩;have ht3:List.take 3 [I p.n,CV.bool p.last,v]=[I p.n,.bool p.last,v]:=rfl
 have fin:∀bb:Bool,bb=(!decide (p.n=0)&&decide (m.place p.n=at_))->aab p st (.agg [I p.n,.bool p.last,v]) (St.set S4 st.nx (.cells [I p.n,.bool p.last,v] 200 false)):=λbb _=>
  ⟨v,rfl,Fv,th.set _ (.inr (aDt _)) pX,ho4.mono λq hq=>al _ _ _ _ abB,λq hq=>⟨abB,by have:=(Mj q hq).2;simp;omega⟩⟩
 by_cases hp0:p.n=0
 .simp[hp0,g4,o1];have DM:bo [I 0,CV.bool p.last,v] 0 [I 0,CV.bool p.last,v]=[I 0,CV.bool p.last,v]:=dZ _ _ rfl;rw[DM];have:=fin _ rfl;rw[hp0]at this;exact this
 .simp only[hp0,ne_eq,not_false_eq_true,aEq,aL,aDQ,bp,af,aC,g4,ar,aDo,az,eE];have Vr:=hp.1;refine(zo hr4 h0 hs (n:=p.n) pX).same ?_;simp[g4,o1,ko];exact⟨_,⟨rfl,pX⟩,fin _ rfl⟩
end
end
section
variable {f:CV}{c q r n a:Nat}{m:RingM}{D:aP}{P:Nat->Piece}
section
variable {st st':St}
structure sJ (D:aP)(m:RingM)(P:Nat->Piece):Prop where
 pos:0<m.count
 fits:m.first+m.count<=D.ao.length
 iv:D.ao.length<=65536
 base:m.base<=4611686018427387904
 cur:∀j,j<m.count->D.cur (m.first+j)=(P j).bT/\(P j).ok
def qJ (st:St)(f:CV)(c q r n:Nat):Prop:=f=.func (.func 191) [] [.ptr c 0,.ptr q 0]/\c<st.nx/\q<st.nx/\c≠q/\st.m.g c=some (.cells [I n] 3 false)/\st.m.g q=some (.cells [.ptr r 0] 146 false)
def qJ.keep {X:List Nat}(h:qJ st f c q r n)(hk:Kp X st st')(h1:c∉X)(h2:q∉X):qJ st' f c q r n:=by
 obtain⟨g1,g2,g3,g4,g5,g6⟩:=h;exact⟨g1,aDM g2 hk.nx,aDM g3 hk.nx,g4,by rw[hk.keep c g2 h1];exact g5,by rw[hk.keep q g3 h2];exact g6⟩
def It (h:fI st r a m):R 154 [.ptr r 0] st λf st'=>Kp [] st st'/\∃c q,qJ st' f c q r m.base/\st.nx<=c/\st.nx<=q:=by
 obtain⟨h1,h2⟩:=h;refine bN ?_;rw[aju];have g2:(St.new st (.cells [.ptr r 0] 146 false)).m.g r=st.m.g r:=ba _ _ _ h1;have amn:CV.cA (.ptr r 0)=[.ptr r 0]:=rfl;have Zo:CV.isAny (.ptr r 0)=false:=rfl;simp only[bW,amn,Zo,aC,aw,ar,aDo,az,eW,br,ah,af,g2,h2,aDx,aDq,cE,aT,aF,aS,mB];have kq:bo [.int .i64 0] 0 [I m.base]=[I m.base]:=dZ _ _ rfl;refine⟨adu,⟨rfl,rfl,wI⟩,?_,(St.new st (.cells [.ptr r 0] 146 false)).nx,st.nx,⟨rfl,?_,?_,?_,?_,?_⟩,?_,aDt _⟩
 .exact(((Kp.refl [] st).new _).new _).set _ (.inr rq) rq
 .simp
 .simp;omega
 .simp
 .rw[aq];exact congrArg some (congrArg (λl=>qN.cells l 3 false) kq)
 .rw[al _ _ _ _ rq,ba _ _ _ rq];exact aw _ _
 .simp
def RingM.is (m:RingM)(P:Nat->Piece)(n:Nat):Prop:=(P (n%m.count)).n=n
instance (m:RingM) (P:Nat->Piece) (n:Nat):Decidable (m.is P n):=by unfold RingM.is;infer_instance
def OS (h:fI st r a m)(hp:sJ D m P)(hn:qJ st f c q r n)(he:n=m.base+m.count):fG R f [] st λx st'=>x=.tuple [.agg [.int .i64 0,.bool false,.ae],.bool false,I 0]/\Kp [] st st':=by
 obtain⟨h1,h2⟩:=h;obtain⟨rfl,g2,g3,g4,g5,g6⟩:=hn;rw[dM];refine bN ?_;simp only[aDV];rw[abD];have k1:∀b,b<st.nx->(St.new st (.cells [.int .i64 0,.bool false,.ae] 200 false)).m.g b=st.m.g b:=λb hb=>ba _ _ _ hb;have e1:IntKind.i64.wrap ((n:Int)-m.base)=(m.count:Int):=by have:=hp.base;have:=hp.fits;have:=hp.iv;rw[bB pX];omega
 simp only[cE,aT,bA,aC,k1 c g2,g5,k1 q g3,g6,ar,aDo,az,br,ah,af,k1 r h1,h2,aDx,aDq,ay,dX,e1,cz,aEq,ag,aDQ,dw,kY,aF,aw,aS,aV];have kq:bo [.int .i64 0,.bool false,.ae] 0 [.int .i64 0,.bool false,.ae]=[.int .i64 0,.bool false,.ae]:=dZ _ _ rfl;refine⟨⟨adu,adu,adu,adu,adu,adu⟩,adu,⟨rfl,rfl,wI⟩,?_⟩;rw[aR (n:=3) (aq _ _ _) rfl,af,kq];exact⟨rfl,((Kp.refl [] st).new _).set _ (.inr (aDt _)) rq⟩
def Wk (p:Piece)(X:List Nat)(st:St)(y:CV)(st':St):Prop:=∃v Fv,y=.agg [I p.n,.bool p.last,v]/\Kp X st st'/\Own st' v 1 5 (aj p.data) Fv/\∀b∈Fv,st.nx<=b/\b<st'.nx
def S8 {F:List Nat}(hf:eM st)(h:fI st r a m)(hd:cG st a F D)(hr:r∉F)(nZ:D.dead=false)(hp:sJ D m P)(hn:qJ st f c q r n)(he:n≠m.base+m.count)(hb:m.base<=n)(hl:n<m.base+m.count)(hrc:r≠c)(hrq:r≠q)(hcF:c∉F):
 fG R f [] st λx st'=>∃y,x=.tuple [y,.bool (decide (m.is P (n+1))),I 0]/\Wk (P ((n+1)%m.count)) [c] st y st'/\qJ st' f c q r (n+1):=by
 have h':=h;obtain⟨h1,h2⟩:=h;have hn':=hn;obtain⟨rfl,g2,g3,g4,g5,g6⟩:=hn;rw[dM];refine bN ?_;simp only[aDV];rw[abD];have k1:∀b,b<st.nx->(St.new st (.cells [.int .i64 0,.bool false,.ae] 200 false)).m.g b=st.m.g b:=λb hb=>ba _ _ _ hb;have q1:=hp.base;have q2:=hp.fits;have q3:=hp.iv;have e1:IntKind.i64.wrap ((n:Int)-m.base)=(n:Int)-m.base:=bB pX;have e2:¬((n:Int)-m.base=m.count):=pX
 have e3:IntKind.i64.wrap ((n:Int)+1)=((n+1:Nat):Int):=by rw[bB pX];rfl
 simp only[cE,aT,bA,aC,k1 c g2,g5,k1 q g3,g6,ar,aDo,az,br,ah,af,k1 r h1,h2,aDx,aDq,ay,dX,e1,cz,e2,aEY,ag,aDp,aDE,cI,e3,aF,aS];refine⟨⟨adu,adu,adu,adu,adu,adu⟩,adu,⟨rfl,rfl,rq⟩,?_⟩;have kq:bo [I n] 0 (CV.cA (I ((n+1:Nat):Int)))=[I ((n+1:Nat):Int)]:=dZ _ _ rfl;have adM:bo [I n] 0 (CV.cA (.int .i64 ((n+1:Nat):Int)))=[I ((n+1:Nat):Int)]:=kq;rw[adM];have hn3:(St.set (St.new st (.cells [.int .i64 0,.bool false,.ae] 200 false)) c (.cells [I ((n+1:Nat):Int)] 3 false)).nx=st.nx+1:=rfl;have th:Kp [c] st (St.new (St.set (St.new st (.cells [.int .i64 0,.bool false,.ae] 200 false)) c (.cells [I ((n+1:Nat):Int)] 3 false)) (.cells [.int .i64 0,.bool false,.ae] 200 false)):=(((Kp.refl _ st).new _).set _ (.inl rq) AI).new _
 have c4:(St.new (St.set (St.new st (.cells [.int .i64 0,.bool false,.ae] 200 false)) c (.cells [I ((n+1:Nat):Int)] 3 false)) (.cells [.int .i64 0,.bool false,.ae] 200 false)).m.g c=some (.cells [I ((n+1:Nat):Int)] 3 false):=by
  rw[ba _ _ _ AI,aq]
 have x4:(St.new (St.set (St.new st (.cells [.int .i64 0,.bool false,.ae] 200 false)) c (.cells [I ((n+1:Nat):Int)] 3 false)) (.cells [.int .i64 0,.bool false,.ae] 200 false)).m.g st.nx=some (.cells [.int .i64 0,.bool false,.ae] 200 false):=by
  rw[ba _ _ _ rq,al _ _ _ _ pX];exact aw _ _
 have y4:(St.new (St.set (St.new st (.cells [.int .i64 0,.bool false,.ae] 200 false)) c (.cells [I ((n+1:Nat):Int)] 3 false)) (.cells [.int .i64 0,.bool false,.ae] 200 false)).m.g (st.nx+1)=some (.cells [.int .i64 0,.bool false,.ae] 200 false):=by
  have:=aw (St.set (St.new st (.cells [.int .i64 0,.bool false,.ae] 200 false)) c (.cells [I ((n+1:Nat):Int)] 3 false)) (.cells [.int .i64 0,.bool false,.ae] 200 false);exact this
 have hn4:(St.new (St.set (St.new st (.cells [.int .i64 0,.bool false,.ae] 200 false)) c (.cells [I ((n+1:Nat):Int)] 3 false)) (.cells [.int .i64 0,.bool false,.ae] 200 false)).nx=st.nx+2:=rfl;rw[hn3];generalize St.new (St.set (St.new st (.cells [.int .i64 0,.bool false,.ae] 200 false)) c (.cells [I ((n+1:Nat):Int)] 3 false)) (.cells [.int .i64 0,.bool false,.ae] 200 false)=S4 at*;have q4:=(th.keep q g3 (by simp;exact aEr g4)).trans g6;have r4:=h'.keep th (by simpa using hrc);have d4:=hd.keep th (λb hb=>by simp;exact λe=>hcF (e▸hb));have IZ:m.place (n+1)=m.first+(n+1)%m.count:=rfl;have TB:(n+1)%m.count<m.count:=aFM _ hp.pos;obtain⟨u1,u2⟩:=hp.cur _ TB;simp only[q4,c4,ar,aDo,az];refine(zo r4 hp.pos pX (n:=n+1) pX).same ?_;refine(E5 (th.fresh hf) r4 d4 hr nZ hp.pos pX (at_:=m.place (n+1)) pX u2 u1).mono ?_;rintro _ S5 ⟨_,rfl,v,rfl,Fv,Gv,ho,Mj⟩;have hn5:=Gv.nx;have c5:=(Gv.keep c pX rq).trans c4;have q5:=(Gv.keep q pX rq).trans q4;have x5:=(Gv.keep st.nx pX rq).trans x4;have y5:=(Gv.keep (st.nx+1) pX rq).trans y4;obtain⟨o1,o2⟩:=ho.ck;generalize hP:P ((n+1)%m.count)=p at*;have ko:bo [.int .i64 0,.bool false,.ae] 0 [I p.n,.bool p.last,v]=[I p.n,.bool p.last,v]:=dZ _ _ rfl;simp only[aD,aG,af,jJ y5,jJ y4,aT,aF,y5,aS,aV,ko,q4,ar,aDo,az];refine⟨⟨rfl,aap,wI⟩,⟨⟨adu,adu⟩,adu,adu,⟨adu,adu,adu⟩,adu⟩,adu,?_⟩;have DS:Kp [c] st (St.set S5 (st.nx+1) (.cells [I p.n,.bool p.last,v] 200 false)):=(th.trans Gv rq).set _ (.inr pX) pX;have c6:(St.set S5 (st.nx+1) (.cells [I p.n,.bool p.last,v] 200 false)).m.g c=some (.cells [I ((n+1:Nat):Int)] 3 false):=by rw[al _ _ _ _ pX];exact c5
 have q6:(St.set S5 (st.nx+1) (.cells [I p.n,.bool p.last,v] 200 false)).m.g q=some (.cells [.ptr r 0] 146 false):=by rw[al _ _ _ _ pX];exact q5
 have x6:(St.set S5 (st.nx+1) (.cells [I p.n,.bool p.last,v] 200 false)).m.g st.nx=some (.cells [.int .i64 0,.bool false,.ae] 200 false):=by rw[al _ _ _ _ pX];exact x5
 have y6:(St.set S5 (st.nx+1) (.cells [I p.n,.bool p.last,v] 200 false)).m.g (st.nx+1)=some (.cells [I p.n,.bool p.last,v] 200 false):=aq _ _ _;have o6:Own (St.set S5 (st.nx+1) (.cells [I p.n,.bool p.last,v] 200 false)) v 1 5 (aj p.data) Fv:=ho.mono λb hb=>al _ _ _ _ abC;have hn6:(St.set S5 (st.nx+1) (.cells [I p.n,.bool p.last,v] 200 false)).nx=S5.nx:=rfl;generalize St.set S5 (st.nx+1) (.cells [I p.n,.bool p.last,v] 200 false)=S6 at*;have his:∀bb:Bool,True:=λ_=>trivial
 have Mf:decide (m.is P (n+1))=(decide (p.n≠0/\m.place p.n=m.place (n+1))&&decide (p.n=n+1)):=by
  have anO:m.is P (n+1)↔p.n=n+1:=by unfold RingM.is;rw[hP]
  rw[show decide (m.is P (n+1))=decide (p.n=n+1)from decide_eq_decide.2 anO]
  by_cases e:p.n=n+1
  .simp[e]
  .simp[e]
 have fin:∀S7:St,S7=St.set S6 st.nx (.cells [I p.n,.bool p.last,v] 200 false)->Wk p [c] st (.agg [I p.n,.bool p.last,v]) S7/\qJ S7 (.func (.func 191) [] [.ptr c 0,.ptr q 0]) c q r (n+1):=by
  rintro _ rfl;refine⟨⟨v,Fv,rfl,DS.set _ (.inr (aDt _)) pX,o6.mono λb hb=>al _ _ _ _ abC,λb hb=>⟨abC,by have:=(Mj b hb).2;simp;omega⟩⟩,rfl,AI,AI,g4,?_,?_⟩
  .rw[al _ _ _ _ pX];exact c6
  .rw[al _ _ _ _ pX];exact q6
 rw[aR (n:=3) y6 rfl,af]
 by_cases KB:p.n≠0/\m.place p.n=m.place (n+1)
 .rw[aDz KB]at Mf⊢
  have qe:ai .eql (some .int) false (I p.n) (I ((n+1:Nat):Int)) S6=.ok (.bool (decide (p.n=n+1))) S6:=by
   rw[ay,cz];congr 2;simp only[aDU];omega
  simp only[aL,aDQ,bp,ah,af,aC,y6,c6,ar,aDx,aDo,az,qe,aJ,x6,aS,aV,ko];rw[Bool.true_and]at Mf;have y7:(St.set S6 st.nx (.cells [I p.n,.bool p.last,v] 200 false)).m.g (st.nx+1)=some (.cells [I p.n,.bool p.last,v] 200 false):=by rw[al _ _ _ _ pX];exact y6
  have c7:(St.set S6 st.nx (.cells [I p.n,.bool p.last,v] 200 false)).m.g c=some (.cells [I ((n+1:Nat):Int)] 3 false):=by rw[al _ _ _ _ pX];exact c6
  have x7:(St.set S6 st.nx (.cells [I p.n,.bool p.last,v] 200 false)).m.g st.nx=some (.cells [I p.n,.bool p.last,v] 200 false):=aq _ _ _;obtain⟨f1,f2⟩:=fin _ rfl;simp only[y7,c7,ar,aDo,az];rw[aR (n:=3) x7 rfl,af,Mf];exact⟨⟨rfl,aap,wI⟩,⟨adu,⟨adu,adu⟩,⟨adu,adu⟩,adu⟩,adu,_,rfl,f1,f2⟩
 .rw[aDr KB]at Mf⊢;simp only[aL,aDQ,cH,aDp,aDE,af,aJ,x6,aS,aV,ko];rw[Bool.false_and]at Mf;have x7:(St.set S6 st.nx (.cells [I p.n,.bool p.last,v] 200 false)).m.g st.nx=some (.cells [I p.n,.bool p.last,v] 200 false):=aq _ _ _;obtain⟨f1,f2⟩:=fin _ rfl;rw[aR (n:=3) x7 rfl,af,Mf];exact⟨⟨rfl,aap,wI⟩,⟨adu,⟨adu,adu⟩,⟨adu,adu⟩,adu⟩,adu,_,rfl,f1,f2⟩
end
end
