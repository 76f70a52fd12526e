import Derived.Test.YtomffjeofpafnaaGreatDoorDisk
namespace Lim
open Go
noncomputable section
set_option linter.defProp false
set_option maxRecDepth 100000
def le:Nat->Nat->List UInt8
 |0,_=>[]
 |k+1,n=>le k n++[UInt8.ofNat (n/256^k%256)]
def iz (k n:Nat):(le k n).length=k:=by induction k with|zero=>rfl|succ k ih=>simp[le,ih]
structure Piece where
 n:Nat
 last:Bool
 data:List UInt8
def Piece.cC (p:Piece):jU:=le 8 p.n++[if p.last=true then 1 else 0,UInt8.ofNat (p.data.length%256),UInt8.ofNat (p.data.length/256%256)]++p.data++List.replicate (501-p.data.length) 0
def Piece.qK (p:Piece)(h:p.data.length<=501):p.cC.length=512:=by
 simp only[Piece.cC,aEU,iz,aFp,aGu,aFI];omega
def Ah {n size b o j:Nat}(h:j<n)(st:St):fV n size (.ptr b o) (I j) st=.ok (.ptr b (o+j*size)) st:=by
 have e:fV n size (.ptr b o) (I j) st=bH (Nat.ble (Nat.succ j) n) (oJ (Nat.add o (Nat.mul j size)) λo=>.ok (.ptr b o) st) .bad:=rfl;rw[e,aP,aEW abG];rfl
def DK (n i:Nat)(hi:i<8)(d:Option kj)(c:Bool)(st:St):ai .shr d c (I n) (I ((8*i:Nat):Int)) st=.ok (I ((n/256^i:Nat):Int)) st:=by
 have e:ai .shr d c (I n) (I ((8*i:Nat):Int)) st=if ((8*i:Nat):Int)<0 then .bad else .ok (I ((n:Int).fdiv (2^(min ((8*i:Nat):Int).toNat 64)))) st:=rfl
 rw[e,aET qE,aHy,aFG qE,Int.fdiv_eq_ediv_of_nonneg _ (Int.le_of_lt (Int.pow_pos qE))]
 congr 2
 have:(2:Nat)^(8*i)=256^i:=by rw[Nat.pow_mul]
 rw[<-this];simp
def Mw (n:Nat)(k:IntKind)(st:St):cW (.toInt .u8) (.int k (n:Int)) st=.ok (bQ (UInt8.ofNat (n%256))) st:=by
 rw[jS _ qE];show OR.ok (.int .u8 (IntKind.u8.wrap n)) st=_;rw[Pd]
def wu (A B:List CV)(x y:CV):bD (A++x::B) A.length [y]=A++y::B:=by
 unfold bD;simp
def qa (P Z T:List CV):bD (P++Z) P.length T=P++(T++Z.drop T.length):=by
 unfold bD;simp[List.drop_append]
def nO (n:Nat):zr n=aj (List.replicate n 0):=by unfold zr aj;rw[List.map_replicate];rfl
section
variable {st st':St}
def Cq {X:List Nat}{v:CV}{p:Piece}(h:Sl st X v 1 (aj p.data))(hd:p.data.length<=501)(hn:p.n<9223372036854775808):R 175 [.agg [I p.n,.bool p.last,v]] st λx st'=>x=.agg (aj p.cC)/\Kp [] st st':=by
 refine bP ?_;rw[akg];have hv:=h.bE;simp only[bV,cH,aS];refine⟨rfl,?_⟩;show cZ _ _ _;simp only[aL,aM];have jN:Kp [] st (St.new (St.new (St.new st (.cells [I p.n,.bool p.last,v] 200 false)) (.cells (zr 512) 233 false)) (.cells (zr 512) 233 false)):=(((Kp.refl [] st).new _).new _).new _
 refine bN (λm vs s=>∃i,m+i=8/\vs=[.ptr st.nx 0,.ptr (st.nx+1) 0,.ptr (st.nx+2) 0,I i]/\Kp [] st s/\s.nx=st.nx+3/\s.m.g st.nx=some (.cells [I p.n,.bool p.last,v] 200 false)/\s.m.g (st.nx+1)=some (.cells (zr 512) 233 false)/\
  s.m.g (st.nx+2)=some (.cells (aj (le i p.n++List.replicate (512-i) 0)) 233 false)) ?_ (n:=8) ⟨0,rfl,rfl,jN,rfl,?_,?_,?_⟩
 .rintro m vs s k ⟨i,hm,rfl,hk,BT,g1,g2,g3⟩ next
  by_cases hi:i<8
  .have fk:(i:Int)<8:=by omega
   have e1:IntKind.i64.wrap (8*(i:Int))=((8*i:Nat):Int):=aaq
   have e2:IntKind.i64.wrap ((i:Int)+1)=((i+1:Nat):Int):=aaq
   have e3:∀s,ai .lss none true (I i) (.int .i64 8) s=.ok (.bool true) s:=λs=>by rw[az,c8];simp only[fk,aFZ]
   have e4:∀s,ai .mul none true (.int .i64 8) (I i) s=.ok (I ((8*i:Nat):Int)) s:=λs=>by rw[az,je,e1]
   have e5:∀s,ai .add none true (I i) (.int .i64 1) s=.ok (I ((i+1:Nat):Int)) s:=λs=>by rw[az,cO,e2]
   simp only[aL,aM,e3,af,ag,aFm,fl,ah,aB,g1,aq,aER,aEL,ay,e4,DK _ _ hi,Mw,Ah (show i<512 from qE),aJ,g3,aW,e5];refine⟨⟨rfl,rfl,by simp[iz];omega⟩,next (m-1) _ _ qE ⟨i+1,qE,rfl,hk.set _ (.inr qE) qE,BT,?_,?_,?_⟩⟩
   .rw[al _ _ _ _ qE];exact g1
   .rw[al _ _ _ _ qE];exact g2
   .rw[ar]
    congr 2
    have e6:List.replicate (512-i) (0:UInt8)=0::List.replicate (512-(i+1)) 0:=by
     rw[show 512-i=(512-(i+1))+1 from qE,aGV]
    rw[e6,bL,bL];have:=wu (aj (le i p.n)) (aj (List.replicate (512-(i+1)) 0)) (bQ 0) (bQ (UInt8.ofNat (p.n/256^i%256)));rw[bJ,iz]at this;simp only[aGB];show bD (aj (le i p.n)++bQ 0::aj _) i [bQ _]=_;rw[this];simp[le,aj]
  .have fk:¬(i:Int)<8:=by omega
   have hi8:i=8:=qE
   subst hi8
   have hb:aj (le 8 p.n++List.replicate (512-8) 0)=aj (le 8 p.n)++(bQ 0::bQ 0::bQ 0::aj (List.replicate 501 0)):=by
    rw[bL];rfl
   have hA:(aj (le 8 p.n)).length=8:=by simp[iz]
   rw[hb]at g3;have e3:∀s,ai .lss none true (I ((8:Nat):Int)) (.int .i64 8) s=.ok (.bool false) s:=λs=>rfl;simp only[aL,aM,e3,af,ag,aEM,aFa]
   refine jO (λvs s=>vs=[.ptr st.nx 0,.ptr (st.nx+1) 0,.ptr (st.nx+2) 0]/\Kp [] st s/\s.nx=st.nx+3/\s.m.g st.nx=some (.cells [I p.n,.bool p.last,v] 200 false)/\s.m.g (st.nx+1)=some (.cells (zr 512) 233 false)/\
    s.m.g (st.nx+2)=some (.cells (aj (le 8 p.n)++(bQ (if p.last=true then 1 else 0)::bQ 0::bQ 0::aj (List.replicate 501 0))) 233 false)) ?_ ?_
   .intro k' CT;have e8:∀s,fV 512 1 (.ptr (st.nx+2) 0) (.int .i64 8) s=.ok (.ptr (st.nx+2) 8) s:=λs=>rfl;simp only[fl,ah,af,aB,g1,aq,aER,aEN,aEL,ay,ag]
    by_cases hl:p.last=true
    .simp only[hl,aFm,e8,af,aJ,g3,aW];refine⟨⟨rfl,rfl,by simp[iz]⟩,CT _ _ ⟨rfl,hk.set _ (.inr qE) qE,BT,?_,?_,?_⟩⟩
     .rw[al _ _ _ _ qE];exact g1
     .rw[al _ _ _ _ qE];exact g2
     .rw[ar];have:=wu (aj (le 8 p.n)) (bQ 0::bQ 0::aj (List.replicate 501 0)) (bQ 0) (bQ 1);rw[hA]at this;rw[aEW hl,<-this];rfl
    .simp only[hl,aEM,aFa];exact CT _ _ ⟨rfl,hk,BT,g1,g2,by rw[aET hl];exact g3⟩
   .rintro _ s ⟨rfl,hk,BT,g1,g2,g3⟩;have e9:∀s,fV 512 1 (.ptr (st.nx+2) 0) (.int .i64 9) s=.ok (.ptr (st.nx+2) 9) s:=λs=>rfl;have Sm:∀s,fV 512 1 (.ptr (st.nx+2) 0) (.int .i64 10) s=.ok (.ptr (st.nx+2) 10) s:=λs=>rfl;have e11:∀s,bY 512 1 (.ptr (st.nx+2) 0) (some (.int .i64 11)) none s=.ok (.slice (st.nx+2) 11 501 501 0) s:=λs=>rfl;have hlen:=h.len p.data.length uG qE;have eu1:∀s,cW (.toInt .u8) (I p.data.length) s=.ok (bQ (UInt8.ofNat (p.data.length%256))) s:=λs=>Mw _ _ _
    have eu2:∀s,ai .shr none true (I p.data.length) (.int .u64 8) s=.ok (I ((p.data.length/256:Nat):Int)) s:=λs=>by
     have e:ai .shr none true (I p.data.length) (.int .u64 8) s=.ok (I ((p.data.length:Int).fdiv 256)) s:=rfl;rw[e,Int.fdiv_eq_ediv_of_nonneg _ qE];rfl
    have eu3:∀s,cW (.toInt .u8) (I ((p.data.length/256:Nat):Int)) s=.ok (bQ (UInt8.ofNat (p.data.length/256%256))) s:=λs=>Mw _ _ _;generalize hfb:(if p.last=true then (1:UInt8)else 0)=fb at*;have en1:st.nx≠st.nx+2:=qE
    simp only[aL,aM,bG,ah,af,aB,g1,g3,aq,aW,aER,aEN,aEL,ay,hlen,eu1,eu2,eu3,e9,Sm,e11,aJ,ar,al _ _ _ _ en1];have Xc:∀b:UInt8,(bQ b).cN=[bQ b]:=λ_=>rfl;have kz:∀b:UInt8,bj [bQ b]=true:=λ_=>rfl
    have wM:aj p.cC=aj (le 8 p.n)++(bQ fb::bQ (UInt8.ofNat (p.data.length%256))::bQ (UInt8.ofNat (p.data.length/256%256))::(aj p.data++aj (List.replicate (501-p.data.length) 0))):=by
     simp[Piece.cC,aj,hfb]
    generalize UInt8.ofNat (p.data.length%256)=b1 at*;generalize UInt8.ofNat (p.data.length/256%256)=b2 at*;have o1:=wu (aj (le 8 p.n)++[bQ fb]) (bQ 0::aj (List.replicate 501 0)) (bQ 0) (bQ b1);have o2:=wu (aj (le 8 p.n)++[bQ fb,bQ b1]) (aj (List.replicate 501 0)) (bQ 0) (bQ b2);have o3:=qa (aj (le 8 p.n)++[bQ fb,bQ b1,bQ b2]) (aj (List.replicate 501 0)) (aj p.data);simp only[aFx,aFS,aFt,aEU,hA,aFp,aGu,Nat.reduceAdd]at o1 o2 o3;rw[Xc,Xc,o1,o2];have hl0:(aj (le 8 p.n)++bQ fb::bQ 0::bQ 0::aj (List.replicate 501 0)).length=512:=by simp[iz]
    have uT:(aj (le 8 p.n)++bQ fb::bQ b1::bQ 0::aj (List.replicate 501 0)).length=512:=by simp[iz]
    have Ir:(aj (le 8 p.n)++bQ fb::bQ b1::bQ b2::aj (List.replicate 501 0)).length=512:=by simp[iz]
    refine⟨⟨rfl,rfl,qE⟩,⟨rfl,rfl,qE⟩,⟨aer,⟨aer,aer⟩,aer⟩,aer,?_⟩;simp only[set_set]
    have lq:Sl (St.set s (st.nx+2) (.cells (aj (le 8 p.n)++bQ fb::bQ b1::bQ b2::aj (List.replicate 501 0)) 233 false)) [] v 1 (aj p.data):=by
     exact(h.dW (Y:=[]) uG).mono (hk.set _ (.inr qE) qE)
    obtain⟨s4,c1,c2,c3,c4⟩:=Qf (n:=501) (cap:=501) (off:=11) lq (ar _ _ _) vR (by rw[Ir];simp;omega) (bI _);rw[c1,aS]
    have aff:bD (aj (le 8 p.n)++bQ fb::bQ b1::bQ b2::aj (List.replicate 501 0)) 11 (aj p.data)=aj p.cC:=by
     have e0:(aj (List.replicate 501 0)).drop (aj p.data).length=aj (List.replicate (501-p.data.length) 0):=by
      unfold aj;rw[<-aGl,aGW,aFK]
     rw[wM,o3,e0]
    rw[aff]at c3;have LJ:(aj p.cC).length=512:=by simp[Piece.qK p hd]
    have g4:s4.m.g (st.nx+1)=some (.cells (zr 512) 233 false):=by rw[c4 _ qE,al _ _ _ _ qE];exact g2
    have ht:List.take 512 (aj p.cC)=aj p.cC:=aEX qE;have hz5:(zr 512).length=512:=aFI;have kP:bD (zr 512) 0 (aj p.cC)=aj p.cC:=ep _ _ (by rw[hz5];exact LJ);have hn4:=c2.trans BT;simp only[so,c3,g4,aq,aW,wx,aFr,aER,ht,aT,LJ,bI,hz5,kP,ar];refine⟨⟨aer,aer⟩,aer,aEQ _,⟨aer,aer,aEQ _⟩,aEQ _,aer,?_⟩;have rQ:Kp [] st s4:=⟨qE,λq h1 h2=>?_,λhf q hq=>?_⟩
    .exact rQ.set _ (.inr qE) qE
    .rw[c4 q qE,al _ _ _ _ qE];exact hk.keep q h1 h2
    .rw[c4 q qE,al _ _ _ _ qE];exact hk.fresh hf q qE
 .rw[bg _ _ _ vR,bg _ _ _ uG];exact ao _ _
 .rw[bg _ _ _ uG];exact ao _ _
 .have:(St.new (St.new st (.cells [I p.n,.bool p.last,v] 200 false)) (.cells (zr 512) 233 false)).nx=st.nx+2:=by simp
  rw[<-this];refine(ao _ _).trans ?_;rw[nO];rfl
end
def Y1 {k n i:Nat}(h:i<k):(le k n)[i]?=some (UInt8.ofNat (n/256^i%256)):=by
 induction k with
 |zero=>omega
 |succ k ih=>
  simp only[le]
  by_cases hi:i<k
  .rw[aGr (by rw[iz];exact hi)];exact ih hi
  .have:i=k:=by omega
   subst this;rw[aGe (by rw[iz];exact aEQ _),iz,Nat.sub_self];rfl
def I8 {p:Piece}{i:Nat}(h:i<8):(aj p.cC)[i]?=some (bQ (UInt8.ofNat (p.n/256^i%256))):=by
 unfold Piece.cC aj;rw[aFA,aFx,aFx,aGr (by rw[iz];exact h),Y1 h];rfl
def FV (p:Piece):(aj p.cC)[8]?=some (bQ (if p.last=true then 1 else 0)):=by
 unfold Piece.cC aj;rw[aFA,aFx,aFx,aGe (by rw[iz];exact aEQ _),iz];rfl
def PG (p:Piece):(aj p.cC)[9]?=some (bQ (UInt8.ofNat (p.data.length%256))):=by
 unfold Piece.cC aj;rw[aFA,aFx,aFx,aGe (by rw[iz];omega),iz];rfl
def MD (p:Piece):(aj p.cC)[10]?=some (bQ (UInt8.ofNat (p.data.length/256%256))):=by
 unfold Piece.cC aj;rw[aFA,aFx,aFx,aGe (by rw[iz];omega),iz];rfl
def FU (p:Piece):((aj p.cC).drop 11).take p.data.length=aj p.data:=by
 have e:aj p.cC=(aj (le 8 p.n)++aj [if p.last=true then 1 else 0,UInt8.ofNat (p.data.length%256),UInt8.ofNat (p.data.length/256%256)])++(aj p.data++aj (List.replicate (501-p.data.length) 0)):=by
  simp only[Piece.cC,bL,aFx]
 have hl:(aj (le 8 p.n)++aj [if p.last=true then (1:UInt8)else 0,UInt8.ofNat (p.data.length%256),UInt8.ofNat (p.data.length/256%256)]).length=11:=by rw[aEU,bJ,bJ,iz];rfl
 rw[e,List.drop_append,aFu qE,hl,Nat.sub_self,aFr,aFt,aGH,aEX uG];simp
def Um:lj=(Piece.mk 0 false []).cC:=by decide+kernel
def Kx (k:Nat)(h:k<9223372036854775808):IntKind.i64.wrap (k:Int)=(k:Int):=bz qE
def Wz (a m:Nat)(k:Nat)(h:a<2^k)(hs:a+m*2^k<9223372036854775808):j8 .or .i64 (a:Int) ((m*2^k:Nat):Int)=some ((a+m*2^k:Nat):Int):=by
 have e:j8 .or .i64 (a:Int) ((m*2^k:Nat):Int)=some (IntKind.i64.wrap ((BitVec.ofInt 64 (a:Int)|||BitVec.ofInt 64 ((m*2^k:Nat):Int)).toNat:Int)):=rfl;rw[e,BitVec.ofInt_natCast,BitVec.ofInt_natCast,BitVec.toNat_or,BitVec.toNat_ofNat,BitVec.toNat_ofNat,aGz qE,aGz qE,Nat.or_comm,aGN m,<-Nat.two_pow_add_eq_or_of_lt h,Kx _ (by rw[aGN];omega),aGN,aHE]
def Qh (a m k:Nat)(h:a<2^k)(hs:a+m*2^k<9223372036854775808)(d:Option kj)(c:Bool)(st:St):ai .or d c (I a) (I ((m*2^k:Nat):Int)) st=.ok (I ((a+m*2^k:Nat):Int)) st:=by
 have e:ai .or d c (I a) (I ((m*2^k:Nat):Int)) st=(match j8 .or .i64 (a:Int) ((m*2^k:Nat):Int)with|some r=>.ok (.int .i64 r) st|none=>.bad):=rfl;rw[e,Wz a m k h hs]
def Qg (a m k:Nat)(h:a<2^k)(hs:a+m*2^k<18446744073709551616)(d:Option kj)(c:Bool)(st:St):ai .or d c (.int .u64 a) (.int .u64 ((m*2^k:Nat):Int)) st=.ok (.int .u64 ((a+m*2^k:Nat):Int)) st:=by
 have e:ai .or d c (.int .u64 a) (.int .u64 ((m*2^k:Nat):Int)) st=(match j8 .or .u64 (a:Int) ((m*2^k:Nat):Int)with|some r=>.ok (.int .u64 r) st|none=>.bad):=rfl;rw[e,adU a m k h hs]
def MT (a k:Nat)(hk:k<=64)(hs:a*2^k<18446744073709551616)(d:Option kj)(c:Bool)(st:St):ai .shl d c (.int .u64 a) (I k) st=.ok (.int .u64 ((a*2^k:Nat):Int)) st:=by
 have e:ai .shl d c (.int .u64 a) (I k) st=if (k:Int)<0 then .bad else .ok (.int .u64 (IntKind.u64.wrap ((a:Int)*2^(min (k:Int).toNat 64)))) st:=rfl
 rw[e,aET qE,aHy,aFG hk];have e2:(a:Int)*2^k=((a*2^k:Nat):Int):=uG
 rw[e2,tB _ hs]
def FD (n:Nat)(h:n<9223372036854775808)(k:IntKind)(st:St):cW (.toInt .i64) (.int k (n:Int)) st=.ok (I n) st:=by
 show OR.ok (.int .i64 (IntKind.i64.wrap n)) st=_;rw[Kx n h]
def adt (n:Nat)(h:n<18446744073709551616)(k:IntKind)(st:St):cW (.toInt .u64) (.int k (n:Int)) st=.ok (.int .u64 n) st:=by
 show OR.ok (.int .u64 (IntKind.u64.wrap n)) st=_;rw[tB n h]
def MU (a b:List UInt8)(n:Nat)(h1:a.length=n)(h2:b.length=n)(c:Bool)(st:St):ai .neq (some (.bytes n)) c (.agg (aj a)) (.agg (aj b)) st=.ok (.bool (!(a==b))) st:=by
 rw[wq];have e:lO (.bytes n) (.agg (aj a)) (.agg (aj b))=(match Io (aj a),Io (aj b)with|some a,some b=>bH (decide (a.length=n)&&decide (b.length=n)) (some (a==b)) none|_,_=>none):=rfl;have e1:Io (aj a)=some a:=Dy a;have e2:Io (aj b)=some b:=Dy b;rw[e,e1,e2];simp[h1,h2,aP]
section
variable {st st':St}
def Piece.ok (p:Piece):Prop:=p.n<=4611686018427387904/\p.data.length<=501/\(p.n=0->p.data=[]/\p.last=false)/\(p.n≠0->p.last=false->p.data.length=501)
def abA (p:Piece)(st:St)(x:CV)(st':St):Prop:=∃v,x=.agg [I p.n,.bool p.last,v]/\Made 1 5 (aj p.data) st v st'
def Jr {p:Piece}(hf:eH st)(hp:p.ok):R 152 [.agg (aj p.cC)] st λx st'=>∃y,x=.tuple [y,.bool (decide (p.n≠0))]/\abA p st y st':=by
 obtain⟨Tx,Nj,hp3,hp4⟩:=hp;refine bP ?_;rw[akx];have hlen:=Piece.qK p Nj;have uy:(aj p.cC).length=512:=by simp[hlen]
 have e9:∀s,fV 512 1 (.ptr st.nx 0) (.int .i64 9) s=.ok (.ptr st.nx 9) s:=λs=>rfl;have Sm:∀s,fV 512 1 (.ptr st.nx 0) (.int .i64 10) s=.ok (.ptr st.nx 10) s:=λs=>rfl
 have f9:∀s,cW (.toInt .i64) (bQ (UInt8.ofNat (p.data.length%256))) s=.ok (I ((p.data.length%256:Nat):Int)) s:=λs=>by
  rw[jS _ qE,FD _ qE]
 have f10:∀s,cW (.toInt .i64) (bQ (UInt8.ofNat (p.data.length/256%256))) s=.ok (I ((p.data.length/256%256:Nat):Int)) s:=λs=>by
  rw[jS _ qE,FD _ qE]
 have f11:∀s,ai .shl none true (I ((p.data.length/256%256:Nat):Int)) (.int .u64 8) s=.ok (I ((p.data.length/256%256*2^8:Nat):Int)) s:=λs=>by
  have e:ai .shl none true (I ((p.data.length/256%256:Nat):Int)) (.int .u64 8) s=.ok (I (IntKind.i64.wrap (((p.data.length/256%256:Nat):Int)*2^8))) s:=rfl;rw[e,bz qE];simp
 have f12:∀s,ai .or none false (I ((p.data.length%256:Nat):Int)) (I ((p.data.length/256%256*2^8:Nat):Int)) s=.ok (I p.data.length) s:=λs=>by
  rw[Qh _ _ _ qE qE];congr 3;omega
 have hx:(CV.agg (aj p.cC)).isAny=false:=rfl;have nK:Kp [] st (St.new (St.new st (.cells (aj p.cC) 233 false)) (.cells [.int .i64 0,.bool false,.ae] 200 false)):=((Kp.refl [] st).new _).new _
 have g1:(St.new (St.new st (.cells (aj p.cC) 233 false)) (.cells [.int .i64 0,.bool false,.ae] 200 false)).m.g st.nx=some (.cells (aj p.cC) 233 false):=by
  rw[bg _ _ _ uG];exact ao _ _
 have g2:(St.new (St.new st (.cells (aj p.cC) 233 false)) (.cells [.int .i64 0,.bool false,.ae] 200 false)).m.g (st.nx+1)=some (.cells [.int .i64 0,.bool false,.ae] 200 false):=ao (St.new st (.cells (aj p.cC) 233 false)) _;simp only[bV,cH,aS,aT];refine⟨rfl,?_⟩;simp only[bG,e9,Sm,af,aB,g1,aq,PG,MD,ay,f9,f10,f11,f12];refine⟨⟨aer,aer,aer⟩,aer,?_⟩;show cZ _ _ _;simp only[aL,aM,wB];refine bN (λm vs s=>∃i,m+i=8/\vs=[.ptr st.nx 0,.ptr (st.nx+1) 0,.int .u64 ((p.n%256^i:Nat):Int),I p.data.length,I i]/\s=(St.new (St.new st (.cells (aj p.cC) 233 false)) (.cells [.int .i64 0,.bool false,.ae] 200 false))) ?_ (n:=8) ⟨0,rfl,by simp[Nat.mod_one],rfl⟩;rintro m vs s k ⟨i,hm,rfl,rfl⟩ next;generalize hS:(St.new (St.new st (.cells (aj p.cC) 233 false)) (.cells [.int .i64 0,.bool false,.ae] 200 false))=S at*;have hSn:S.nx=st.nx+2:=by rw[<-hS];rfl
 by_cases hi:i<8
 .have fk:(i:Int)<8:=by omega
  have a1:ai .lss none true (I i) (.int .i64 8) S=.ok (.bool true) S:=by rw[az,c8];simp only[fk,aFZ]
  have a2:ai .mul none true (.int .i64 8) (I i) S=.ok (I ((8*i:Nat):Int)) S:=O3
  have a3:ai .add none true (I i) (.int .i64 1) S=.ok (I ((i+1:Nat):Int)) S:=xt
  have a4:cW (.toInt .u64) (bQ (UInt8.ofNat (p.n/256^i%256))) S=.ok (.int .u64 ((p.n/256^i%256:Nat):Int)) S:=by rw[jS _ qE,adt _ qE]
  have Vb:(2:Nat)^(8*i)=256^i:=by rw[Nat.pow_mul]
  have azl:256^i<=256^7:=Nat.pow_le_pow_right qE qE
  have hb:p.n/256^i%256*256^i<=p.n:=by
   have h1:p.n/256^i%256<=p.n/256^i:=Nat.mod_le _ _;exact aGb (aFH _ h1) (Nat.div_mul_le_self _ _)
  have Vg:p.n%256^i<256^i:=Nat.mod_lt _ (Nat.pow_pos qE)
  have jg:p.n%256^i+p.n/256^i%256*256^i=p.n%256^(i+1):=by
   rw[aHw,Nat.mod_mul,aGN (256^i)]
  have a5:ai .shl none false (.int .u64 ((p.n/256^i%256:Nat):Int)) (I ((8*i:Nat):Int)) S=.ok (.int .u64 ((p.n/256^i%256*2^(8*i):Nat):Int)) S:=MT _ _ qE (by rw[Vb];omega) _ _ _
  have a6:ai .or none false (.int .u64 ((p.n%256^i:Nat):Int)) (.int .u64 ((p.n/256^i%256*2^(8*i):Nat):Int)) S=.ok (.int .u64 ((p.n%256^(i+1):Nat):Int)) S:=by
   rw[Qg _ _ _ (by rw[Vb];exact Vg) (by rw[Vb,jg];have:=Nat.mod_le p.n (256^(i+1));omega),Vb,jg]
  simp only[aL,aM,a1,af,ag,aFm,Ah (show i<512 from qE),aER,aGB,aB,g1,aq,I8 hi,ay,a4,a2,a5,a6,a3];exact next (m-1) _ _ qE ⟨i+1,qE,rfl,rfl⟩
 .have hi8:i=8:=by omega
  subst hi8;have Vd:p.n%256^8=p.n:=aGz qE;rw[Vd];have a1:∀s,ai .lss none true (I ((8:Nat):Int)) (.int .i64 8) s=.ok (.bool false) s:=λs=>rfl;simp only[aL,aM,a1,af,ag,aEM,aFa]
  by_cases h0:p.n=0
  .obtain⟨d0,l0⟩:=hp3 h0;have b1:∀s,ai .lss none true (.int .u64 ((p.n:Nat):Int)) (.int .u64 1) s=.ok (.bool true) s:=λs=>by rw[h0];rfl
   have Xk:p=⟨0,false,[]⟩:=by cases p;simp_all
   simp only[b1,af,aG,bS,aF,aFm,aFh,aEM,aFa,ag,dV,ld,aJ,g2,aW,aT,so,ar,aq,wx];refine⟨⟨rfl,rfl,u7⟩,u7,.agg [I p.n,.bool p.last,.ae],?_,.ae,rfl,[],nK.set _ (.inr qE) qE,.inl ⟨rfl,by rw[d0];rfl,rfl⟩,uG⟩;rw[h0,l0];rfl
  .have b1:∀s,ai .lss none true (.int .u64 ((p.n:Nat):Int)) (.int .u64 1) s=.ok (.bool false) s:=λs=>by
    rw[az,c8,aEO qE]
   have b2:∀s,ai .gtr none true (.int .u64 ((p.n:Nat):Int)) (.int .u64 4611686018427387904) s=.ok (.bool false) s:=λs=>by
    rw[az,dx,aEO qE]
   have b3:∀s,ai .gtr none true (I p.data.length) (.int .i64 501) s=.ok (.bool false) s:=λs=>by
    rw[az,dx,aEO qE]
   have b4:∀s,cW (.toInt .i64) (.int .u64 ((p.n:Nat):Int)) s=.ok (I p.n) s:=λs=>FD _ qE _ _;have e8:∀s,fV 512 1 (.ptr st.nx 0) (.int .i64 8) s=.ok (.ptr st.nx 8) s:=λs=>rfl;generalize hS3:St.new (St.skip S) (.cells [.int .i64 0,.bool false,.ae] 200 false)=S3;have agO:S3.nx=st.nx+4:=by rw[<-hS3];simp;omega
   have jN:Kp [] st S3:=by rw[<-hS3];exact nK.skip.new _
   have uS:S3.m.g S.nx=none:=by rw[<-hS3,bg _ _ _ uG];exact nK.fresh hf _ (aEQ _)
   have hpc:S3.m.g (st.nx+3)=some (.cells [.int .i64 0,.bool false,.ae] 200 false):=by
    have:st.nx+3=(St.skip S).nx:=vR
    rw[this,<-hS3];exact ao _ _
   have nE:S3.m.g st.nx=some (.cells (aj p.cC) 233 false):=by rw[<-hS3,bg _ _ _ vR];exact g1
   have Hu:S3.m.g (st.nx+1)=some (.cells [.int .i64 0,.bool false,.ae] 200 false):=by rw[<-hS3,bg _ _ _ vR];exact g2
   have b8:∀s,ai .eql (some .int) true (bQ (if p.last=true then 1 else 0)) (.int .u8 1) s=.ok (.bool p.last) s:=λs=>by cases p.last<;>rfl
   have anv:(St.skip S).nx=st.nx+3:=vR
   simp only[b1,af,aG,bh,aF,aFf,aEM,aFa,ag,b2,b3,b4,e8,aB,nE,aq,FV,ay,b8,hSn,anv];rw[hSn]at uS;have AO:gC ([]:List uB) (cM 0 [CV.int .u8 0])=some []:=rfl;rw[jH uS AO,aS]
   have c1:∀s,ai .add none true (.int .i64 11) (I p.data.length) s=.ok (I ((11+p.data.length:Nat):Int)) s:=λs=>by
    rw[az,cO,bz qE];rfl
   have c2:∀s,bY 512 1 (.ptr st.nx 0) (some (.int .i64 11)) (some (I ((11+p.data.length:Nat):Int))) s=.ok (.slice st.nx 11 p.data.length 501 0) s:=λs=>by
    have:=qQ (n:=512) (b:=st.nx) (l:=11) (h:=11+p.data.length) qE qE qE s;rw[aGQ]at this;exact this
   have rQ:Kp [] st (St.set S3 (st.nx+2) (.cells [] 5 false)):=jN.set _ (.inr qE) qE;have aAO:(St.set S3 (st.nx+2) (.cells [] 5 false)).nx=st.nx+4:=agO;have Iz:(St.set S3 (st.nx+2) (.cells [] 5 false)).m.g st.nx=some (.cells (aj p.cC) 233 false):=by rw[al _ _ _ _ qE];exact nE
   have ND:(St.set S3 (st.nx+2) (.cells [] 5 false)).m.g (st.nx+1)=some (.cells [.int .i64 0,.bool false,.ae] 200 false):=by rw[al _ _ _ _ qE];exact Hu
   have OB:(St.set S3 (st.nx+2) (.cells [] 5 false)).m.g (st.nx+3)=some (.cells [.int .i64 0,.bool false,.ae] 200 false):=by rw[al _ _ _ _ qE];exact hpc
   have ho4:Own (St.set S3 (st.nx+2) (.cells [] 5 false)) (.slice (st.nx+2) 0 0 0 0) 1 5 [] [st.nx+2]:=.inr (.inl ⟨_,_,_,_,rfl,rfl,rfl,ar _ _ _⟩);generalize St.set S3 (st.nx+2) (.cells [] 5 false)=S4 at*;have lq:Sl S4 [] (.slice st.nx 11 p.data.length 501 0) 1 (aj p.data):=.inr ⟨st.nx,11,p.data.length,501,0,rfl,uG,⟨Nj,.inl rfl⟩,.inr ⟨uG,qE,_,_,_,Iz,by rw[uy];omega,by rw[aGB];exact FU p⟩⟩;have c3:=(lq.SG qE p.data.length uG).1
   have c4:de .slice 1 [(.int .u8 0)] (.slice st.nx 11 p.data.length 501 0) S4=some (p.data.length,aj p.data):=by
    have e:de .slice 1 [(.int .u8 0)] (.slice st.nx 11 p.data.length 501 0) S4=(match dN 1 p.data.length (.slice st.nx 11 p.data.length 501 0) S4 with|some s=>some (p.data.length,s)|none=>none):=rfl;rw[e,c3]
   obtain⟨v',S7,F',d1,d2,d3,d4⟩:=ho4.append (n:=p.data.length) (bytes:=1) (T:=aj p.data) qE uG (bI _) vR vR;rw[aFt]at d2;obtain⟨o1,o2⟩:=d2.cE
   have rT:∀b∈F',st.nx+2<=b/\b<S7.nx/\b≠st.nx+3:=λb hb=>by
    obtain⟨h1,h2⟩:=d4 b hb;simp at h1;omega
   have o3:=(d2.sl (X:=[]) λb hb=>⟨uG,(rT b hb).2.1⟩).bE.1;have k7:∀b,b<st.nx+4->b≠st.nx+2->S7.m.g b=S4.m.g b:=λb h1 h2=>d3.keep b qE TV;have hn7:st.nx+4<=S7.nx:=by have:=d3.nx;omega
   have hk7:=rQ.trans d3 uG;have NF:=(k7 st.nx qE qE).trans Iz;have g27:=(k7 (st.nx+1) qE qE).trans ND;have g37:=(k7 (st.nx+3) qE qE).trans OB
   have nD:bk [.int .i64 0,.bool false,.ae] [(0,1,I p.n),(1,1,.bool p.last),(2,1,v')] S7=.ok (.agg [I p.n,.bool p.last,v']) S7:=by
    rw[dV];simp[cR,bD,o2,o3]
   simp only[c1,af,c2,c4,d1,aS,nD,jW g37,jW OB,aJ,g37,aW,aT,Iz,NF,aq,FV,ay];have kP:bD [.int .i64 0,.bool false,.ae] 0 [I p.n,.bool p.last,v']=[I p.n,.bool p.last,v']:=ep _ _ rfl;rw[kP];refine⟨⟨rfl,abT,u7⟩,⟨⟨aer,aer,aer⟩,⟨aer,aer,aer⟩,aer⟩,⟨aer,aer⟩,?_⟩;have Z8:Kp [] st (St.set S7 (st.nx+3) (.cells [I p.n,.bool p.last,v'] 200 false)):=hk7.set _ (.inr qE) qE;have X3:(St.set S7 (st.nx+3) (.cells [I p.n,.bool p.last,v'] 200 false)).m.g st.nx=some (.cells (aj p.cC) 233 false):=by rw[al _ _ _ _ qE];exact NF
   have g29:(St.set S7 (st.nx+3) (.cells [I p.n,.bool p.last,v'] 200 false)).m.g (st.nx+1)=some (.cells [.int .i64 0,.bool false,.ae] 200 false):=by rw[al _ _ _ _ qE];exact g27
   have g39:(St.set S7 (st.nx+3) (.cells [I p.n,.bool p.last,v'] 200 false)).m.g (st.nx+3)=some (.cells [I p.n,.bool p.last,v'] 200 false):=ar _ _ _;have d9:Own (St.set S7 (st.nx+3) (.cells [I p.n,.bool p.last,v'] 200 false)) v' 1 5 (aj p.data) F':=d2.mono λb hb=>al _ _ _ _ (rT b hb).2.2;have hn9:(St.set S7 (st.nx+3) (.cells [I p.n,.bool p.last,v'] 200 false)).nx=S7.nx:=rfl;generalize St.set S7 (st.nx+3) (.cells [I p.n,.bool p.last,v'] 200 false)=S9 at*;have Np:∀s:St,s.m.g (st.nx+3)=some (.cells [I p.n,.bool p.last,v'] 200 false)->aI 3 (.ptr (st.nx+3) 0) s=.ok (.agg [I p.n,.bool p.last,v']) s:=λs hs=>aK hs rfl;have He:∀s:St,s.m.g st.nx=some (.cells (aj p.cC) 233 false)->aI 512 (.ptr st.nx 0) s=.ok (.agg (aj p.cC)) s:=λs hs=>aK hs uy;rw[Np S9 g39,af];refine(Cq (p:=p) (d9.sl (X:=[]) λb hb=>⟨uG,by have:=(rT b hb).2.1;omega⟩) Nj qE).mono ?_;rintro x OD ⟨rfl,pG⟩;have aaW:=(pG.keep st.nx qE uG).trans X3;have aaU:=(pG.keep (st.nx+1) qE uG).trans g29;have Kf:=(pG.keep (st.nx+3) qE uG).trans g39
   have q1:ai .neq (some (.bytes 512)) false (.agg (aj p.cC)) (.agg (aj p.cC)) OD=.ok (.bool false) OD:=by
    rw[MU _ _ _ hlen hlen];simp
   have q2:ai .neq (some .int) true (I p.data.length) (.int .i64 501) OD=.ok (.bool (!decide (p.data.length=501))) OD:=by
    rw[az,fh];congr 3;simp only[aFo];omega
   simp only[He OD aaW,He S9 X3,af,q1,aG,bh,aFf,aEM,aFm,aFa,ah,aB,Kf,aq,aER,aEN,aEL,ay,cU];have q3:(!p.last)=true->p.data.length=501:=λh=>hp4 h0 OY
   have q4:us (aZ (some !p.last) OD (.ok (I p.data.length) OD)) λpK=>us (aZ (some !p.last) OD (ai .neq (some .int) true pK (.int .i64 501) OD)) λuh=>us (aX (.bool !p.last) uh (.bool false) OD) λrZ=>rZ=.bool false:=by
    cases hl:p.last with
    |true=>simp
    |false=>
     have:=q3 (by rw[hl];rfl);simp only[aFf,bh,af,q2,aF,aFm];rw[this];rfl
   refine lz q4 λ_ h1=>lz h1 λ_ h2=>lz h2 λ_ h3=>?_;subst h3;simp only[aF,aEM,aFa,af,ag,Np OD Kf,aaU,aW,aT,kP];refine⟨⟨aer,⟨aer,aer⟩,aer,aer⟩,aer,⟨rfl,abT,u7⟩,?_⟩;rw[aK (n:=3) (ar OD (st.nx+1) (.cells [I p.n,.bool p.last,v'] 200 false)) rfl,af];have afW:=Z8.trans pG uG;have azz:=pG.nx;refine⟨.agg [I p.n,.bool p.last,v'],by rw[aEV h0],v',rfl,F',afW.set _ (.inr qE) qE,d9.mono λb hb=>?_,λb hb=>⟨by have:=(rT b hb).1;omega,by have:=(rT b hb).2.1;simp;omega⟩⟩;obtain⟨h1,h2,h3⟩:=rT b hb;rw[al _ _ _ _ qE];exact pG.keep b qE uG
end
section
variable {r a n:Nat}{F:List Nat}{D:bf}
section
variable {st st':St}
structure RingM where
 first:Nat
 count:Nat
 base:Nat
 last:Nat
 top:Nat
def fQ (st:St)(r a:Nat)(m:RingM):Prop:=r<st.nx/\st.m.g r=some (.cells [.ptr a 0,I m.first,I m.count,I m.base,I m.last,I m.top] 198 false)
def fQ.keep {m:RingM}{X:List Nat}(h:fQ st r a m)(hk:Kp X st st')(hx:r∉X):fQ st' r a m:=⟨aFg h.1 hk.nx,by rw[hk.keep r h.1 hx];exact h.2⟩
def RingM.place (m:RingM)(n:Nat):Nat:=m.first+n%m.count
def Ab {m:RingM}(h:fQ st r a m)(h0:0<m.count)(hs:m.first+m.count<=1000000)(hn:n<=9000000000000000000):R 153 [.ptr r 0,I n] st λv st'=>v=I (m.place n)/\st'=st:=by
 obtain⟨h1,h2⟩:=h;refine bP ?_;rw[akw];have e1:¬((m.count:Int)=0):=qE
 have e2:IntKind.i64.wrap ((m.first:Int)+Int.tmod n m.count)=((m.place n:Nat):Int):=by
  have hm:n%m.count<m.count:=Nat.mod_lt _ h0;have:Int.tmod (n:Int) m.count=((n%m.count:Nat):Int):=by rw[Int.tmod_eq_emod_of_nonneg qE];rfl
  rw[this];unfold RingM.place;rw[bz qE];omega
 have e3:¬m.count=0:=qE
 simp[h2,e2,e3]
def xA {m:RingM}(h:fQ st r a m)(hd:dz st a F D):R 171 [.ptr r 0] st λv st'=>v=I (if D.dead=true then 20 else 0)/\st'=st:=by
 obtain⟨h1,h2⟩:=h;refine bP ?_;rw[akk];simp[fB,h2];refine(VQ hd).same ?_;cases D.dead<;>simp
def DB {m:RingM}(h:fQ st r a m):R 173 [.ptr r 0] st λv st'=>v=.bool (decide (m.last<m.top))/\st'=st:=by
 obtain⟨h1,h2⟩:=h;refine bP ?_;rw[aki];simp[h2]
def Pm {m:RingM}(h:fQ st r a m):R 74 [.ptr r 0] st λv st'=>v=I m.top/\st'=st:=by
 obtain⟨h1,h2⟩:=h;refine bP ?_;rw[w74];simp[fB,h2]
def RingM.room (m:RingM):Int:=if m.last<m.top then 0 else (m.count:Int)-((m.last:Int)-m.base)
def KJ {m:RingM}(h:fQ st r a m)(h1:m.count<=1000000)(h2:m.base<=4611686018427387904)(h3:m.last<=4611686018427387904):R 174 [.ptr r 0] st λv st'=>v=I m.room/\st'=st:=by
 have h':=h;obtain⟨g1,g2⟩:=h;refine bP ?_;rw[akh];simp;refine(DB h').same ?_
 by_cases ht:m.last<m.top
 .simp[ht,RingM.room]
 .have e1:IntKind.i64.wrap ((m.last:Int)-m.base)=(m.last:Int)-m.base:=bz qE;have e2:IntKind.i64.wrap ((m.count:Int)-((m.last:Int)-m.base))=(m.count:Int)-((m.last:Int)-m.base):=bz qE;simp[ht,g2,RingM.room,e1,e2]
def bt (n:Nat):Nat:=if n=0 then 1 else (n-1)/501+1
def Cv (hn:n<=1000000000):R 172 [I n] st λv st'=>v=I (bt n)/\st'=st:=by
 refine bP ?_;rw[akj];have e0:¬(n:Int)<0:=qE
 by_cases h0:n=0
 .simp[h0,bt]
 .have e1:IntKind.i64.wrap ((n:Int)-1)=((n-1:Nat):Int):=by rw[bz qE];omega
  have e2:IntKind.i64.wrap (Int.tdiv ((n-1:Nat):Int) 501)=(((n-1)/501:Nat):Int):=by
   have:Int.tdiv ((n-1:Nat):Int) 501=(((n-1)/501:Nat):Int):=rfl;rw[this,bz qE]
  have e3:IntKind.i64.wrap ((((n-1)/501:Nat):Int)+1)=((bt n:Nat):Int):=by
   rw[bz qE];unfold bt;rw[aET h0];omega
  have e4:¬(n:Int)=0:=qE
  simp only[az,c8,cI,dR,Qe,cO,af,ag,e0,e4,aGv,aEM,aFa,e1,Yt,e2,e3];simp
def Uk {m:RingM}(h:fQ st r a m)(hd:dz st a F D)(hw:D.waits.length<=1000000000):R 132 [.ptr r 0] st λv st'=>v=I (if D.flush.1=0 then 0 else 20)/\tw a F st D.flush.2 st':=by
 have h':=h;obtain⟨h1,h2⟩:=h;refine bP ?_;rw[akO];refine(xA h' hd).same ?_
 by_cases rY:D.dead=true
 .have e:D.flush=(20,D):=by simp[bf.flush,rY]
  simp[rY,e];exact⟨Kp.refl _ _,F,hd,ael⟩
 .simp[rY,fB,h2];refine(wT hd hw).mono ?_;rintro _ s ⟨rfl,ht⟩
  by_cases h0:D.flush.1=0<;>simp[h0,ht]
def tw.refl (hd:dz st a F D):tw a F st D st:=⟨Kp.refl _ _,F,hd,ael⟩
def F5 {m:RingM}{p:Piece}{at_:Nat}(hf:eH st)(h:fQ st r a m)(hd:dz st a F D)(hr:r∉F)(rY:D.dead=false)(h0:0<m.count)(hs:m.first+m.count<=1000000)
 (lL:at_<D.aA.length) (hp:p.ok) (hc:D.cur at_=p.cC):R 114 [.ptr r 0,I at_] st λx st'=>∃y,x=.tuple [y,.bool (decide (p.n≠0/\m.place p.n=at_)),I 0]/\abA p st y st':=by
 have h':=h;obtain⟨h1,h2⟩:=h;refine bP ?_;rw[ale];have pP:Kp [] st (St.new st (.cells [.int .i64 0,.bool false,.ae] 200 false)):=(Kp.refl [] st).new _;have g1:(St.new st (.cells [.int .i64 0,.bool false,.ae] 200 false)).m.g st.nx=some (.cells [.int .i64 0,.bool false,.ae] 200 false):=ao _ _;have g2:=(pP.keep r h1 uG).trans h2;have TD:=hd.keep pP uG;have BU:(St.new st (.cells [.int .i64 0,.bool false,.ae] 200 false)).nx=st.nx+1:=rfl;simp only[cH,aS];generalize St.new st (.cells [.int .i64 0,.bool false,.ae] 200 false)=S1 at*;simp[fB,g2];refine(zg TD at_).mono ?_;intro x S2 hx
 have er:D.read at_=(0,p.cC):=by
  simp[bf.read,rY,hc,Int.not_le.mpr (show(at_:Int)<D.aA.length by omega)]
 rw[er,aEW rfl]at hx;obtain⟨nK,hl,b,rfl,g3,b1,b2⟩:=hx;have aAP:=nK.nx;have Ip:oZ 512 (.slice b 0 512 512 1) S2=.ok (.ptr b 0) S2:=rfl;have Ox:(aj p.cC).length=512:=by simp[hl]
 simp only[aE,aN,af,az,fh,aFZ,aFh,ag,aEM,aFa,Ip,aK g3 Ox];refine(Jr (nK.fresh (pP.fresh hf)) hp).mono ?_;rintro _ S3 ⟨_,rfl,v,rfl,Fv,jN,ho,Nx⟩;have JW:=(pP.trans nK uG).trans jN uG
 have nE:S3.m.g st.nx=some (.cells [.int .i64 0,.bool false,.ae] 200 false):=by
  rw[jN.keep _ qE uG,nK.keep _ qE uG];exact g1
 have agO:=jN.nx;obtain⟨o1,o2⟩:=ho.cE;have kP:bD [.int .i64 0,.bool false,.ae] 0 [I p.n,.bool p.last,v]=[I p.n,.bool p.last,v]:=ep _ _ rfl;have kx:bD [I p.n,.bool p.last,v] 0 [I p.n,.bool p.last,v]=[I p.n,.bool p.last,v]:=ep _ _ rfl;simp only[aE,aN,af,nE,aW,aT,kP];refine⟨⟨rfl,abT,u7⟩,?_⟩;have rQ:Kp [] st (St.set S3 st.nx (.cells [I p.n,.bool p.last,v] 200 false)):=JW.set _ (.inr (aEQ _)) qE;have g4:(St.set S3 st.nx (.cells [I p.n,.bool p.last,v] 200 false)).m.g st.nx=some (.cells [I p.n,.bool p.last,v] 200 false):=ar _ _ _;have ho4:Own (St.set S3 st.nx (.cells [I p.n,.bool p.last,v] 200 false)) v 1 5 (aj p.data) Fv:=ho.mono λq hq=>al _ _ _ _ acN;have hn4:(St.set S3 st.nx (.cells [I p.n,.bool p.last,v] 200 false)).nx=S3.nx:=rfl;have hr4:=h'.keep rQ uG;generalize St.set S3 st.nx (.cells [I p.n,.bool p.last,v] 200 false)=S4 at*;refine⟨uG,?_⟩;have ht3:List.take 3 [I p.n,CV.bool p.last,v]=[I p.n,.bool p.last,v]:=rfl
 have fin:∀bb:Bool,bb=(!decide (p.n=0)&&decide (m.place p.n=at_))->abA p st (.agg [I p.n,.bool p.last,v]) (St.set S4 st.nx (.cells [I p.n,.bool p.last,v] 200 false)):=λbb _=>
  ⟨v,rfl,Fv,rQ.set _ (.inr (aEQ _)) qE,ho4.mono λq hq=>al _ _ _ _ acN,λq hq=>⟨acN,by have:=(Nx q hq).2;simp;omega⟩⟩
 by_cases hp0:p.n=0
 .simp[hp0,g4,o1];have EB:bD [I 0,CV.bool p.last,v] 0 [I 0,CV.bool p.last,v]=[I 0,CV.bool p.last,v]:=ep _ _ rfl;rw[EB];have:=fin _ rfl;rw[hp0]at this;exact this
 .simp only[hp0,ne_eq,not_false_eq_true,aFZ,aG,aFm,bh,af,aB,g4,aq,aEL,ay,eR];have Tx:=hp.1;refine(Ab hr4 h0 hs (n:=p.n) qE).same ?_;simp[g4,o1,kx];exact⟨_,⟨rfl,qE⟩,fin _ rfl⟩
end
end
section
variable {f:CV}{c q r n a:Nat}{m:RingM}{D:bf}{P:Nat->Piece}
section
variable {st st':St}
structure tA (D:bf)(m:RingM)(P:Nat->Piece):Prop where
 pos:0<m.count
 fits:m.first+m.count<=D.aA.length
 jL:D.aA.length<=65536
 base:m.base<=4611686018427387904
 cur:∀j,j<m.count->D.cur (m.first+j)=(P j).cC/\(P j).ok
def rz (st:St)(f:CV)(c q r n:Nat):Prop:=f=.func (.func 191) [] [.ptr c 0,.ptr q 0]/\c<st.nx/\q<st.nx/\c≠q/\st.m.g c=some (.cells [I n] 3 false)/\st.m.g q=some (.cells [.ptr r 0] 146 false)
def rz.keep {X:List Nat}(h:rz st f c q r n)(hk:Kp X st st')(h1:c∉X)(h2:q∉X):rz st' f c q r n:=by
 obtain⟨g1,g2,g3,g4,g5,g6⟩:=h;exact⟨g1,aFg g2 hk.nx,aFg g3 hk.nx,g4,by rw[hk.keep c g2 h1];exact g5,by rw[hk.keep q g3 h2];exact g6⟩
def Jq (h:fQ st r a m):R 154 [.ptr r 0] st λf st'=>Kp [] st st'/\∃c q,rz st' f c q r m.base/\st.nx<=c/\st.nx<=q:=by
 obtain⟨h1,h2⟩:=h;refine bP ?_;rw[akv];have g2:(St.new st (.cells [.ptr r 0] 146 false)).m.g r=st.m.g r:=bg _ _ _ h1;have anx:CV.cN (.ptr r 0)=[.ptr r 0]:=rfl;have aaB:CV.isAny (.ptr r 0)=false:=rfl;simp only[bV,anx,aaB,aB,ao,aq,aEL,ay,fB,bF,ah,af,g2,h2,aER,aEN,cH,aS,aJ,aW,lB];have kP:bD [.int .i64 0] 0 [I m.base]=[I m.base]:=ep _ _ rfl;refine⟨aer,⟨rfl,rfl,u7⟩,?_,(St.new st (.cells [.ptr r 0] 146 false)).nx,st.nx,⟨rfl,?_,?_,?_,?_,?_⟩,?_,aEQ _⟩
 .exact(((Kp.refl [] st).new _).new _).set _ (.inr uG) uG
 .simp
 .simp;omega
 .simp
 .rw[ar];exact congrArg some (congrArg (λl=>qB.cells l 3 false) kP)
 .rw[al _ _ _ _ uG,bg _ _ _ uG];exact ao _ _
 .simp
def RingM.is (m:RingM)(P:Nat->Piece)(n:Nat):Prop:=(P (n%m.count)).n=n
instance (m:RingM) (P:Nat->Piece) (n:Nat):Decidable (m.is P n):=by unfold RingM.is;infer_instance
def Qr (h:fQ st r a m)(hp:tA D m P)(hn:rz st f c q r n)(he:n=m.base+m.count):fF R f [] st λx st'=>x=.tuple [.agg [.int .i64 0,.bool false,.ae],.bool false,I 0]/\Kp [] st st':=by
 obtain⟨h1,h2⟩:=h;obtain⟨rfl,g2,g3,g4,g5,g6⟩:=hn;rw[dM];refine bP ?_;simp only[aFt];rw[adi];have k1:∀b,b<st.nx->(St.new st (.cells [.int .i64 0,.bool false,.ae] 200 false)).m.g b=st.m.g b:=λb hb=>bg _ _ _ hb;have e1:IntKind.i64.wrap ((n:Int)-m.base)=(m.count:Int):=by have:=hp.base;have:=hp.fits;have:=hp.jL;rw[bz qE];omega
 simp only[cH,aS,bG,aB,k1 c g2,g5,k1 q g3,g6,aq,aEL,ay,bF,ah,af,k1 r h1,h2,aER,aEN,az,dR,e1,cI,aFZ,ag,aFm,dV,ld,aJ,ao,aW,aT];have kP:bD [.int .i64 0,.bool false,.ae] 0 [.int .i64 0,.bool false,.ae]=[.int .i64 0,.bool false,.ae]:=ep _ _ rfl;refine⟨⟨aer,aer,aer,aer,aer,aer⟩,aer,⟨rfl,rfl,u7⟩,?_⟩;rw[aK (n:=3) (ar _ _ _) rfl,af,kP];exact⟨rfl,((Kp.refl [] st).new _).set _ (.inr (aEQ _)) uG⟩
def Yd (p:Piece)(X:List Nat)(st:St)(y:CV)(st':St):Prop:=∃v Fv,y=.agg [I p.n,.bool p.last,v]/\Kp X st st'/\Own st' v 1 5 (aj p.data) Fv/\∀b∈Fv,st.nx<=b/\b<st'.nx
def UQ {F:List Nat}(hf:eH st)(h:fQ st r a m)(hd:dz st a F D)(hr:r∉F)(rY:D.dead=false)(hp:tA D m P)(hn:rz st f c q r n)(he:n≠m.base+m.count)(hb:m.base<=n)(hl:n<m.base+m.count)(hrc:r≠c)(hrq:r≠q)(hcF:c∉F):
 fF R f [] st λx st'=>∃y,x=.tuple [y,.bool (decide (m.is P (n+1))),I 0]/\Yd (P ((n+1)%m.count)) [c] st y st'/\rz st' f c q r (n+1):=by
 have h':=h;obtain⟨h1,h2⟩:=h;have hn':=hn;obtain⟨rfl,g2,g3,g4,g5,g6⟩:=hn;rw[dM];refine bP ?_;simp only[aFt];rw[adi];have k1:∀b,b<st.nx->(St.new st (.cells [.int .i64 0,.bool false,.ae] 200 false)).m.g b=st.m.g b:=λb hb=>bg _ _ _ hb;have q1:=hp.base;have q2:=hp.fits;have q3:=hp.jL;have e1:IntKind.i64.wrap ((n:Int)-m.base)=(n:Int)-m.base:=bz qE;have e2:¬((n:Int)-m.base=m.count):=qE
 have e3:IntKind.i64.wrap ((n:Int)+1)=((n+1:Nat):Int):=by rw[bz qE];rfl
 simp only[cH,aS,bG,aB,k1 c g2,g5,k1 q g3,g6,aq,aEL,ay,bF,ah,af,k1 r h1,h2,aER,aEN,az,dR,e1,cI,e2,aGv,ag,aEM,aFa,cO,e3,aJ,aW];refine⟨⟨aer,aer,aer,aer,aer,aer⟩,aer,⟨rfl,rfl,uG⟩,?_⟩;have kP:bD [I n] 0 (CV.cN (I ((n+1:Nat):Int)))=[I ((n+1:Nat):Int)]:=ep _ _ rfl;have afn:bD [I n] 0 (CV.cN (.int .i64 ((n+1:Nat):Int)))=[I ((n+1:Nat):Int)]:=kP;rw[afn];have hn3:(St.set (St.new st (.cells [.int .i64 0,.bool false,.ae] 200 false)) c (.cells [I ((n+1:Nat):Int)] 3 false)).nx=st.nx+1:=rfl;have rQ:Kp [c] st (St.new (St.set (St.new st (.cells [.int .i64 0,.bool false,.ae] 200 false)) c (.cells [I ((n+1:Nat):Int)] 3 false)) (.cells [.int .i64 0,.bool false,.ae] 200 false)):=(((Kp.refl _ st).new _).set _ (.inl uG) vR).new _
 have c4:(St.new (St.set (St.new st (.cells [.int .i64 0,.bool false,.ae] 200 false)) c (.cells [I ((n+1:Nat):Int)] 3 false)) (.cells [.int .i64 0,.bool false,.ae] 200 false)).m.g c=some (.cells [I ((n+1:Nat):Int)] 3 false):=by
  rw[bg _ _ _ vR,ar]
 have x4:(St.new (St.set (St.new st (.cells [.int .i64 0,.bool false,.ae] 200 false)) c (.cells [I ((n+1:Nat):Int)] 3 false)) (.cells [.int .i64 0,.bool false,.ae] 200 false)).m.g st.nx=some (.cells [.int .i64 0,.bool false,.ae] 200 false):=by
  rw[bg _ _ _ uG,al _ _ _ _ qE];exact ao _ _
 have y4:(St.new (St.set (St.new st (.cells [.int .i64 0,.bool false,.ae] 200 false)) c (.cells [I ((n+1:Nat):Int)] 3 false)) (.cells [.int .i64 0,.bool false,.ae] 200 false)).m.g (st.nx+1)=some (.cells [.int .i64 0,.bool false,.ae] 200 false):=by
  have:=ao (St.set (St.new st (.cells [.int .i64 0,.bool false,.ae] 200 false)) c (.cells [I ((n+1:Nat):Int)] 3 false)) (.cells [.int .i64 0,.bool false,.ae] 200 false);exact this
 have hn4:(St.new (St.set (St.new st (.cells [.int .i64 0,.bool false,.ae] 200 false)) c (.cells [I ((n+1:Nat):Int)] 3 false)) (.cells [.int .i64 0,.bool false,.ae] 200 false)).nx=st.nx+2:=rfl;rw[hn3];generalize St.new (St.set (St.new st (.cells [.int .i64 0,.bool false,.ae] 200 false)) c (.cells [I ((n+1:Nat):Int)] 3 false)) (.cells [.int .i64 0,.bool false,.ae] 200 false)=S4 at*;have q4:=(rQ.keep q g3 (by simp;exact aFL g4)).trans g6;have r4:=h'.keep rQ (by simpa using hrc);have d4:=hd.keep rQ (λb hb=>by simp;exact λe=>hcF (e▸hb));have JR:m.place (n+1)=m.first+(n+1)%m.count:=rfl;have Vg:(n+1)%m.count<m.count:=Nat.mod_lt _ hp.pos;obtain⟨u1,u2⟩:=hp.cur _ Vg;simp only[q4,c4,aq,aEL,ay];refine(Ab r4 hp.pos qE (n:=n+1) qE).same ?_;refine(F5 (rQ.fresh hf) r4 d4 hr rY hp.pos qE (at_:=m.place (n+1)) qE u2 u1).mono ?_;rintro _ S5 ⟨_,rfl,v,rfl,Fv,Hg,ho,Nx⟩;have hn5:=Hg.nx;have c5:=(Hg.keep c qE uG).trans c4;have q5:=(Hg.keep q qE uG).trans q4;have x5:=(Hg.keep st.nx qE uG).trans x4;have y5:=(Hg.keep (st.nx+1) qE uG).trans y4;obtain⟨o1,o2⟩:=ho.cE;generalize hP:P ((n+1)%m.count)=p at*;have kx:bD [.int .i64 0,.bool false,.ae] 0 [I p.n,.bool p.last,v]=[I p.n,.bool p.last,v]:=ep _ _ rfl;simp only[aE,aN,af,jW y5,jW y4,aS,aJ,y5,aW,aT,kx,q4,aq,aEL,ay];refine⟨⟨rfl,abT,u7⟩,⟨⟨aer,aer⟩,aer,aer,⟨aer,aer,aer⟩,aer⟩,aer,?_⟩;have EG:Kp [c] st (St.set S5 (st.nx+1) (.cells [I p.n,.bool p.last,v] 200 false)):=(rQ.trans Hg uG).set _ (.inr qE) qE;have c6:(St.set S5 (st.nx+1) (.cells [I p.n,.bool p.last,v] 200 false)).m.g c=some (.cells [I ((n+1:Nat):Int)] 3 false):=by rw[al _ _ _ _ qE];exact c5
 have q6:(St.set S5 (st.nx+1) (.cells [I p.n,.bool p.last,v] 200 false)).m.g q=some (.cells [.ptr r 0] 146 false):=by rw[al _ _ _ _ qE];exact q5
 have x6:(St.set S5 (st.nx+1) (.cells [I p.n,.bool p.last,v] 200 false)).m.g st.nx=some (.cells [.int .i64 0,.bool false,.ae] 200 false):=by rw[al _ _ _ _ qE];exact x5
 have y6:(St.set S5 (st.nx+1) (.cells [I p.n,.bool p.last,v] 200 false)).m.g (st.nx+1)=some (.cells [I p.n,.bool p.last,v] 200 false):=ar _ _ _;have o6:Own (St.set S5 (st.nx+1) (.cells [I p.n,.bool p.last,v] 200 false)) v 1 5 (aj p.data) Fv:=ho.mono λb hb=>al _ _ _ _ acO;have hn6:(St.set S5 (st.nx+1) (.cells [I p.n,.bool p.last,v] 200 false)).nx=S5.nx:=rfl;generalize St.set S5 (st.nx+1) (.cells [I p.n,.bool p.last,v] 200 false)=S6 at*;have his:∀bb:Bool,True:=λ_=>trivial
 have Nr:decide (m.is P (n+1))=(decide (p.n≠0/\m.place p.n=m.place (n+1))&&decide (p.n=n+1)):=by
  have apd:m.is P (n+1)↔p.n=n+1:=by unfold RingM.is;rw[hP]
  rw[show decide (m.is P (n+1))=decide (p.n=n+1)from decide_eq_decide.2 apd]
  by_cases e:p.n=n+1
  .simp[e]
  .simp[e]
 have fin:∀S7:St,S7=St.set S6 st.nx (.cells [I p.n,.bool p.last,v] 200 false)->Yd p [c] st (.agg [I p.n,.bool p.last,v]) S7/\rz S7 (.func (.func 191) [] [.ptr c 0,.ptr q 0]) c q r (n+1):=by
  rintro _ rfl;refine⟨⟨v,Fv,rfl,EG.set _ (.inr (aEQ _)) qE,o6.mono λb hb=>al _ _ _ _ acO,λb hb=>⟨acO,by have:=(Nx b hb).2;simp;omega⟩⟩,rfl,vR,vR,g4,?_,?_⟩
  .rw[al _ _ _ _ qE];exact c6
  .rw[al _ _ _ _ qE];exact q6
 rw[aK (n:=3) y6 rfl,af]
 by_cases Ix:p.n≠0/\m.place p.n=m.place (n+1)
 .rw[aEV Ix]at Nr⊢
  have qe:ai .eql (some .int) false (I p.n) (I ((n+1:Nat):Int)) S6=.ok (.bool (decide (p.n=n+1))) S6:=by
   rw[az,cI];congr 2;simp only[aFo];omega
  simp only[aG,aFm,bh,ah,af,aB,y6,c6,aq,aER,aEL,ay,qe,aF,x6,aW,aT,kx];rw[aHz]at Nr;have y7:(St.set S6 st.nx (.cells [I p.n,.bool p.last,v] 200 false)).m.g (st.nx+1)=some (.cells [I p.n,.bool p.last,v] 200 false):=by rw[al _ _ _ _ qE];exact y6
  have c7:(St.set S6 st.nx (.cells [I p.n,.bool p.last,v] 200 false)).m.g c=some (.cells [I ((n+1:Nat):Int)] 3 false):=by rw[al _ _ _ _ qE];exact c6
  have x7:(St.set S6 st.nx (.cells [I p.n,.bool p.last,v] 200 false)).m.g st.nx=some (.cells [I p.n,.bool p.last,v] 200 false):=ar _ _ _;obtain⟨f1,f2⟩:=fin _ rfl;simp only[y7,c7,aq,aEL,ay];rw[aK (n:=3) x7 rfl,af,Nr];exact⟨⟨rfl,abT,u7⟩,⟨aer,⟨aer,aer⟩,⟨aer,aer⟩,aer⟩,aer,_,rfl,f1,f2⟩
 .rw[aEO Ix]at Nr⊢;simp only[aG,aFm,bS,aEM,aFa,af,aF,x6,aW,aT,kx];rw[aHD]at Nr;have x7:(St.set S6 st.nx (.cells [I p.n,.bool p.last,v] 200 false)).m.g st.nx=some (.cells [I p.n,.bool p.last,v] 200 false):=ar _ _ _;obtain⟨f1,f2⟩:=fin _ rfl;rw[aK (n:=3) x7 rfl,af,Nr];exact⟨⟨rfl,abT,u7⟩,⟨aer,⟨aer,aer⟩,⟨aer,aer⟩,aer⟩,aer,_,rfl,f1,f2⟩
end
end
