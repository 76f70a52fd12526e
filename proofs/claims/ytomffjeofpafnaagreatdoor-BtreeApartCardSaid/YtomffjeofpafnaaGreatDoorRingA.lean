import Derived.Test.YtomffjeofpafnaaGreatDoorDisk
namespace Lim
open Go
noncomputable section
set_option maxRecDepth 100000
def le:Nat->Nat->List UInt8
 |0,_=>[]
 |k+1,n=>le k n++[UInt8.ofNat (n/256^k%256)]
theorem hJ (k n:Nat):(le k n).length=k:=by induction k with|zero=>rfl|succ k ih=>simp[le,ih]
structure Piece where
 n:Nat
 last:Bool
 data:List UInt8
def Piece.bX (p:Piece):jk:=le 8 p.n++[if p.last=true then 1 else 0,UInt8.ofNat (p.data.length%256),UInt8.ofNat (p.data.length/256%256)]++p.data++List.replicate (501-p.data.length) 0
theorem Piece.pS (p:Piece)(h:p.data.length<=501):p.bX.length=512:=by
 simp only[Piece.bX,aAY,hJ,aBt,aCu,aBz];omega
theorem yP {n size b o j:Nat}(h:j<n)(st:St):fK n size (.ptr b o) (I j) st= .ok (.ptr b (o+j*size)) st:=by
 have e:fK n size (.ptr b o) (I j) st=bC (Nat.ble (Nat.succ j) n) (nS (Nat.add o (Nat.mul j size)) fun o=> .ok (.ptr b o) st) .bad:=rfl;rw[e,aM,aBb (by rw[aBy];omega)];rfl
theorem Cq (n i:Nat)(hi:i<8)(d:Option jL)(c:Bool)(st:St):aj .shr d c (I n) (I ((8*i:Nat):Int)) st= .ok (I ((n/256^i:Nat):Int)) st:=by
 have e:aj .shr d c (I n) (I ((8*i:Nat):Int)) st=if ((8*i:Nat):Int)<0 then .bad else .ok (I ((n:Int).fdiv (2^(min ((8*i:Nat):Int).toNat 64)))) st:=rfl
 rw[e,aAZ (by omega),aDz,aBH (by omega),Int.fdiv_eq_ediv_of_nonneg _ (Int.le_of_lt (Int.pow_pos (by omega)))]
 congr 2
 have:(2:Nat)^(8*i)=256^i:=by rw[Nat.pow_mul]
 rw[<-this];simp
theorem M6 (n:Nat)(k:IntKind)(st:St):dB (.toInt .u8) (.int k (n:Int)) st= .ok (bN (UInt8.ofNat (n%256))) st:=by
 rw[ji _ (by omega)];show OR.ok (.int .u8 (IntKind.u8.wrap n)) st=_;rw[MW]
theorem uZ (A B:List CV)(x y:CV):bt (A++x::B) A.length [y]=A++y::B:=by
 unfold bt;simp
theorem pq (P Z T:List CV):bt (P++Z) P.length T=P++(T++Z.drop T.length):=by
 unfold bt;simp[List.drop_append]
theorem nb (n:Nat):zr n=ai (List.replicate n 0):=by unfold zr ai;rw[List.map_replicate];rfl
section
variable {st st':St}
theorem Bb {X:List Nat}{v:CV}{p:Piece}(h:Sl st X v 1 (ai p.data))(hd:p.data.length<=501)(hn:p.n<9223372036854775808):R 175 [.agg [I p.n, .bool p.last,v]] st fun x st'=>x= .agg (ai p.bX)/\Kp [] st st':=by
 refine bO ?_;rw[ahe];have hv:=h.bu;simp only[cr,cM,aT];refine⟨rfl, ?_⟩;show dn _ _ _;simp only[aK,aL];have jf:Kp [] st (St.new (St.new (St.new st (.cells [I p.n, .bool p.last,v] 200 false)) (.cells (zr 512) 233 false)) (.cells (zr 512) 233 false)):=(((Kp.refl [] st).new _).new _).new _
 refine bM (fun m vs s=>∃i,m+i=8/\vs=[.ptr st.next 0, .ptr (st.next+1) 0, .ptr (st.next+2) 0,I i]/\Kp [] st s/\s.next=st.next+3/\s.mem.get st.next=some (.cells [I p.n, .bool p.last,v] 200 false)/\s.mem.get (st.next+1)=some (.cells (zr 512) 233 false)/\
  s.mem.get (st.next+2)=some (.cells (ai (le i p.n++List.replicate (512-i) 0)) 233 false)) ?_ (n:=8) ⟨0,rfl,rfl,jf,rfl, ?_, ?_, ?_⟩
 ·rintro m vs s k ⟨i,hm,rfl,hk,AP,g1,g2,g3⟩ next
  by_cases hi:i<8
  ·have fw:(i:Int)<8:=by omega
   have e1:IntKind.i64.wrap (8*(i:Int))=((8*i:Nat):Int):=by rw[bD (by omega)];omega
   have e2:IntKind.i64.wrap ((i:Int)+1)=((i+1:Nat):Int):=by rw[bD (by omega)];omega
   have e3:∀s,aj .lss none true (I i) (.int .i64 8) s= .ok (.bool true) s:=fun s=>by rw[av,de];simp only[fw,aBV]
   have e4:∀s,aj .mul none true (.int .i64 8) (I i) s= .ok (I ((8*i:Nat):Int)) s:=fun s=>by rw[av,jQ,e1]
   have e5:∀s,aj .add none true (I i) (.int .i64 1) s= .ok (I ((i+1:Nat):Int)) s:=fun s=>by rw[av,cN,e2]
   simp only[aK,aL,e3,af,ag,aBr,fl,ah,az,g1,ar,aAT,aAQ,au,e4,Cq _ _ hi,M6,yP (show i<512 by omega),aH,g3,aS,e5];refine⟨⟨rfl,rfl,by simp[hJ];omega⟩,next (m-1) _ _ (by omega) ⟨i+1,by omega,rfl,hk.set _ (.inr (by omega)) (by omega),AP, ?_, ?_, ?_⟩⟩
   ·rw[ak _ _ _ _ (by omega)];exact g1
   ·rw[ak _ _ _ _ (by omega)];exact g2
   ·rw[ao]
    congr 2
    have e6:List.replicate (512-i) (0:UInt8)=0::List.replicate (512-(i+1)) 0:=by
     rw[show 512-i=(512-(i+1))+1 by omega,aDb]
    rw[e6,bH,bH];have:=uZ (ai (le i p.n)) (ai (List.replicate (512-(i+1)) 0)) (bN 0) (bN (UInt8.ofNat (p.n/256^i%256)));rw[bF,hJ]at this;simp only[aCF];show bt (ai (le i p.n)++bN 0::ai _) i [bN _]=_;rw[this];simp[le,ai]
  ·have fw:¬(i:Int)<8:=by omega
   have hi8:i=8:=by omega
   subst hi8
   have hb:ai (le 8 p.n++List.replicate (512-8) 0)=ai (le 8 p.n)++(bN 0::bN 0::bN 0::ai (List.replicate 501 0)):=by
    rw[bH];rfl
   have hA:(ai (le 8 p.n)).length=8:=by simp[hJ]
   rw[hb]at g3;have e3:∀s,aj .lss none true (I ((8:Nat):Int)) (.int .i64 8) s= .ok (.bool false) s:=fun s=>rfl;simp only[aK,aL,e3,af,ag,aAR,aBf]
   refine jU (fun vs s=>vs=[.ptr st.next 0, .ptr (st.next+1) 0, .ptr (st.next+2) 0]/\Kp [] st s/\s.next=st.next+3/\s.mem.get st.next=some (.cells [I p.n, .bool p.last,v] 200 false)/\s.mem.get (st.next+1)=some (.cells (zr 512) 233 false)/\
    s.mem.get (st.next+2)=some (.cells (ai (le 8 p.n)++(bN (if p.last=true then 1 else 0)::bN 0::bN 0::ai (List.replicate 501 0))) 233 false)) ?_ ?_
   ·intro k' FA;have e8:∀s,fK 512 1 (.ptr (st.next+2) 0) (.int .i64 8) s= .ok (.ptr (st.next+2) 8) s:=fun s=>rfl;simp only[fl,ah,af,az,g1,ar,aAT,aAS,aAQ,au,ag]
    by_cases hl:p.last=true
    ·simp only[hl,aBr,e8,af,aH,g3,aS];refine⟨⟨rfl,rfl,by simp[hJ]⟩,FA _ _ ⟨rfl,hk.set _ (.inr (by omega)) (by omega),AP, ?_, ?_, ?_⟩⟩
     ·rw[ak _ _ _ _ (by omega)];exact g1
     ·rw[ak _ _ _ _ (by omega)];exact g2
     ·rw[ao];have:=uZ (ai (le 8 p.n)) (bN 0::bN 0::ai (List.replicate 501 0)) (bN 0) (bN 1);rw[hA]at this;rw[aBb hl,<-this];rfl
    ·simp only[hl,aAR,aBf];exact FA _ _ ⟨rfl,hk,AP,g1,g2,by rw[aAZ hl];exact g3⟩
   ·rintro _ s ⟨rfl,hk,AP,g1,g2,g3⟩;have e9:∀s,fK 512 1 (.ptr (st.next+2) 0) (.int .i64 9) s= .ok (.ptr (st.next+2) 9) s:=fun s=>rfl;have PR:∀s,fK 512 1 (.ptr (st.next+2) 0) (.int .i64 10) s= .ok (.ptr (st.next+2) 10) s:=fun s=>rfl;have ZS:∀s,bP 512 1 (.ptr (st.next+2) 0) (some (.int .i64 11)) none s= .ok (.slice (st.next+2) 11 501 501 0) s:=fun s=>rfl;have hlen:=h.len p.data.length (by simp) (by omega);have eu1:∀s,dB (.toInt .u8) (I p.data.length) s= .ok (bN (UInt8.ofNat (p.data.length%256))) s:=fun s=>M6 _ _ _
    have eu2:∀s,aj .shr none true (I p.data.length) (.int .u64 8) s= .ok (I ((p.data.length/256:Nat):Int)) s:=fun s=>by
     have e:aj .shr none true (I p.data.length) (.int .u64 8) s= .ok (I ((p.data.length:Int).fdiv 256)) s:=rfl;rw[e,Int.fdiv_eq_ediv_of_nonneg _ (by omega)];rfl
    have eu3:∀s,dB (.toInt .u8) (I ((p.data.length/256:Nat):Int)) s= .ok (bN (UInt8.ofNat (p.data.length/256%256))) s:=fun s=>M6 _ _ _;generalize hfb:(if p.last=true then (1:UInt8)else 0)=fb at*;have en1:st.next≠st.next+2:=by omega
    simp only[aK,aL,bG,ah,af,az,g1,g3,ar,aS,aAT,aAS,aAQ,au,hlen,eu1,eu2,eu3,e9,PR,ZS,aH,ao,ak _ _ _ _ en1];have Uu:∀b:UInt8,(bN b).cK=[bN b]:=fun _=>rfl;have jS:∀b:UInt8,aX [bN b]=true:=fun _=>rfl
    have vq:ai p.bX=ai (le 8 p.n)++(bN fb::bN (UInt8.ofNat (p.data.length%256))::bN (UInt8.ofNat (p.data.length/256%256))::(ai p.data++ai (List.replicate (501-p.data.length) 0))):=by
     simp[Piece.bX,ai,hfb]
    generalize UInt8.ofNat (p.data.length%256)=b1 at*;generalize UInt8.ofNat (p.data.length/256%256)=b2 at*;have o1:=uZ (ai (le 8 p.n)++[bN fb]) (bN 0::ai (List.replicate 501 0)) (bN 0) (bN b1);have o2:=uZ (ai (le 8 p.n)++[bN fb,bN b1]) (ai (List.replicate 501 0)) (bN 0) (bN b2);have o3:=pq (ai (le 8 p.n)++[bN fb,bN b1,bN b2]) (ai (List.replicate 501 0)) (ai p.data);simp only[aBE,aBR,aBw,aAY,hA,aBt,aCu,Nat.reduceAdd]at o1 o2 o3;rw[Uu,Uu,o1,o2];have hl0:(ai (le 8 p.n)++bN fb::bN 0::bN 0::ai (List.replicate 501 0)).length=512:=by simp[hJ]
    have tH:(ai (le 8 p.n)++bN fb::bN b1::bN 0::ai (List.replicate 501 0)).length=512:=by simp[hJ]
    have GJ:(ai (le 8 p.n)++bN fb::bN b1::bN b2::ai (List.replicate 501 0)).length=512:=by simp[hJ]
    refine⟨⟨rfl,rfl,by omega⟩,⟨rfl,rfl,by omega⟩,⟨trivial,⟨trivial,trivial⟩,trivial⟩,trivial, ?_⟩;simp only[set_set]
    have kN:Sl (St.set s (st.next+2) (.cells (ai (le 8 p.n)++bN fb::bN b1::bN b2::ai (List.replicate 501 0)) 233 false)) [] v 1 (ai p.data):=by
     exact(h.ef (Y:=[]) (by simp)).mono (hk.set _ (.inr (by omega)) (by omega))
    obtain⟨s4,c1,c2,c3,c4⟩:=NR (n:=501) (cap:=501) (off:=11) kN (ao _ _ _) (by simp;omega) (by rw[GJ];simp;omega) (bE _);rw[c1,aT]
    have abS:bt (ai (le 8 p.n)++bN fb::bN b1::bN b2::ai (List.replicate 501 0)) 11 (ai p.data)=ai p.bX:=by
     have e0:(ai (List.replicate 501 0)).drop (ai p.data).length=ai (List.replicate (501-p.data.length) 0):=by
      unfold ai;rw[<-aCt,aDc,aCa]
     rw[vq,o3,e0]
    rw[abS]at c3;have JA:(ai p.bX).length=512:=by simp[Piece.pS p hd]
    have g4:s4.mem.get (st.next+1)=some (.cells (zr 512) 233 false):=by rw[c4 _ (by omega),ak _ _ _ _ (by omega)];exact g2
    have ht:List.take 512 (ai p.bX)=ai p.bX:=aBa (by omega);have hz5:(zr 512).length=512:=aBz;have kg:bt (zr 512) 0 (ai p.bX)=ai p.bX:=dV _ _ (by rw[hz5];exact JA);have hn4:s4.next=st.next+3:=c2.trans AP;simp only[qX,c3,g4,ar,aS,vd,aBx,aAT,ht,aU,JA,bE,hz5,kg,ao,af];refine⟨⟨trivial,trivial⟩,trivial,aAU _,⟨trivial,trivial,aAU _⟩,aAU _,trivial, ?_⟩;have qK:Kp [] st s4:=⟨by omega,fun q h1 h2=> ?_,fun hf q hq=> ?_⟩
    ·exact qK.set _ (.inr (by omega)) (by omega)
    ·rw[c4 q (by omega),ak _ _ _ _ (by omega)];exact hk.keep q h1 h2
    ·rw[c4 q (by omega),ak _ _ _ _ (by omega)];exact hk.fresh hf q (by omega)
 ·rw[aW _ _ _ (by simp;omega),aW _ _ _ (by simp)];exact aq _ _
 ·rw[aW _ _ _ (by simp)];exact aq _ _
 ·have:(St.new (St.new st (.cells [I p.n, .bool p.last,v] 200 false)) (.cells (zr 512) 233 false)).next=st.next+2:=by simp
  rw[<-this];refine(aq _ _).trans ?_;rw[nb];rfl
end
theorem Wg {k n i:Nat}(h:i<k):(le k n)[i]?=some (UInt8.ofNat (n/256^i%256)):=by
 induction k with
 |zero=>omega
 |succ k ih=>
  simp only[le]
  by_cases hi:i<k
  ·rw[aCv (by rw[hJ];exact hi)];exact ih hi
  ·have:i=k:=by omega
   subst this;rw[aCi (by rw[hJ];exact aAU _),hJ,Nat.sub_self];rfl
theorem Hg {p:Piece}{i:Nat}(h:i<8):(ai p.bX)[i]?=some (bN (UInt8.ofNat (p.n/256^i%256))):=by
 unfold Piece.bX ai;rw[aBN,aBE,aBE,aCv (by rw[hJ];exact h),Wg h];rfl
theorem En (p:Piece):(ai p.bX)[8]?=some (bN (if p.last=true then 1 else 0)):=by
 unfold Piece.bX ai;rw[aBN,aBE,aBE,aCi (by rw[hJ];exact aAU _),hJ];rfl
theorem Np (p:Piece):(ai p.bX)[9]?=some (bN (UInt8.ofNat (p.data.length%256))):=by
 unfold Piece.bX ai;rw[aBN,aBE,aBE,aCi (by rw[hJ];omega),hJ];rfl
theorem Kr (p:Piece):(ai p.bX)[10]?=some (bN (UInt8.ofNat (p.data.length/256%256))):=by
 unfold Piece.bX ai;rw[aBN,aBE,aBE,aCi (by rw[hJ];omega),hJ];rfl
theorem Em (p:Piece):((ai p.bX).drop 11).take p.data.length=ai p.data:=by
 have e:ai p.bX=(ai (le 8 p.n)++ai [if p.last=true then 1 else 0,UInt8.ofNat (p.data.length%256),UInt8.ofNat (p.data.length/256%256)])++(ai p.data++ai (List.replicate (501-p.data.length) 0)):=by
  simp only[Piece.bX,bH,aBE]
 have hl:(ai (le 8 p.n)++ai [if p.last=true then (1:UInt8)else 0,UInt8.ofNat (p.data.length%256),UInt8.ofNat (p.data.length/256%256)]).length=11:=by rw[aAY,bF,bF,hJ];rfl
 rw[e,List.drop_append,aBC (by omega),hl,Nat.sub_self,aBx,aBw,aCM,aBa (by simp)];simp
theorem RG:iN=(Piece.mk 0 false []).bX:=by decide+kernel
theorem IG (k:Nat)(h:k<9223372036854775808):IntKind.i64.wrap (k:Int)=(k:Int):=bD (by omega)
theorem Ua (a m:Nat)(k:Nat)(h:a<2^k)(hs:a+m*2^k<9223372036854775808):jz .or .i64 (a:Int) ((m*2^k:Nat):Int)=some ((a+m*2^k:Nat):Int):=by
 have e:jz .or .i64 (a:Int) ((m*2^k:Nat):Int)=some (IntKind.i64.wrap ((BitVec.ofInt 64 (a:Int)|||BitVec.ofInt 64 ((m*2^k:Nat):Int)).toNat:Int)):=rfl;rw[e,BitVec.ofInt_natCast,BitVec.ofInt_natCast,BitVec.toNat_or,BitVec.toNat_ofNat,BitVec.toNat_ofNat,aCN (by omega),aCN (by omega),Nat.or_comm,aCT m,<-Nat.two_pow_add_eq_or_of_lt h,IG _ (by rw[aCT];omega),aCT,aDF]
theorem NT (a m k:Nat)(h:a<2^k)(hs:a+m*2^k<9223372036854775808)(d:Option jL)(c:Bool)(st:St):aj .or d c (I a) (I ((m*2^k:Nat):Int)) st= .ok (I ((a+m*2^k:Nat):Int)) st:=by
 have e:aj .or d c (I a) (I ((m*2^k:Nat):Int)) st=(match jz .or .i64 (a:Int) ((m*2^k:Nat):Int)with|some r=> .ok (.int .i64 r) st|none=> .bad):=rfl;rw[e,Ua a m k h hs]
theorem NS (a m k:Nat)(h:a<2^k)(hs:a+m*2^k<18446744073709551616)(d:Option jL)(c:Bool)(st:St):aj .or d c (.int .u64 a) (.int .u64 ((m*2^k:Nat):Int)) st= .ok (.int .u64 ((a+m*2^k:Nat):Int)) st:=by
 have e:aj .or d c (.int .u64 a) (.int .u64 ((m*2^k:Nat):Int)) st=(match jz .or .u64 (a:Int) ((m*2^k:Nat):Int)with|some r=> .ok (.int .u64 r) st|none=> .bad):=rfl;rw[e,aaG a m k h hs]
theorem KF (a k:Nat)(hk:k<=64)(hs:a*2^k<18446744073709551616)(d:Option jL)(c:Bool)(st:St):aj .shl d c (.int .u64 a) (I k) st= .ok (.int .u64 ((a*2^k:Nat):Int)) st:=by
 have e:aj .shl d c (.int .u64 a) (I k) st=if (k:Int)<0 then .bad else .ok (.int .u64 (IntKind.u64.wrap ((a:Int)*2^(min (k:Int).toNat 64)))) st:=rfl
 rw[e,aAZ (by omega),aDz,aBH hk];have e2:(a:Int)*2^k=((a*2^k:Nat):Int):=by simp
 rw[e2,sh _ hs]
theorem D9 (n:Nat)(h:n<9223372036854775808)(k:IntKind)(st:St):dB (.toInt .i64) (.int k (n:Int)) st= .ok (I n) st:=by
 show OR.ok (.int .i64 (IntKind.i64.wrap n)) st=_;rw[IG n h]
theorem aak (n:Nat)(h:n<18446744073709551616)(k:IntKind)(st:St):dB (.toInt .u64) (.int k (n:Int)) st= .ok (.int .u64 n) st:=by
 show OR.ok (.int .u64 (IntKind.u64.wrap n)) st=_;rw[sh n h]
theorem KG (a b:List UInt8)(n:Nat)(h1:a.length=n)(h2:b.length=n)(c:Bool)(st:St):aj .neq (some (.bytes n)) c (.agg (ai a)) (.agg (ai b)) st= .ok (.bool (!(a==b))) st:=by
 rw[uX];have e:mh (.bytes n) (.agg (ai a)) (.agg (ai b))=(match GG (ai a),GG (ai b)with|some a,some b=>bC (decide (a.length=n)&&decide (b.length=n)) (some (a==b)) none|_,_=>none):=rfl;have e1:GG (ai a)=some a:=Cf a;have e2:GG (ai b)=some b:=Cf b;rw[e,e1,e2];simp[h1,h2,aM]
section
variable {st st':St}
def Piece.ok (p:Piece):Prop:=p.n<=4611686018427387904/\p.data.length<=501/\(p.n=0->p.data=[]/\p.last=false)/\(p.n≠0->p.last=false->p.data.length=501)
def YR (p:Piece)(st:St)(x:CV)(st':St):Prop:=∃v,x= .agg [I p.n, .bool p.last,v]/\Made 1 5 (ai p.data) st v st'
theorem Hz {p:Piece}(hf:cT st)(hp:p.ok):R 152 [.agg (ai p.bX)] st fun x st'=>∃y,x= .tuple [y, .bool (decide (p.n≠0))]/\YR p st y st':=by
 obtain⟨Zs,HY,Zr,hp4⟩:=hp;refine bO ?_;rw[ahu];have hlen:=Piece.pS p HY;have tk:(ai p.bX).length=512:=by simp[hlen]
 have e9:∀s,fK 512 1 (.ptr st.next 0) (.int .i64 9) s= .ok (.ptr st.next 9) s:=fun s=>rfl;have PR:∀s,fK 512 1 (.ptr st.next 0) (.int .i64 10) s= .ok (.ptr st.next 10) s:=fun s=>rfl
 have f9:∀s,dB (.toInt .i64) (bN (UInt8.ofNat (p.data.length%256))) s= .ok (I ((p.data.length%256:Nat):Int)) s:=fun s=>by
  rw[ji _ (by omega),D9 _ (by omega)]
 have f10:∀s,dB (.toInt .i64) (bN (UInt8.ofNat (p.data.length/256%256))) s= .ok (I ((p.data.length/256%256:Nat):Int)) s:=fun s=>by
  rw[ji _ (by omega),D9 _ (by omega)]
 have f11:∀s,aj .shl none true (I ((p.data.length/256%256:Nat):Int)) (.int .u64 8) s= .ok (I ((p.data.length/256%256*2^8:Nat):Int)) s:=fun s=>by
  have e:aj .shl none true (I ((p.data.length/256%256:Nat):Int)) (.int .u64 8) s= .ok (I (IntKind.i64.wrap (((p.data.length/256%256:Nat):Int)*2^8))) s:=rfl;rw[e,bD (by omega)];simp
 have f12:∀s,aj .or none false (I ((p.data.length%256:Nat):Int)) (I ((p.data.length/256%256*2^8:Nat):Int)) s= .ok (I p.data.length) s:=fun s=>by
  rw[NT _ _ _ (by omega) (by omega)];congr 3;omega
 have hx:(CV.agg (ai p.bX)).isAny=false:=rfl;have mV:Kp [] st (St.new (St.new st (.cells (ai p.bX) 233 false)) (.cells [.int .i64 0, .bool false, .ae] 200 false)):=((Kp.refl [] st).new _).new _
 have g1:(St.new (St.new st (.cells (ai p.bX) 233 false)) (.cells [.int .i64 0, .bool false, .ae] 200 false)).mem.get st.next=some (.cells (ai p.bX) 233 false):=by
  rw[aW _ _ _ (by simp)];exact aq _ _
 have g2:(St.new (St.new st (.cells (ai p.bX) 233 false)) (.cells [.int .i64 0, .bool false, .ae] 200 false)).mem.get (st.next+1)=some (.cells [.int .i64 0, .bool false, .ae] 200 false):=aq (St.new st (.cells (ai p.bX) 233 false)) _;simp only[cr,cM,aT,aU];refine⟨rfl, ?_⟩;simp only[bG,e9,PR,af,az,g1,ar,Np,Kr,au,f9,f10,f11,f12];refine⟨⟨trivial,trivial,trivial⟩,trivial, ?_⟩;show dn _ _ _;simp only[aK,aL,vg];refine bM (fun m vs s=>∃i,m+i=8/\vs=[.ptr st.next 0, .ptr (st.next+1) 0, .int .u64 ((p.n%256^i:Nat):Int),I p.data.length,I i]/\s=(St.new (St.new st (.cells (ai p.bX) 233 false)) (.cells [.int .i64 0, .bool false, .ae] 200 false))) ?_ (n:=8) ⟨0,rfl,by simp[Nat.mod_one],rfl⟩;rintro m vs s k ⟨i,hm,rfl,rfl⟩ next;generalize hS:(St.new (St.new st (.cells (ai p.bX) 233 false)) (.cells [.int .i64 0, .bool false, .ae] 200 false))=S at*;have hSn:S.next=st.next+2:=by rw[<-hS];rfl
 by_cases hi:i<8
 ·have fw:(i:Int)<8:=by omega
  have a1:aj .lss none true (I i) (.int .i64 8) S= .ok (.bool true) S:=by rw[av,de];simp only[fw,aBV]
  have a2:aj .mul none true (.int .i64 8) (I i) S= .ok (I ((8*i:Nat):Int)) S:=by rw[av,jQ,bD (by omega)];rfl
  have a3:aj .add none true (I i) (.int .i64 1) S= .ok (I ((i+1:Nat):Int)) S:=by rw[av,cN,bD (by omega)];rfl
  have a4:dB (.toInt .u64) (bN (UInt8.ofNat (p.n/256^i%256))) S= .ok (.int .u64 ((p.n/256^i%256:Nat):Int)) S:=by rw[ji _ (by omega),aak _ (by omega)]
  have Sz:(2:Nat)^(8*i)=256^i:=by rw[Nat.pow_mul]
  have avl:256^i<=256^7:=Nat.pow_le_pow_right (by omega) (by omega)
  have hb:p.n/256^i%256*256^i<=p.n:=by
   have h1:p.n/256^i%256<=p.n/256^i:=Nat.mod_le _ _;exact aCq (aBM _ h1) (Nat.div_mul_le_self _ _)
  have SD:p.n%256^i<256^i:=Nat.mod_lt _ (Nat.pow_pos (by omega))
  have kh:p.n%256^i+p.n/256^i%256*256^i=p.n%256^(i+1):=by
   rw[aDy,Nat.mod_mul,aCT (256^i)]
  have a5:aj .shl none false (.int .u64 ((p.n/256^i%256:Nat):Int)) (I ((8*i:Nat):Int)) S= .ok (.int .u64 ((p.n/256^i%256*2^(8*i):Nat):Int)) S:=KF _ _ (by omega) (by rw[Sz];omega) _ _ _
  have a6:aj .or none false (.int .u64 ((p.n%256^i:Nat):Int)) (.int .u64 ((p.n/256^i%256*2^(8*i):Nat):Int)) S= .ok (.int .u64 ((p.n%256^(i+1):Nat):Int)) S:=by
   rw[NS _ _ _ (by rw[Sz];exact SD) (by rw[Sz,kh];have:=Nat.mod_le p.n (256^(i+1));omega),Sz,kh]
  simp only[aK,aL,a1,af,ag,aBr,yP (show i<512 by omega),aAT,aCF,az,g1,ar,Hg hi,au,a4,a2,a5,a6,a3];exact next (m-1) _ _ (by omega) ⟨i+1,by omega,rfl,rfl⟩
 ·have hi8:i=8:=by omega
  subst hi8;have QL:p.n%256^8=p.n:=aCN (by omega);rw[QL];have a1:∀s,aj .lss none true (I ((8:Nat):Int)) (.int .i64 8) s= .ok (.bool false) s:=fun s=>rfl;simp only[aK,aL,a1,af,ag,aAR,aBf]
  by_cases h0:p.n=0
  ·obtain⟨d0,l0⟩:=Zr h0;have b1:∀s,aj .lss none true (.int .u64 ((p.n:Nat):Int)) (.int .u64 1) s= .ok (.bool true) s:=fun s=>by rw[h0];rfl
   have UB:p=⟨0,false,[]⟩:=by cases p;simp_all
   simp only[b1,af,aG,cc,aF,aBr,aBm,aAR,aBf,ag,dO,kJ,aH,g2,aS,aU,qX,ao,ar,vd];refine⟨⟨rfl,rfl,by decide⟩,by decide, .agg [I p.n, .bool p.last, .ae], ?_, .ae,rfl,[],mV.set _ (.inr (by omega)) (by omega), .inl ⟨rfl,by rw[d0];rfl,rfl⟩,by simp⟩;rw[h0,l0];rfl
  ·have b1:∀s,aj .lss none true (.int .u64 ((p.n:Nat):Int)) (.int .u64 1) s= .ok (.bool false) s:=fun s=>by
    rw[av,de,aAW (by omega)]
   have b2:∀s,aj .gtr none true (.int .u64 ((p.n:Nat):Int)) (.int .u64 4611686018427387904) s= .ok (.bool false) s:=fun s=>by
    rw[av,dj,aAW (by omega)]
   have b3:∀s,aj .gtr none true (I p.data.length) (.int .i64 501) s= .ok (.bool false) s:=fun s=>by
    rw[av,dj,aAW (by omega)]
   have b4:∀s,dB (.toInt .i64) (.int .u64 ((p.n:Nat):Int)) s= .ok (I p.n) s:=fun s=>D9 _ (by omega) _ _;have e8:∀s,fK 512 1 (.ptr st.next 0) (.int .i64 8) s= .ok (.ptr st.next 8) s:=fun s=>rfl;generalize X6:St.new (St.skip S) (.cells [.int .i64 0, .bool false, .ae] 200 false)=S3;have adF:S3.next=st.next+4:=by rw[<-X6];simp;omega
   have jf:Kp [] st S3:=by rw[<-X6];exact mV.skip.new _
   have tG:S3.mem.get S.next=none:=by rw[<-X6,aW _ _ _ (by simp)];exact mV.fresh hf _ (aAU _)
   have hpc:S3.mem.get (st.next+3)=some (.cells [.int .i64 0, .bool false, .ae] 200 false):=by
    have:st.next+3=(St.skip S).next:=by simp;omega
    rw[this,<-X6];exact aq _ _
   have nH:S3.mem.get st.next=some (.cells (ai p.bX) 233 false):=by rw[<-X6,aW _ _ _ (by simp;omega)];exact g1
   have Ir:S3.mem.get (st.next+1)=some (.cells [.int .i64 0, .bool false, .ae] 200 false):=by rw[<-X6,aW _ _ _ (by simp;omega)];exact g2
   have b8:∀s,aj .eql (some .int) true (bN (if p.last=true then 1 else 0)) (.int .u8 1) s= .ok (.bool p.last) s:=fun s=>by cases p.last<;>rfl
   have ake:(St.skip S).next=st.next+3:=by simp;omega
   simp only[b1,af,aG,bh,aF,aBr,aBk,aAR,aBf,ag,b2,b3,bG,b4,e8,az,nH,ar,En,au,b8,hSn,ake];rw[hSn]at tG;have zs:fY ([]:List tn) (cO 0 [CV.int .u8 0])=some []:=rfl;rw[jb tG zs,aT]
   have c1:∀s,aj .add none true (.int .i64 11) (I p.data.length) s= .ok (I ((11+p.data.length:Nat):Int)) s:=fun s=>by
    rw[av,cN,bD (by omega)];rfl
   have c2:∀s,bP 512 1 (.ptr st.next 0) (some (.int .i64 11)) (some (I ((11+p.data.length:Nat):Int))) s= .ok (.slice st.next 11 p.data.length 501 0) s:=fun s=>by
    have:=pZ (n:=512) (b:=st.next) (l:=11) (h:=11+p.data.length) (by omega) (by omega) (by omega) s;rw[aCX]at this;exact this
   have qK:Kp [] st (St.set S3 (st.next+2) (.cells [] 5 false)):=jf.set _ (.inr (by omega)) (by omega);have awJ:(St.set S3 (st.next+2) (.cells [] 5 false)).next=st.next+4:=adF;have JL:(St.set S3 (st.next+2) (.cells [] 5 false)).mem.get st.next=some (.cells (ai p.bX) 233 false):=by rw[ak _ _ _ _ (by omega)];exact nH
   have Lp:(St.set S3 (st.next+2) (.cells [] 5 false)).mem.get (st.next+1)=some (.cells [.int .i64 0, .bool false, .ae] 200 false):=by rw[ak _ _ _ _ (by omega)];exact Ir
   have Q0:(St.set S3 (st.next+2) (.cells [] 5 false)).mem.get (st.next+3)=some (.cells [.int .i64 0, .bool false, .ae] 200 false):=by rw[ak _ _ _ _ (by omega)];exact hpc
   have ho4:Own (St.set S3 (st.next+2) (.cells [] 5 false)) (.slice (st.next+2) 0 0 0 0) 1 5 [] [st.next+2]:= .inr (.inl ⟨_,_,_,_,rfl,rfl,rfl,ao _ _ _⟩);generalize St.set S3 (st.next+2) (.cells [] 5 false)=S4 at*;have kN:Sl S4 [] (.slice st.next 11 p.data.length 501 0) 1 (ai p.data):= .inr ⟨st.next,11,p.data.length,501,0,rfl,by simp,⟨HY, .inl rfl⟩, .inr ⟨by simp,by omega,_,_,_,JL,by rw[tk];omega,by rw[aCF];exact Em p⟩⟩;have c3:=(kN.P8 (by omega) p.data.length (by simp)).1
   have c4:dg .slice 1 [(.int .u8 0)] (.slice st.next 11 p.data.length 501 0) S4=some (p.data.length,ai p.data):=by
    have e:dg .slice 1 [(.int .u8 0)] (.slice st.next 11 p.data.length 501 0) S4=(match dH 1 p.data.length (.slice st.next 11 p.data.length 501 0) S4 with|some s=>some (p.data.length,s)|none=>none):=rfl;rw[e,c3]
   obtain⟨v',S7,F',d1,d2,d3,d4⟩:=ho4.append (n:=p.data.length) (bytes:=1) (T:=ai p.data) (by omega) (by simp) (bE _) (by simp;omega) (by simp;omega);rw[aBw]at d2;obtain⟨o1,o2⟩:=d2.cq
   have qN:∀b∈F',st.next+2<=b/\b<S7.next/\b≠st.next+3:=fun b hb=>by
    obtain⟨h1,h2⟩:=d4 b hb;simp at h1;omega
   have o3:v'.isAny=false:=(d2.sl (X:=[]) fun b hb=>⟨by simp,(qN b hb).2.1⟩).bu.1;have k7:∀b,b<st.next+4->b≠st.next+2->S7.mem.get b=S4.mem.get b:=fun b h1 h2=>d3.keep b (by omega) (by simpa using h2);have hn7:st.next+4<=S7.next:=by have:=d3.next;omega
   have hk7:Kp [] st S7:=qK.trans d3 (by simp);have Lq:=(k7 st.next (by omega) (by omega)).trans JL;have g27:=(k7 (st.next+1) (by omega) (by omega)).trans Lp;have g37:=(k7 (st.next+3) (by omega) (by omega)).trans Q0
   have mP:bJ [.int .i64 0, .bool false, .ae] [(0,1,I p.n),(1,1, .bool p.last),(2,1,v')] S7= .ok (.agg [I p.n, .bool p.last,v']) S7:=by
    rw[dO];simp[cI,bt,o2,o3]
   simp only[c1,af,c2,c4,d1,aT,mP,jq g37,jq Q0,aH,g37,aS,aU,JL,Lq,az,ar,En,au];have kg:bt [.int .i64 0, .bool false, .ae] 0 [I p.n, .bool p.last,v']=[I p.n, .bool p.last,v']:=dV _ _ rfl;rw[kg];refine⟨⟨rfl,by simp[o1],by decide⟩,⟨⟨trivial,trivial,trivial⟩,⟨trivial,trivial,trivial⟩,trivial⟩,⟨trivial,trivial⟩, ?_⟩;have Xz:Kp [] st (St.set S7 (st.next+3) (.cells [I p.n, .bool p.last,v'] 200 false)):=hk7.set _ (.inr (by omega)) (by omega);have Vh:(St.set S7 (st.next+3) (.cells [I p.n, .bool p.last,v'] 200 false)).mem.get st.next=some (.cells (ai p.bX) 233 false):=by rw[ak _ _ _ _ (by omega)];exact Lq
   have ZQ:(St.set S7 (st.next+3) (.cells [I p.n, .bool p.last,v'] 200 false)).mem.get (st.next+1)=some (.cells [.int .i64 0, .bool false, .ae] 200 false):=by rw[ak _ _ _ _ (by omega)];exact g27
   have ZP:(St.set S7 (st.next+3) (.cells [I p.n, .bool p.last,v'] 200 false)).mem.get (st.next+3)=some (.cells [I p.n, .bool p.last,v'] 200 false):=ao _ _ _;have d9:Own (St.set S7 (st.next+3) (.cells [I p.n, .bool p.last,v'] 200 false)) v' 1 5 (ai p.data) F':=d2.mono fun b hb=>ak _ _ _ _ (qN b hb).2.2;have hn9:(St.set S7 (st.next+3) (.cells [I p.n, .bool p.last,v'] 200 false)).next=S7.next:=rfl;generalize St.set S7 (st.next+3) (.cells [I p.n, .bool p.last,v'] 200 false)=S9 at*;have K1:∀s:St,s.mem.get (st.next+3)=some (.cells [I p.n, .bool p.last,v'] 200 false)->aI 3 (.ptr (st.next+3) 0) s= .ok (.agg [I p.n, .bool p.last,v']) s:=fun s hs=>aO hs rfl;have Fu:∀s:St,s.mem.get st.next=some (.cells (ai p.bX) 233 false)->aI 512 (.ptr st.next 0) s= .ok (.agg (ai p.bX)) s:=fun s hs=>aO hs tk;rw[K1 S9 ZP,af];refine(Bb (p:=p) (d9.sl (X:=[]) fun b hb=>⟨by simp,by have:=(qN b hb).2.1;omega⟩) HY (by omega)).mono ?_;rintro x LS ⟨rfl,oN⟩;have Yp:=(oN.keep st.next (by omega) (by simp)).trans Vh;have Yo:=(oN.keep (st.next+1) (by omega) (by simp)).trans ZQ;have Iq:=(oN.keep (st.next+3) (by omega) (by simp)).trans ZP
   have q1:aj .neq (some (.bytes 512)) false (.agg (ai p.bX)) (.agg (ai p.bX)) LS= .ok (.bool false) LS:=by
    rw[KG _ _ _ hlen hlen];simp
   have q2:aj .neq (some .int) true (I p.data.length) (.int .i64 501) LS= .ok (.bool (!decide (p.data.length=501))) LS:=by
    rw[av,fj];congr 3;simp only[aBu];omega
   simp only[Fu LS Yp,Fu S9 Vh,af,q1,aG,bh,cc,aBk,aAR,aBr,aBf,ah,az,Iq,ar,aAT,aAS,aAQ,au,du];have q3:(!p.last)=true->p.data.length=501:=fun h=>hp4 h0 (by simpa using h)
   have q4:us (bg (some !p.last) LS (.ok (I p.data.length) LS)) fun qL=>us (bg (some !p.last) LS (aj .neq (some .int) true qL (.int .i64 501) LS)) fun vV=>us (bk (.bool !p.last) vV (.bool false) LS) fun uC=>uC= .bool false:=by
    cases hl:p.last with
    |true=>simp
    |false=>
     have:=q3 (by rw[hl];rfl);simp only[aBk,bh,af,q2,aF,aBr];rw[this];rfl
   refine kO q4 fun _ h1=>kO h1 fun _ h2=>kO h2 fun _ h3=> ?_;subst h3;simp only[aF,aAR,aBf,af,ag,K1 LS Iq,Yo,aS,aU,kg];refine⟨⟨trivial,⟨trivial,trivial⟩,trivial,trivial⟩,trivial,⟨rfl,by simp[o1],by decide⟩, ?_⟩;rw[aO (n:=3) (ao LS (st.next+1) (.cells [I p.n, .bool p.last,v'] 200 false)) rfl,af];have acM:Kp [] st LS:=Xz.trans oN (by simp);have avz:=oN.next;refine⟨.agg [I p.n, .bool p.last,v'],by rw[aBc h0],v',rfl,F',acM.set _ (.inr (by omega)) (by omega),d9.mono fun b hb=> ?_,fun b hb=>⟨by have:=(qN b hb).1;omega,by have:=(qN b hb).2.1;simp;omega⟩⟩;obtain⟨h1,h2,h3⟩:=qN b hb;rw[ak _ _ _ _ (by omega)];exact oN.keep b (by omega) (by simp)
end
section
variable {st st':St}
structure RingM where
 first:Nat
 count:Nat
 base:Nat
 last:Nat
 top:Nat
def fF (st:St)(r a:Nat)(m:RingM):Prop:=r<st.next/\st.mem.get r=some (.cells [.ptr a 0,I m.first,I m.count,I m.base,I m.last,I m.top] 198 false)
theorem fF.keep {r a:Nat}{m:RingM}{X:List Nat}(h:fF st r a m)(hk:Kp X st st')(hx:r∉X):fF st' r a m:=⟨aBs h.1 hk.next,by rw[hk.keep r h.1 hx];exact h.2⟩
def RingM.place (m:RingM)(n:Nat):Nat:=m.first+n%m.count
theorem yK {r a:Nat}{m:RingM}(h:fF st r a m)(h0:0<m.count)(hs:m.first+m.count<=1000000){n:Nat}(hn:n<=9000000000000000000):R 153 [.ptr r 0,I n] st fun v st'=>v=I (m.place n)/\st'=st:=by
 obtain⟨h1,h2⟩:=h;refine bO ?_;rw[aht];have e1:¬((m.count:Int)=0):=by omega
 have e2:IntKind.i64.wrap ((m.first:Int)+Int.tmod n m.count)=((m.place n:Nat):Int):=by
  have hm:n%m.count<m.count:=Nat.mod_lt _ h0;have:Int.tmod (n:Int) m.count=((n%m.count:Nat):Int):=by rw[Int.tmod_eq_emod_of_nonneg (by omega)];rfl
  rw[this];unfold RingM.place;rw[bD (by omega)];omega
 have e3:¬m.count=0:=by omega
 simp[h2,e1,e2,e3]
theorem wb {r a:Nat}{m:RingM}{F:List Nat}{D:aV}(h:fF st r a m)(hd:dt st a F D):R 171 [.ptr r 0] st fun v st'=>v=I (if D.dead=true then 20 else 0)/\st'=st:=by
 obtain⟨h1,h2⟩:=h;refine bO ?_;rw[ahi];simp[fH,h2];refine(Tq hd).same ?_;cases D.dead<;>simp
theorem Ci {r a:Nat}{m:RingM}(h:fF st r a m):R 173 [.ptr r 0] st fun v st'=>v= .bool (decide (m.last<m.top))/\st'=st:=by
 obtain⟨h1,h2⟩:=h;refine bO ?_;rw[ahg];simp[h2]
theorem M5 {r a:Nat}{m:RingM}(h:fF st r a m):R 74 [.ptr r 0] st fun v st'=>v=I m.top/\st'=st:=by
 obtain⟨h1,h2⟩:=h;refine bO ?_;rw[w74];simp[fH,h2]
def RingM.room (m:RingM):Int:=if m.last<m.top then 0 else (m.count:Int)-((m.last:Int)-m.base)
theorem IX {r a:Nat}{m:RingM}(h:fF st r a m)(h1:m.count<=1000000)(h2:m.base<=4611686018427387904)(h3:m.last<=4611686018427387904):R 174 [.ptr r 0] st fun v st'=>v=I m.room/\st'=st:=by
 have h':=h;obtain⟨g1,g2⟩:=h;refine bO ?_;rw[ahf];simp;refine(Ci h').same ?_
 by_cases ht:m.last<m.top
 ·simp[ht,RingM.room]
 ·have e1:IntKind.i64.wrap ((m.last:Int)-m.base)=(m.last:Int)-m.base:=bD (by omega);have e2:IntKind.i64.wrap ((m.count:Int)-((m.last:Int)-m.base))=(m.count:Int)-((m.last:Int)-m.base):=bD (by omega);simp[ht,g2,RingM.room,e1,e2]
def bp (n:Nat):Nat:=if n=0 then 1 else (n-1)/501+1
theorem Bi {n:Nat}(hn:n<=1000000000):R 172 [I n] st fun v st'=>v=I (bp n)/\st'=st:=by
 refine bO ?_;rw[ahh];have e0:¬(n:Int)<0:=by omega
 by_cases h0:n=0
 ·simp[h0,bp]
 ·have e1:IntKind.i64.wrap ((n:Int)-1)=((n-1:Nat):Int):=by rw[bD (by omega)];omega
  have e2:IntKind.i64.wrap (Int.tdiv ((n-1:Nat):Int) 501)=(((n-1)/501:Nat):Int):=by
   have:Int.tdiv ((n-1:Nat):Int) 501=(((n-1)/501:Nat):Int):=rfl;rw[this,bD (by omega)]
  have e3:IntKind.i64.wrap ((((n-1)/501:Nat):Int)+1)=((bp n:Nat):Int):=by
   rw[bD (by omega)];unfold bp;rw[aAZ h0];omega
  have e4:¬(n:Int)=0:=by omega
  simp only[av,de,cB,dJ,NQ,cN,af,ag,e0,e4,aCy,aAR,aBf,e1,MX,e2,e3];simp
theorem RD {r a:Nat}{m:RingM}{F:List Nat}{D:aV}(h:fF st r a m)(hd:dt st a F D)(hw:D.waits.length<=1000000000):R 132 [.ptr r 0] st fun v st'=>v=I (if D.flush.1=0 then 0 else 20)/\rX a F st D.flush.2 st':=by
 have h':=h;obtain⟨h1,h2⟩:=h;refine bO ?_;rw[ahL];refine(wb h' hd).same ?_
 by_cases tf:D.dead=true
 ·have e:D.flush=(20,D):=by simp[aV.flush,tf]
  simp[tf,e];exact⟨Kp.refl _ _,F,hd,fun b hb=> .inl hb⟩
 ·simp[tf,fH,h2];refine(vF hd hw).mono ?_;rintro _ s ⟨rfl,ht⟩
  by_cases h0:D.flush.1=0<;>simp[h0,ht]
theorem rX.refl {a:Nat}{F:List Nat}{D:aV}(hd:dt st a F D):rX a F st D st:=⟨Kp.refl _ _,F,hd,fun b hb=> .inl hb⟩
theorem Es {r a:Nat}{m:RingM}{F:List Nat}{D:aV}{p:Piece}{at_:Nat}(hf:cT st)(h:fF st r a m)(hd:dt st a F D)(hr:r∉F)(tf:D.dead=false)(h0:0<m.count)(hs:m.first+m.count<=1000000)
 (nR:at_<D.ay.length) (hp:p.ok) (hc:D.cur at_=p.bX):R 114 [.ptr r 0,I at_] st fun x st'=>∃y,x= .tuple [y, .bool (decide (p.n≠0/\m.place p.n=at_)),I 0]/\YR p st y st':=by
 have h':=h;obtain⟨h1,h2⟩:=h;refine bO ?_;rw[ahY];have oV:Kp [] st (St.new st (.cells [.int .i64 0, .bool false, .ae] 200 false)):=(Kp.refl [] st).new _;have g1:(St.new st (.cells [.int .i64 0, .bool false, .ae] 200 false)).mem.get st.next=some (.cells [.int .i64 0, .bool false, .ae] 200 false):=aq _ _;have g2:=(oV.keep r h1 (by simp)).trans h2;have QS:=hd.keep oV (by simp);have Dk:(St.new st (.cells [.int .i64 0, .bool false, .ae] 200 false)).next=st.next+1:=rfl;simp only[cM,aT];generalize St.new st (.cells [.int .i64 0, .bool false, .ae] 200 false)=S1 at*;simp[fH,g2];refine(xU QS at_).mono ?_;intro x S2 hx
 have er:D.read at_=(0,p.bX):=by
  simp[aV.read,tf,hc,Int.not_le.mpr (show(at_:Int)<D.ay.length by omega)]
 rw[er,aBb rfl]at hx;obtain⟨mV,hl,b,rfl,g3,b1,b2⟩:=hx;have awK:=mV.next;have GH:ow 512 (.slice b 0 512 512 1) S2= .ok (.ptr b 0) S2:=rfl;have Mc:(ai p.bX).length=512:=by simp[hl]
 simp only[aD,aJ,af,av,fj,aBV,aBm,ag,aAR,aBf,GH,aO g3 Mc];refine(Hz (mV.fresh (oV.fresh hf)) hp).mono ?_;rintro _ S3 ⟨_,rfl,v,rfl,Fv,jf,ho,Lh⟩;have Ig:Kp [] st S3:=(oV.trans mV (by simp)).trans jf (by simp)
 have nH:S3.mem.get st.next=some (.cells [.int .i64 0, .bool false, .ae] 200 false):=by
  rw[jf.keep _ (by omega) (by simp),mV.keep _ (by omega) (by simp)];exact g1
 have adF:=jf.next;obtain⟨o1,o2⟩:=ho.cq;have kg:bt [.int .i64 0, .bool false, .ae] 0 [I p.n, .bool p.last,v]=[I p.n, .bool p.last,v]:=dV _ _ rfl;have jR:bt [I p.n, .bool p.last,v] 0 [I p.n, .bool p.last,v]=[I p.n, .bool p.last,v]:=dV _ _ rfl;simp only[aD,aJ,af,aH,nH,aS,aU,kg,bG];refine⟨⟨rfl,by simp[o1],by decide⟩, ?_⟩;have qK:Kp [] st (St.set S3 st.next (.cells [I p.n, .bool p.last,v] 200 false)):=Ig.set _ (.inr (aAU _)) (by omega);have g4:(St.set S3 st.next (.cells [I p.n, .bool p.last,v] 200 false)).mem.get st.next=some (.cells [I p.n, .bool p.last,v] 200 false):=ao _ _ _;have ho4:Own (St.set S3 st.next (.cells [I p.n, .bool p.last,v] 200 false)) v 1 5 (ai p.data) Fv:=ho.mono fun q hq=>ak _ _ _ _ (by have:=(Lh q hq).1;omega);have hn4:(St.set S3 st.next (.cells [I p.n, .bool p.last,v] 200 false)).next=S3.next:=rfl;have hr4:=h'.keep qK (by simp);generalize St.set S3 st.next (.cells [I p.n, .bool p.last,v] 200 false)=S4 at*;refine⟨by simp, ?_⟩;have ht3:List.take 3 [I p.n,CV.bool p.last,v]=[I p.n, .bool p.last,v]:=rfl
 have fin:∀bb:Bool,bb=(!decide (p.n=0)&&decide (m.place p.n=at_))->YR p st (.agg [I p.n, .bool p.last,v]) (St.set S4 st.next (.cells [I p.n, .bool p.last,v] 200 false)):=fun bb _=>
  ⟨v,rfl,Fv,qK.set _ (.inr (aAU _)) (by omega),ho4.mono fun q hq=>ak _ _ _ _ (by have:=(Lh q hq).1;omega),fun q hq=>⟨by have:=(Lh q hq).1;omega,by have:=(Lh q hq).2;simp;omega⟩⟩
 by_cases Xh:p.n=0
 ·simp[Xh,g4,o1];have De:bt [I 0,CV.bool p.last,v] 0 [I 0,CV.bool p.last,v]=[I 0,CV.bool p.last,v]:=dV _ _ rfl;rw[De];have:=fin _ rfl;rw[Xh]at this;exact this
 ·simp only[Xh,ne_eq,not_false_eq_true,aBV,aG,aBr,bh,af,az,g4,ar,aAQ,au,ea];have Zs:=hp.1;refine(yK hr4 h0 hs (n:=p.n) (by omega)).same ?_;simp[g4,o1,jR,Xh];exact⟨_,⟨rfl,by omega⟩,fin _ rfl⟩
end
section
variable {st st':St}
structure rZ (D:aV)(m:RingM)(P:Nat->Piece):Prop where
 pos:0<m.count
 fits:m.first+m.count<=D.ay.length
 jF:D.ay.length<=65536
 base:m.base<=4611686018427387904
 cur:∀j,j<m.count->D.cur (m.first+j)=(P j).bX/\(P j).ok
def oQ (st:St)(f:CV)(c q r n:Nat):Prop:=f= .func (.func 191) [] [.ptr c 0, .ptr q 0]/\c<st.next/\q<st.next/\c≠q/\st.mem.get c=some (.cells [I n] 3 false)/\st.mem.get q=some (.cells [.ptr r 0] 146 false)
theorem oQ.keep {f:CV}{c q r n:Nat}{X:List Nat}(h:oQ st f c q r n)(hk:Kp X st st')(h1:c∉X)(h2:q∉X):oQ st' f c q r n:=by
 obtain⟨g1,g2,g3,g4,g5,g6⟩:=h;exact⟨g1,aBs g2 hk.next,aBs g3 hk.next,g4,by rw[hk.keep c g2 h1];exact g5,by rw[hk.keep q g3 h2];exact g6⟩
theorem Hy {r a:Nat}{m:RingM}(h:fF st r a m):R 154 [.ptr r 0] st fun f st'=>Kp [] st st'/\∃c q,oQ st' f c q r m.base/\st.next<=c/\st.next<=q:=by
 obtain⟨h1,h2⟩:=h;refine bO ?_;rw[ahs];have g2:(St.new st (.cells [.ptr r 0] 146 false)).mem.get r=st.mem.get r:=aW _ _ _ h1;have akg:CV.cK (.ptr r 0)=[.ptr r 0]:=rfl;have X4:CV.isAny (.ptr r 0)=false:=rfl;simp only[cr,akg,X4,az,aq,ar,aAQ,au,fH,bA,ah,af,g2,h2,aAT,aAS,cM,aT,aH,aS,lW];have kg:bt [.int .i64 0] 0 [I m.base]=[I m.base]:=dV _ _ rfl;refine⟨trivial,⟨rfl,rfl,by decide⟩, ?_,(St.new st (.cells [.ptr r 0] 146 false)).next,st.next,⟨rfl, ?_, ?_, ?_, ?_, ?_⟩, ?_,aAU _⟩
 ·exact(((Kp.refl [] st).new _).new _).set _ (.inr (by simp)) (by simp)
 ·simp
 ·simp;omega
 ·simp
 ·rw[ao];exact congrArg some (congrArg (fun l=>qS.cells l 3 false) kg)
 ·rw[ak _ _ _ _ (by simp),aW _ _ _ (by simp)];exact aq _ _
 ·simp
def RingM.is (m:RingM)(P:Nat->Piece)(n:Nat):Prop:=(P (n%m.count)).n=n
instance (m:RingM) (P:Nat->Piece) (n:Nat):Decidable (m.is P n):=by unfold RingM.is;infer_instance
theorem Ob {f:CV}{c q r a n:Nat}{m:RingM}{D:aV}{P:Nat->Piece}(h:fF st r a m)(hp:rZ D m P)(hn:oQ st f c q r n)(he:n=m.base+m.count):fD R f [] st fun x st'=>x= .tuple [.agg [.int .i64 0, .bool false, .ae], .bool false,I 0]/\Kp [] st st':=by
 obtain⟨h1,h2⟩:=h;obtain⟨rfl,g2,g3,g4,g5,g6⟩:=hn;rw[dQ];refine bO ?_;simp only[aBw];rw[aaa];have k1:∀b,b<st.next->(St.new st (.cells [.int .i64 0, .bool false, .ae] 200 false)).mem.get b=st.mem.get b:=fun b hb=>aW _ _ _ hb;have e1:IntKind.i64.wrap ((n:Int)-m.base)=(m.count:Int):=by have:=hp.base;have:=hp.fits;have:=hp.jF;rw[bD (by omega)];omega
 simp only[cM,aT,bG,az,k1 c g2,g5,k1 q g3,g6,ar,aAQ,au,bA,ah,af,k1 r h1,h2,aAT,aAS,av,dJ,e1,cB,aBV,ag,aBr,dO,kJ,aH,aq,aS,aU];have kg:bt [.int .i64 0, .bool false, .ae] 0 [.int .i64 0, .bool false, .ae]=[.int .i64 0, .bool false, .ae]:=dV _ _ rfl;refine⟨⟨trivial,trivial,trivial,trivial,trivial,trivial⟩,trivial,⟨rfl,rfl,by decide⟩, ?_⟩;rw[aO (n:=3) (ao _ _ _) rfl,af,kg];exact⟨rfl,((Kp.refl [] st).new _).set _ (.inr (aAU _)) (by simp)⟩
def Vr (p:Piece)(X:List Nat)(st:St)(y:CV)(st':St):Prop:=∃v Fv,y= .agg [I p.n, .bool p.last,v]/\Kp X st st'/\Own st' v 1 5 (ai p.data) Fv/\∀b∈Fv,st.next<=b/\b<st'.next
theorem R8 {f:CV}{c q r a n:Nat}{m:RingM}{F:List Nat}{D:aV}{P:Nat->Piece}(hf:cT st)(h:fF st r a m)(hd:dt st a F D)(hr:r∉F)(tf:D.dead=false)(hp:rZ D m P)(hn:oQ st f c q r n)(he:n≠m.base+m.count)(hb:m.base<=n)(hl:n<m.base+m.count)(hrc:r≠c)(hrq:r≠q)(hcF:c∉F):
 fD R f [] st fun x st'=>∃y,x= .tuple [y, .bool (decide (m.is P (n+1))),I 0]/\Vr (P ((n+1)%m.count)) [c] st y st'/\oQ st' f c q r (n+1):=by
 have h':=h;obtain⟨h1,h2⟩:=h;have hn':=hn;obtain⟨rfl,g2,g3,g4,g5,g6⟩:=hn;rw[dQ];refine bO ?_;simp only[aBw];rw[aaa];have k1:∀b,b<st.next->(St.new st (.cells [.int .i64 0, .bool false, .ae] 200 false)).mem.get b=st.mem.get b:=fun b hb=>aW _ _ _ hb;have q1:=hp.base;have q2:=hp.fits;have q3:=hp.jF;have e1:IntKind.i64.wrap ((n:Int)-m.base)=(n:Int)-m.base:=bD (by omega);have e2:¬((n:Int)-m.base=m.count):=by omega
 have e3:IntKind.i64.wrap ((n:Int)+1)=((n+1:Nat):Int):=by rw[bD (by omega)];rfl
 simp only[cM,aT,bG,az,k1 c g2,g5,k1 q g3,g6,ar,aAQ,au,bA,ah,af,k1 r h1,h2,aAT,aAS,av,dJ,e1,cB,e2,aCy,ag,aAR,aBf,cN,e3,aH,aS];refine⟨⟨trivial,trivial,trivial,trivial,trivial,trivial⟩,trivial,⟨rfl,rfl,by simp⟩, ?_⟩;have kg:bt [I n] 0 (CV.cK (I ((n+1:Nat):Int)))=[I ((n+1:Nat):Int)]:=dV _ _ rfl;have abY:bt [I n] 0 (CV.cK (.int .i64 ((n+1:Nat):Int)))=[I ((n+1:Nat):Int)]:=kg;rw[abY];have hn3:(St.set (St.new st (.cells [.int .i64 0, .bool false, .ae] 200 false)) c (.cells [I ((n+1:Nat):Int)] 3 false)).next=st.next+1:=rfl;have qK:Kp [c] st (St.new (St.set (St.new st (.cells [.int .i64 0, .bool false, .ae] 200 false)) c (.cells [I ((n+1:Nat):Int)] 3 false)) (.cells [.int .i64 0, .bool false, .ae] 200 false)):=(((Kp.refl _ st).new _).set _ (.inl (by simp)) (by simp;omega)).new _
 have c4:(St.new (St.set (St.new st (.cells [.int .i64 0, .bool false, .ae] 200 false)) c (.cells [I ((n+1:Nat):Int)] 3 false)) (.cells [.int .i64 0, .bool false, .ae] 200 false)).mem.get c=some (.cells [I ((n+1:Nat):Int)] 3 false):=by
  rw[aW _ _ _ (by simp;omega),ao]
 have x4:(St.new (St.set (St.new st (.cells [.int .i64 0, .bool false, .ae] 200 false)) c (.cells [I ((n+1:Nat):Int)] 3 false)) (.cells [.int .i64 0, .bool false, .ae] 200 false)).mem.get st.next=some (.cells [.int .i64 0, .bool false, .ae] 200 false):=by
  rw[aW _ _ _ (by simp),ak _ _ _ _ (by omega)];exact aq _ _
 have y4:(St.new (St.set (St.new st (.cells [.int .i64 0, .bool false, .ae] 200 false)) c (.cells [I ((n+1:Nat):Int)] 3 false)) (.cells [.int .i64 0, .bool false, .ae] 200 false)).mem.get (st.next+1)=some (.cells [.int .i64 0, .bool false, .ae] 200 false):=by
  have:=aq (St.set (St.new st (.cells [.int .i64 0, .bool false, .ae] 200 false)) c (.cells [I ((n+1:Nat):Int)] 3 false)) (.cells [.int .i64 0, .bool false, .ae] 200 false);exact this
 have hn4:(St.new (St.set (St.new st (.cells [.int .i64 0, .bool false, .ae] 200 false)) c (.cells [I ((n+1:Nat):Int)] 3 false)) (.cells [.int .i64 0, .bool false, .ae] 200 false)).next=st.next+2:=rfl;rw[hn3];generalize St.new (St.set (St.new st (.cells [.int .i64 0, .bool false, .ae] 200 false)) c (.cells [I ((n+1:Nat):Int)] 3 false)) (.cells [.int .i64 0, .bool false, .ae] 200 false)=S4 at*;have q4:S4.mem.get q=some (.cells [.ptr r 0] 146 false):=(qK.keep q g3 (by simp;exact aBU g4)).trans g6;have r4:=h'.keep qK (by simpa using hrc);have d4:=hd.keep qK (fun b hb=>by simp;exact fun e=>hcF (e▸hb));have HX:m.place (n+1)=m.first+(n+1)%m.count:=rfl;have SD:(n+1)%m.count<m.count:=Nat.mod_lt _ hp.pos;obtain⟨u1,u2⟩:=hp.cur _ SD;simp only[q4,c4,ar,aAQ,au];refine(yK r4 hp.pos (by omega) (n:=n+1) (by omega)).same ?_;refine(Es (qK.fresh hf) r4 d4 hr tf hp.pos (by omega) (at_:=m.place (n+1)) (by omega) u2 u1).mono ?_;rintro _ S5 ⟨_,rfl,v,rfl,Fv,Fy,ho,Lh⟩;have Zv:=Fy.next;have c5:=(Fy.keep c (by omega) (by simp)).trans c4;have q5:=(Fy.keep q (by omega) (by simp)).trans q4;have x5:=(Fy.keep st.next (by omega) (by simp)).trans x4;have y5:=(Fy.keep (st.next+1) (by omega) (by simp)).trans y4;obtain⟨o1,o2⟩:=ho.cq;generalize hP:P ((n+1)%m.count)=p at*;have jR:bt [.int .i64 0, .bool false, .ae] 0 [I p.n, .bool p.last,v]=[I p.n, .bool p.last,v]:=dV _ _ rfl;simp only[aD,aJ,af,jq y5,jq y4,aT,aH,y5,aS,aU,jR,q4,ar,aAQ,au];refine⟨⟨rfl,by simp[o1],by decide⟩,⟨⟨trivial,trivial⟩,trivial,trivial,⟨trivial,trivial,trivial⟩,trivial⟩,trivial, ?_⟩;have Dp:Kp [c] st (St.set S5 (st.next+1) (.cells [I p.n, .bool p.last,v] 200 false)):=(qK.trans Fy (by simp)).set _ (.inr (by omega)) (by omega);have c6:(St.set S5 (st.next+1) (.cells [I p.n, .bool p.last,v] 200 false)).mem.get c=some (.cells [I ((n+1:Nat):Int)] 3 false):=by rw[ak _ _ _ _ (by omega)];exact c5
 have q6:(St.set S5 (st.next+1) (.cells [I p.n, .bool p.last,v] 200 false)).mem.get q=some (.cells [.ptr r 0] 146 false):=by rw[ak _ _ _ _ (by omega)];exact q5
 have x6:(St.set S5 (st.next+1) (.cells [I p.n, .bool p.last,v] 200 false)).mem.get st.next=some (.cells [.int .i64 0, .bool false, .ae] 200 false):=by rw[ak _ _ _ _ (by omega)];exact x5
 have y6:(St.set S5 (st.next+1) (.cells [I p.n, .bool p.last,v] 200 false)).mem.get (st.next+1)=some (.cells [I p.n, .bool p.last,v] 200 false):=ao _ _ _;have o6:Own (St.set S5 (st.next+1) (.cells [I p.n, .bool p.last,v] 200 false)) v 1 5 (ai p.data) Fv:=ho.mono fun b hb=>ak _ _ _ _ (by have:=(Lh b hb).1;omega);have hn6:(St.set S5 (st.next+1) (.cells [I p.n, .bool p.last,v] 200 false)).next=S5.next:=rfl;generalize St.set S5 (st.next+1) (.cells [I p.n, .bool p.last,v] 200 false)=S6 at*;have ZA:∀bb:Bool,True:=fun _=>trivial
 have K8:decide (m.is P (n+1))=(decide (p.n≠0/\m.place p.n=m.place (n+1))&&decide (p.n=n+1)):=by
  have alH:m.is P (n+1)↔p.n=n+1:=by unfold RingM.is;rw[hP]
  rw[show decide (m.is P (n+1))=decide (p.n=n+1)from decide_eq_decide.2 alH]
  by_cases e:p.n=n+1
  ·simp[e]
  ·simp[e]
 have fin:∀S7:St,S7=St.set S6 st.next (.cells [I p.n, .bool p.last,v] 200 false)->Vr p [c] st (.agg [I p.n, .bool p.last,v]) S7/\oQ S7 (.func (.func 191) [] [.ptr c 0, .ptr q 0]) c q r (n+1):=by
  rintro _ rfl;refine⟨⟨v,Fv,rfl,Dp.set _ (.inr (aAU _)) (by omega),o6.mono fun b hb=>ak _ _ _ _ (by have:=(Lh b hb).1;omega),fun b hb=>⟨by have:=(Lh b hb).1;omega,by have:=(Lh b hb).2;simp;omega⟩⟩,rfl,by simp;omega,by simp;omega,g4, ?_, ?_⟩
  ·rw[ak _ _ _ _ (by omega)];exact c6
  ·rw[ak _ _ _ _ (by omega)];exact q6
 rw[aO (n:=3) y6 rfl,af]
 by_cases JH:p.n≠0/\m.place p.n=m.place (n+1)
 ·rw[aBc JH]at K8⊢
  have qe:aj .eql (some .int) false (I p.n) (I ((n+1:Nat):Int)) S6= .ok (.bool (decide (p.n=n+1))) S6:=by
   rw[av,cB];congr 2;simp only[aBu];omega
  simp only[aG,aBr,bh,ah,af,az,y6,c6,ar,aAT,aAQ,au,qe,aF,x6,aS,aH,aU,jR];rw[Bool.true_and]at K8;have y7:(St.set S6 st.next (.cells [I p.n, .bool p.last,v] 200 false)).mem.get (st.next+1)=some (.cells [I p.n, .bool p.last,v] 200 false):=by rw[ak _ _ _ _ (by omega)];exact y6
  have c7:(St.set S6 st.next (.cells [I p.n, .bool p.last,v] 200 false)).mem.get c=some (.cells [I ((n+1:Nat):Int)] 3 false):=by rw[ak _ _ _ _ (by omega)];exact c6
  have x7:(St.set S6 st.next (.cells [I p.n, .bool p.last,v] 200 false)).mem.get st.next=some (.cells [I p.n, .bool p.last,v] 200 false):=ao _ _ _;obtain⟨f1,f2⟩:=fin _ rfl;simp only[y7,c7,ar,aAQ,au];rw[aO (n:=3) x7 rfl,af,K8];exact⟨⟨rfl,by simp[o1],by decide⟩,⟨trivial,⟨trivial,trivial⟩,⟨trivial,trivial⟩,trivial⟩,trivial,_,rfl,f1,f2⟩
 ·rw[aAW JH]at K8⊢;simp only[aG,aBr,cc,aAR,aBf,af,aF,x6,aS,aH,aU,jR];rw[Bool.false_and]at K8;have x7:(St.set S6 st.next (.cells [I p.n, .bool p.last,v] 200 false)).mem.get st.next=some (.cells [I p.n, .bool p.last,v] 200 false):=ao _ _ _;obtain⟨f1,f2⟩:=fin _ rfl;rw[aO (n:=3) x7 rfl,af,K8];exact⟨⟨rfl,by simp[o1],by decide⟩,⟨trivial,⟨trivial,trivial⟩,⟨trivial,trivial⟩,trivial⟩,trivial,_,rfl,f1,f2⟩
end
