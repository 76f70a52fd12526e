import Derived.Test.YtomffjeofpafnaaGreatDoorDisk
namespace Lim
open Go
noncomputable section
set_option maxRecDepth 100000
def le:Nat->Nat->List UInt8
 |0,_=>[]
 |k+1,n=>le k n++[UInt8.ofNat (n/256^k%256)]
theorem hJ (k n:Nat):(le k n).length=k:=by induction k with|zero=>rfl|succ k ih=>simp[le,ih]
structure Piece where
 n:Nat
 last:Bool
 data:List UInt8
def Piece.bY (p:Piece):jl:=le 8 p.n++[if p.last=true then 1 else 0,UInt8.ofNat (p.data.length%256),UInt8.ofNat (p.data.length/256%256)]++p.data++List.replicate (501-p.data.length) 0
theorem Piece.pJ (p:Piece)(h:p.data.length<=501):p.bY.length=512:=by
 simp only[Piece.bY,aAG,hJ,aBb,aCb,aBt];omega
theorem yr {n size b o j:Nat}(h:j<n)(st:St):fI n size (.ptr b o) (I j) st= .ok (.ptr b (o+j*size)) st:=by
 have e:fI n size (.ptr b o) (I j) st=bu (Nat.ble (Nat.succ j) n) (nL (Nat.add o (Nat.mul j size)) fun o=> .ok (.ptr b o) st) .bad:=rfl;rw[e,aO,aAI (by rw[aBe];omega)];rfl
theorem BS (n i:Nat)(hi:i<8)(d:Option jL)(c:Bool)(st:St):aj .shr d c (I n) (I ((8*i:Nat):Int)) st= .ok (I ((n/256^i:Nat):Int)) st:=by
 have e:aj .shr d c (I n) (I ((8*i:Nat):Int)) st=if ((8*i:Nat):Int)<0 then .bad else .ok (I ((n:Int).fdiv (2^(min ((8*i:Nat):Int).toNat 64)))) st:=rfl
 rw[e,aAH (by omega),aDl,aBq (by omega),Int.fdiv_eq_ediv_of_nonneg _ (Int.le_of_lt (Int.pow_pos (by omega)))]
 congr 2
 have:(2:Nat)^(8*i)=256^i:=by rw[Nat.pow_mul]
 rw[<-this];simp
theorem Ma (n:Nat)(k:IntKind)(st:St):dB (.toInt .u8) (.int k (n:Int)) st= .ok (bO (UInt8.ofNat (n%256))) st:=by
 rw[jj _ (by omega)];show OR.ok (.int .u8 (IntKind.u8.wrap n)) st=_;rw[LW]
theorem uV (A B:List CV)(x y:CV):bp (A++x::B) A.length [y]=A++y::B:=by
 unfold bp;simp
theorem oU (P Z T:List CV):bp (P++Z) P.length T=P++(T++Z.drop T.length):=by
 unfold bp;simp[List.drop_append]
theorem ng (n:Nat):zr n=ai (List.replicate n 0):=by unfold zr ai;rw[List.map_replicate];rfl
section
variable {st st':St}
theorem AL {X:List Nat}{v:CV}{p:Piece}(h:Sl st X v 1 (ai p.data))(hd:p.data.length<=501)(hn:p.n<9223372036854775808):R 175 [.agg [I p.n, .bool p.last,v]] st fun x st'=>x= .agg (ai p.bY)/\Kp [] st st':=by
 refine bN ?_;rw[agG];have hv:=h.bG;simp only[cn,cG,aS];refine⟨rfl, ?_⟩;show c8 _ _ _;simp only[aJ,aK];have ku:Kp [] st (St.new (St.new (St.new st (.cells [I p.n, .bool p.last,v] 200 false)) (.cells (zr 512) 233 false)) (.cells (zr 512) 233 false)):=(((Kp.refl [] st).new _).new _).new _
 refine bK (fun m vs s=>∃i,m+i=8/\vs=[.ptr st.next 0, .ptr (st.next+1) 0, .ptr (st.next+2) 0,I i]/\Kp [] st s/\s.next=st.next+3/\s.mem.get st.next=some (.cells [I p.n, .bool p.last,v] 200 false)/\s.mem.get (st.next+1)=some (.cells (zr 512) 233 false)/\
  s.mem.get (st.next+2)=some (.cells (ai (le i p.n++List.replicate (512-i) 0)) 233 false)) ?_ (n:=8) ⟨0,rfl,rfl,ku,rfl, ?_, ?_, ?_⟩
 ·rintro m vs s k ⟨i,hm,rfl,hk,Ao,g1,g2,g3⟩ next
  by_cases hi:i<8
  ·have fv:(i:Int)<8:=by omega
   have e1:IntKind.i64.wrap (8*(i:Int))=((8*i:Nat):Int):=by rw[bz (by omega)];omega
   have e2:IntKind.i64.wrap ((i:Int)+1)=((i+1:Nat):Int):=by rw[bz (by omega)];omega
   have e3:∀s,aj .lss none true (I i) (.int .i64 8) s= .ok (.bool true) s:=fun s=>by rw[aw,cP];simp only[fv,aBA]
   have e4:∀s,aj .mul none true (.int .i64 8) (I i) s= .ok (I ((8*i:Nat):Int)) s:=fun s=>by rw[aw,jR,e1]
   have e5:∀s,aj .add none true (I i) (.int .i64 1) s= .ok (I ((i+1:Nat):Int)) s:=fun s=>by rw[aw,cE,e2]
   simp only[aJ,aK,e3,af,ag,aAY,fl,ah,aA,g1,aq,aAF,aAy,av,e4,BS _ _ hi,Ma,yr (show i<512 by omega),aF,g3,aR,e5];refine⟨⟨rfl,rfl,by simp[hJ];omega⟩,next (m-1) _ _ (by omega) ⟨i+1,by omega,rfl,hk.set _ (.inr (by omega)) (by omega),Ao, ?_, ?_, ?_⟩⟩
   ·rw[al _ _ _ _ (by omega)];exact g1
   ·rw[al _ _ _ _ (by omega)];exact g2
   ·rw[ao]
    congr 2
    have e6:List.replicate (512-i) (0:UInt8)=0::List.replicate (512-(i+1)) 0:=by
     rw[show 512-i=(512-(i+1))+1 by omega,aCI]
    rw[e6,bE,bE];have:=uV (ai (le i p.n)) (ai (List.replicate (512-(i+1)) 0)) (bO 0) (bO (UInt8.ofNat (p.n/256^i%256)));rw[bJ,hJ]at this;simp only[aCo];show bp (ai (le i p.n)++bO 0::ai _) i [bO _]=_;rw[this];simp[le,ai]
  ·have fv:¬(i:Int)<8:=by omega
   have hi8:i=8:=by omega
   subst hi8
   have hb:ai (le 8 p.n++List.replicate (512-8) 0)=ai (le 8 p.n)++(bO 0::bO 0::bO 0::ai (List.replicate 501 0)):=by
    rw[bE];rfl
   have hA:(ai (le 8 p.n)).length=8:=by simp[hJ]
   rw[hb]at g3;have e3:∀s,aj .lss none true (I ((8:Nat):Int)) (.int .i64 8) s= .ok (.bool false) s:=fun s=>rfl;simp only[aJ,aK,e3,af,ag,aAz,aAO]
   refine kX (fun vs s=>vs=[.ptr st.next 0, .ptr (st.next+1) 0, .ptr (st.next+2) 0]/\Kp [] st s/\s.next=st.next+3/\s.mem.get st.next=some (.cells [I p.n, .bool p.last,v] 200 false)/\s.mem.get (st.next+1)=some (.cells (zr 512) 233 false)/\
    s.mem.get (st.next+2)=some (.cells (ai (le 8 p.n)++(bO (if p.last=true then 1 else 0)::bO 0::bO 0::ai (List.replicate 501 0))) 233 false)) ?_ ?_
   ·intro k' Bi;have e8:∀s,fI 512 1 (.ptr (st.next+2) 0) (.int .i64 8) s= .ok (.ptr (st.next+2) 8) s:=fun s=>rfl;simp only[fl,ah,af,aA,g1,aq,aAF,aAA,aAy,av,ag]
    by_cases hl:p.last=true
    ·simp only[hl,aAY,e8,af,aF,g3,aR];refine⟨⟨rfl,rfl,by simp[hJ]⟩,Bi _ _ ⟨rfl,hk.set _ (.inr (by omega)) (by omega),Ao, ?_, ?_, ?_⟩⟩
     ·rw[al _ _ _ _ (by omega)];exact g1
     ·rw[al _ _ _ _ (by omega)];exact g2
     ·rw[ao];have:=uV (ai (le 8 p.n)) (bO 0::bO 0::ai (List.replicate 501 0)) (bO 0) (bO 1);rw[hA]at this;rw[aAI hl,<-this];rfl
    ·simp only[hl,aAz,aAO];exact Bi _ _ ⟨rfl,hk,Ao,g1,g2,by rw[aAH hl];exact g3⟩
   ·rintro _ s ⟨rfl,hk,Ao,g1,g2,g3⟩;have e9:∀s,fI 512 1 (.ptr (st.next+2) 0) (.int .i64 9) s= .ok (.ptr (st.next+2) 9) s:=fun s=>rfl;have OL:∀s,fI 512 1 (.ptr (st.next+2) 0) (.int .i64 10) s= .ok (.ptr (st.next+2) 10) s:=fun s=>rfl;have Zn:∀s,bR 512 1 (.ptr (st.next+2) 0) (some (.int .i64 11)) none s= .ok (.slice (st.next+2) 11 501 501 0) s:=fun s=>rfl;have hlen:=h.len p.data.length (by simp) (by omega);have eu1:∀s,dB (.toInt .u8) (I p.data.length) s= .ok (bO (UInt8.ofNat (p.data.length%256))) s:=fun s=>Ma _ _ _
    have eu2:∀s,aj .shr none true (I p.data.length) (.int .u64 8) s= .ok (I ((p.data.length/256:Nat):Int)) s:=fun s=>by
     have e:aj .shr none true (I p.data.length) (.int .u64 8) s= .ok (I ((p.data.length:Int).fdiv 256)) s:=rfl;rw[e,Int.fdiv_eq_ediv_of_nonneg _ (by omega)];rfl
    have eu3:∀s,dB (.toInt .u8) (I ((p.data.length/256:Nat):Int)) s= .ok (bO (UInt8.ofNat (p.data.length/256%256))) s:=fun s=>Ma _ _ _;generalize hfb:(if p.last=true then (1:UInt8)else 0)=fb at*;have en1:st.next≠st.next+2:=by omega
    simp only[aJ,aK,bt,ah,af,aA,g1,g3,aq,aR,aAF,aAA,aAy,av,hlen,eu1,eu2,eu3,e9,OL,Zn,aF,ao,al _ _ _ _ en1];have To:∀b:UInt8,(bO b).cD=[bO b]:=fun _=>rfl;have jh:∀b:UInt8,aV [bO b]=true:=fun _=>rfl
    have vi:ai p.bY=ai (le 8 p.n)++(bO fb::bO (UInt8.ofNat (p.data.length%256))::bO (UInt8.ofNat (p.data.length/256%256))::(ai p.data++ai (List.replicate (501-p.data.length) 0))):=by
     simp[Piece.bY,ai,hfb]
    generalize UInt8.ofNat (p.data.length%256)=b1 at*;generalize UInt8.ofNat (p.data.length/256%256)=b2 at*;have o1:=uV (ai (le 8 p.n)++[bO fb]) (bO 0::ai (List.replicate 501 0)) (bO 0) (bO b1);have o2:=uV (ai (le 8 p.n)++[bO fb,bO b1]) (ai (List.replicate 501 0)) (bO 0) (bO b2);have o3:=oU (ai (le 8 p.n)++[bO fb,bO b1,bO b2]) (ai (List.replicate 501 0)) (ai p.data);simp only[aBn,aBC,aBf,aAG,hA,aBb,aCb,Nat.reduceAdd]at o1 o2 o3;rw[To,To,o1,o2];have hl0:(ai (le 8 p.n)++bO fb::bO 0::bO 0::ai (List.replicate 501 0)).length=512:=by simp[hJ]
    have wb:(ai (le 8 p.n)++bO fb::bO b1::bO 0::ai (List.replicate 501 0)).length=512:=by simp[hJ]
    have Dv:(ai (le 8 p.n)++bO fb::bO b1::bO b2::ai (List.replicate 501 0)).length=512:=by simp[hJ]
    refine⟨⟨rfl,rfl,by omega⟩,⟨rfl,rfl,by omega⟩,⟨trivial,⟨trivial,trivial⟩,trivial⟩,trivial, ?_⟩;simp only[set_set]
    have kL:Sl (St.set s (st.next+2) (.cells (ai (le 8 p.n)++bO fb::bO b1::bO b2::ai (List.replicate 501 0)) 233 false)) [] v 1 (ai p.data):=by
     exact(h.dM (Y:=[]) (by simp)).mono (hk.set _ (.inr (by omega)) (by omega))
    obtain⟨s4,c1,c2,c3,c4⟩:=MP (n:=501) (cap:=501) (off:=11) kL (ao _ _ _) (by simp;omega) (by rw[Dv];simp;omega) (bB _);rw[c1,aS]
    have abm:bp (ai (le 8 p.n)++bO fb::bO b1::bO b2::ai (List.replicate 501 0)) 11 (ai p.data)=ai p.bY:=by
     have e0:(ai (List.replicate 501 0)).drop (ai p.data).length=ai (List.replicate (501-p.data.length) 0):=by
      unfold ai;rw[<-aBZ,aCJ,aBJ]
     rw[vi,o3,e0]
    rw[abm]at c3;have Jg:(ai p.bY).length=512:=by simp[Piece.pJ p hd]
    have g4:s4.mem.get (st.next+1)=some (.cells (zr 512) 233 false):=by rw[c4 _ (by omega),al _ _ _ _ (by omega)];exact g2
    have ht:List.take 512 (ai p.bY)=ai p.bY:=aAK (by omega);have hz5:(zr 512).length=512:=aBt;have jZ:bp (zr 512) 0 (ai p.bY)=ai p.bY:=dY _ _ (by rw[hz5];exact Jg);have YX:s4.next=st.next+3:=c2.trans Ao;simp only[oN,c3,g4,aq,aR,rf,aBg,aAF,ht,aX,Jg,bB,hz5,jZ,ao,af];refine⟨⟨trivial,trivial⟩,trivial,aAE _,⟨trivial,trivial,aAE _⟩,aAE _,trivial, ?_⟩;have sv:Kp [] st s4:=⟨by omega,fun q h1 h2=> ?_,fun hf q hq=> ?_⟩
    ·exact sv.set _ (.inr (by omega)) (by omega)
    ·rw[c4 q (by omega),al _ _ _ _ (by omega)];exact hk.keep q h1 h2
    ·rw[c4 q (by omega),al _ _ _ _ (by omega)];exact hk.fresh hf q (by omega)
 ·rw[aZ _ _ _ (by simp;omega),aZ _ _ _ (by simp)];exact au _ _
 ·rw[aZ _ _ _ (by simp)];exact au _ _
 ·have:(St.new (St.new st (.cells [I p.n, .bool p.last,v] 200 false)) (.cells (zr 512) 233 false)).next=st.next+2:=by simp
  rw[<-this];refine(au _ _).trans ?_;rw[ng];rfl
end
theorem VH {k n i:Nat}(h:i<k):(le k n)[i]?=some (UInt8.ofNat (n/256^i%256)):=by
 induction k with
 |zero=>omega
 |succ k ih=>
  simp only[le]
  by_cases hi:i<k
  ·rw[aCe (by rw[hJ];exact hi)];exact ih hi
  ·have:i=k:=by omega
   subst this;rw[aBO (by rw[hJ];exact aAE _),hJ,Nat.sub_self];rfl
theorem GO {p:Piece}{i:Nat}(h:i<8):(ai p.bY)[i]?=some (bO (UInt8.ofNat (p.n/256^i%256))):=by
 unfold Piece.bY ai;rw[aBw,aBn,aBn,aCe (by rw[hJ];exact h),VH h];rfl
theorem DV (p:Piece):(ai p.bY)[8]?=some (bO (if p.last=true then 1 else 0)):=by
 unfold Piece.bY ai;rw[aBw,aBn,aBn,aBO (by rw[hJ];exact aAE _),hJ];rfl
theorem Mr (p:Piece):(ai p.bY)[9]?=some (bO (UInt8.ofNat (p.data.length%256))):=by
 unfold Piece.bY ai;rw[aBw,aBn,aBn,aBO (by rw[hJ];omega),hJ];rfl
theorem JR (p:Piece):(ai p.bY)[10]?=some (bO (UInt8.ofNat (p.data.length/256%256))):=by
 unfold Piece.bY ai;rw[aBw,aBn,aBn,aBO (by rw[hJ];omega),hJ];rfl
theorem DU (p:Piece):((ai p.bY).drop 11).take p.data.length=ai p.data:=by
 have e:ai p.bY=(ai (le 8 p.n)++ai [if p.last=true then 1 else 0,UInt8.ofNat (p.data.length%256),UInt8.ofNat (p.data.length/256%256)])++(ai p.data++ai (List.replicate (501-p.data.length) 0)):=by
  simp only[Piece.bY,bE,aBn]
 have hl:(ai (le 8 p.n)++ai [if p.last=true then (1:UInt8)else 0,UInt8.ofNat (p.data.length%256),UInt8.ofNat (p.data.length/256%256)]).length=11:=by rw[aAG,bJ,bJ,hJ];rfl
 rw[e,List.drop_append,aBj (by omega),hl,Nat.sub_self,aBg,aBf,aCv,aAK (by simp)];simp
theorem Qx:kN=(Piece.mk 0 false []).bY:=by decide+kernel
theorem Io (k:Nat)(h:k<9223372036854775808):IntKind.i64.wrap (k:Int)=(k:Int):=bz (by omega)
theorem SS (a m:Nat)(k:Nat)(h:a<2^k)(hs:a+m*2^k<9223372036854775808):jA .or .i64 (a:Int) ((m*2^k:Nat):Int)=some ((a+m*2^k:Nat):Int):=by
 have e:jA .or .i64 (a:Int) ((m*2^k:Nat):Int)=some (IntKind.i64.wrap ((BitVec.ofInt 64 (a:Int)|||BitVec.ofInt 64 ((m*2^k:Nat):Int)).toNat:Int)):=rfl;rw[e,BitVec.ofInt_natCast,BitVec.ofInt_natCast,BitVec.toNat_or,BitVec.toNat_ofNat,BitVec.toNat_ofNat,aCw (by omega),aCw (by omega),Nat.or_comm,aCA m,<-Nat.two_pow_add_eq_or_of_lt h,Io _ (by rw[aCA];omega),aCA,aDr]
theorem MR (a m k:Nat)(h:a<2^k)(hs:a+m*2^k<9223372036854775808)(d:Option jL)(c:Bool)(st:St):aj .or d c (I a) (I ((m*2^k:Nat):Int)) st= .ok (I ((a+m*2^k:Nat):Int)) st:=by
 have e:aj .or d c (I a) (I ((m*2^k:Nat):Int)) st=(match jA .or .i64 (a:Int) ((m*2^k:Nat):Int)with|some r=> .ok (.int .i64 r) st|none=> .bad):=rfl;rw[e,SS a m k h hs]
theorem MQ (a m k:Nat)(h:a<2^k)(hs:a+m*2^k<18446744073709551616)(d:Option jL)(c:Bool)(st:St):aj .or d c (.int .u64 a) (.int .u64 ((m*2^k:Nat):Int)) st= .ok (.int .u64 ((a+m*2^k:Nat):Int)) st:=by
 have e:aj .or d c (.int .u64 a) (.int .u64 ((m*2^k:Nat):Int)) st=(match jA .or .u64 (a:Int) ((m*2^k:Nat):Int)with|some r=> .ok (.int .u64 r) st|none=> .bad):=rfl;rw[e,aae a m k h hs]
theorem Kb (a k:Nat)(hk:k<=64)(hs:a*2^k<18446744073709551616)(d:Option jL)(c:Bool)(st:St):aj .shl d c (.int .u64 a) (I k) st= .ok (.int .u64 ((a*2^k:Nat):Int)) st:=by
 have e:aj .shl d c (.int .u64 a) (I k) st=if (k:Int)<0 then .bad else .ok (.int .u64 (IntKind.u64.wrap ((a:Int)*2^(min (k:Int).toNat 64)))) st:=rfl
 rw[e,aAH (by omega),aDl,aBq hk];have e2:(a:Int)*2^k=((a*2^k:Nat):Int):=by simp
 rw[e2,rR _ hs]
theorem DK (n:Nat)(h:n<9223372036854775808)(k:IntKind)(st:St):dB (.toInt .i64) (.int k (n:Int)) st= .ok (I n) st:=by
 show OR.ok (.int .i64 (IntKind.i64.wrap n)) st=_;rw[Io n h]
theorem ZN (n:Nat)(h:n<18446744073709551616)(k:IntKind)(st:St):dB (.toInt .u64) (.int k (n:Int)) st= .ok (.int .u64 n) st:=by
 show OR.ok (.int .u64 (IntKind.u64.wrap n)) st=_;rw[rR n h]
theorem Kc (a b:List UInt8)(n:Nat)(h1:a.length=n)(h2:b.length=n)(c:Bool)(st:St):aj .neq (some (.bytes n)) c (.agg (ai a)) (.agg (ai b)) st= .ok (.bool (!(a==b))) st:=by
 rw[Cp];have e:mK (.bytes n) (.agg (ai a)) (.agg (ai b))=(match Gh (ai a),Gh (ai b)with|some a,some b=>bu (decide (a.length=n)&&decide (b.length=n)) (some (a==b)) none|_,_=>none):=rfl;have e1:Gh (ai a)=some a:=BE a;have e2:Gh (ai b)=some b:=BE b;rw[e,e1,e2];simp[h1,h2,aO]
section
variable {st st':St}
def Piece.ok (p:Piece):Prop:=p.n<=4611686018427387904/\p.data.length<=501/\(p.n=0->p.data=[]/\p.last=false)/\(p.n≠0->p.last=false->p.data.length=501)
def Yl (p:Piece)(st:St)(x:CV)(st':St):Prop:=∃v,x= .agg [I p.n, .bool p.last,v]/\Made 1 5 (ai p.data) st v st'
theorem Hf {p:Piece}(hf:cY st)(hp:p.ok):R 152 [.agg (ai p.bY)] st fun x st'=>∃y,x= .tuple [y, .bool (decide (p.n≠0))]/\Yl p st y st':=by
 obtain⟨Tx,Dt,hp3,hp4⟩:=hp;refine bN ?_;rw[agW];have hlen:=Piece.pJ p Dt;have sY:(ai p.bY).length=512:=by simp[hlen]
 have e9:∀s,fI 512 1 (.ptr st.next 0) (.int .i64 9) s= .ok (.ptr st.next 9) s:=fun s=>rfl;have OL:∀s,fI 512 1 (.ptr st.next 0) (.int .i64 10) s= .ok (.ptr st.next 10) s:=fun s=>rfl
 have f9:∀s,dB (.toInt .i64) (bO (UInt8.ofNat (p.data.length%256))) s= .ok (I ((p.data.length%256:Nat):Int)) s:=fun s=>by
  rw[jj _ (by omega),DK _ (by omega)]
 have f10:∀s,dB (.toInt .i64) (bO (UInt8.ofNat (p.data.length/256%256))) s= .ok (I ((p.data.length/256%256:Nat):Int)) s:=fun s=>by
  rw[jj _ (by omega),DK _ (by omega)]
 have f11:∀s,aj .shl none true (I ((p.data.length/256%256:Nat):Int)) (.int .u64 8) s= .ok (I ((p.data.length/256%256*2^8:Nat):Int)) s:=fun s=>by
  have e:aj .shl none true (I ((p.data.length/256%256:Nat):Int)) (.int .u64 8) s= .ok (I (IntKind.i64.wrap (((p.data.length/256%256:Nat):Int)*2^8))) s:=rfl;rw[e,bz (by omega)];simp
 have f12:∀s,aj .or none false (I ((p.data.length%256:Nat):Int)) (I ((p.data.length/256%256*2^8:Nat):Int)) s= .ok (I p.data.length) s:=fun s=>by
  rw[MR _ _ _ (by omega) (by omega)];congr 3;omega
 have hx:(CV.agg (ai p.bY)).isAny=false:=rfl;have kH:Kp [] st (St.new (St.new st (.cells (ai p.bY) 233 false)) (.cells [.int .i64 0, .bool false, .ae] 200 false)):=((Kp.refl [] st).new _).new _
 have g1:(St.new (St.new st (.cells (ai p.bY) 233 false)) (.cells [.int .i64 0, .bool false, .ae] 200 false)).mem.get st.next=some (.cells (ai p.bY) 233 false):=by
  rw[aZ _ _ _ (by simp)];exact au _ _
 have g2:(St.new (St.new st (.cells (ai p.bY) 233 false)) (.cells [.int .i64 0, .bool false, .ae] 200 false)).mem.get (st.next+1)=some (.cells [.int .i64 0, .bool false, .ae] 200 false):=au (St.new st (.cells (ai p.bY) 233 false)) _;simp only[cn,cG,aS,aX];refine⟨rfl, ?_⟩;simp only[bt,e9,OL,af,aA,g1,aq,Mr,JR,av,f9,f10,f11,f12];refine⟨⟨trivial,trivial,trivial⟩,trivial, ?_⟩;show c8 _ _ _;simp only[aJ,aK,u7];refine bK (fun m vs s=>∃i,m+i=8/\vs=[.ptr st.next 0, .ptr (st.next+1) 0, .int .u64 ((p.n%256^i:Nat):Int),I p.data.length,I i]/\s=(St.new (St.new st (.cells (ai p.bY) 233 false)) (.cells [.int .i64 0, .bool false, .ae] 200 false))) ?_ (n:=8) ⟨0,rfl,by simp[Nat.mod_one],rfl⟩;rintro m vs s k ⟨i,hm,rfl,rfl⟩ next;generalize hS:(St.new (St.new st (.cells (ai p.bY) 233 false)) (.cells [.int .i64 0, .bool false, .ae] 200 false))=S at*;have hSn:S.next=st.next+2:=by rw[<-hS];rfl
 by_cases hi:i<8
 ·have fv:(i:Int)<8:=by omega
  have a1:aj .lss none true (I i) (.int .i64 8) S= .ok (.bool true) S:=by rw[aw,cP];simp only[fv,aBA]
  have a2:aj .mul none true (.int .i64 8) (I i) S= .ok (I ((8*i:Nat):Int)) S:=by rw[aw,jR,bz (by omega)];rfl
  have a3:aj .add none true (I i) (.int .i64 1) S= .ok (I ((i+1:Nat):Int)) S:=by rw[aw,cE,bz (by omega)];rfl
  have a4:dB (.toInt .u64) (bO (UInt8.ofNat (p.n/256^i%256))) S= .ok (.int .u64 ((p.n/256^i%256:Nat):Int)) S:=by rw[jj _ (by omega),ZN _ (by omega)]
  have Rv:(2:Nat)^(8*i)=256^i:=by rw[Nat.pow_mul]
  have ave:256^i<=256^7:=Nat.pow_le_pow_right (by omega) (by omega)
  have hb:p.n/256^i%256*256^i<=p.n:=by
   have h1:p.n/256^i%256<=p.n/256^i:=Nat.mod_le _ _;exact aBS (aBu _ h1) (Nat.div_mul_le_self _ _)
  have RA:p.n%256^i<256^i:=Nat.mod_lt _ (Nat.pow_pos (by omega))
  have ji:p.n%256^i+p.n/256^i%256*256^i=p.n%256^(i+1):=by
   rw[aDj,Nat.mod_mul,aCA (256^i)]
  have a5:aj .shl none false (.int .u64 ((p.n/256^i%256:Nat):Int)) (I ((8*i:Nat):Int)) S= .ok (.int .u64 ((p.n/256^i%256*2^(8*i):Nat):Int)) S:=Kb _ _ (by omega) (by rw[Rv];omega) _ _ _
  have a6:aj .or none false (.int .u64 ((p.n%256^i:Nat):Int)) (.int .u64 ((p.n/256^i%256*2^(8*i):Nat):Int)) S= .ok (.int .u64 ((p.n%256^(i+1):Nat):Int)) S:=by
   rw[MQ _ _ _ (by rw[Rv];exact RA) (by rw[Rv,ji];have:=Nat.mod_le p.n (256^(i+1));omega),Rv,ji]
  simp only[aJ,aK,a1,af,ag,aAY,yr (show i<512 by omega),aAF,aCo,aA,g1,aq,GO hi,av,a4,a2,a5,a6,a3];exact next (m-1) _ _ (by omega) ⟨i+1,by omega,rfl,rfl⟩
 ·have hi8:i=8:=by omega
  subst hi8;have PD:p.n%256^8=p.n:=aCw (by omega);rw[PD];have a1:∀s,aj .lss none true (I ((8:Nat):Int)) (.int .i64 8) s= .ok (.bool false) s:=fun s=>rfl;simp only[aJ,aK,a1,af,ag,aAz,aAO]
  by_cases h0:p.n=0
  ·obtain⟨d0,l0⟩:=hp3 h0;have b1:∀s,aj .lss none true (.int .u64 ((p.n:Nat):Int)) (.int .u64 1) s= .ok (.bool true) s:=fun s=>by rw[h0];rfl
   have Wt:p=⟨0,false,[]⟩:=by cases p;simp_all
   simp only[b1,af,aH,cB,aG,aAY,aAU,aAz,aAO,ag,dN,kv,aF,g2,aR,aX,oN,ao,aq,rf];refine⟨⟨rfl,rfl,by decide⟩,by decide, .agg [I p.n, .bool p.last, .ae], ?_, .ae,rfl,[],kH.set _ (.inr (by omega)) (by omega), .inl ⟨rfl,by rw[d0];rfl,rfl⟩,by simp⟩;rw[h0,l0];rfl
  ·have b1:∀s,aj .lss none true (.int .u64 ((p.n:Nat):Int)) (.int .u64 1) s= .ok (.bool false) s:=fun s=>by
    rw[aw,cP,aAB (by omega)]
   have b2:∀s,aj .gtr none true (.int .u64 ((p.n:Nat):Int)) (.int .u64 4611686018427387904) s= .ok (.bool false) s:=fun s=>by
    rw[aw,dq,aAB (by omega)]
   have b3:∀s,aj .gtr none true (I p.data.length) (.int .i64 501) s= .ok (.bool false) s:=fun s=>by
    rw[aw,dq,aAB (by omega)]
   have b4:∀s,dB (.toInt .i64) (.int .u64 ((p.n:Nat):Int)) s= .ok (I p.n) s:=fun s=>DK _ (by omega) _ _;have e8:∀s,fI 512 1 (.ptr st.next 0) (.int .i64 8) s= .ok (.ptr st.next 8) s:=fun s=>rfl;generalize XA:St.new (St.skip S) (.cells [.int .i64 0, .bool false, .ae] 200 false)=S3;have acX:S3.next=st.next+4:=by rw[<-XA];simp;omega
   have ku:Kp [] st S3:=by rw[<-XA];exact kH.skip.new _
   have tA:S3.mem.get S.next=none:=by rw[<-XA,aZ _ _ _ (by simp)];exact kH.fresh hf _ (aAE _)
   have hpc:S3.mem.get (st.next+3)=some (.cells [.int .i64 0, .bool false, .ae] 200 false):=by
    have:st.next+3=(St.skip S).next:=by simp;omega
    rw[this,<-XA];exact au _ _
   have qa:S3.mem.get st.next=some (.cells (ai p.bY) 233 false):=by rw[<-XA,aZ _ _ _ (by simp;omega)];exact g1
   have HV:S3.mem.get (st.next+1)=some (.cells [.int .i64 0, .bool false, .ae] 200 false):=by rw[<-XA,aZ _ _ _ (by simp;omega)];exact g2
   have b8:∀s,aj .eql (some .int) true (bO (if p.last=true then 1 else 0)) (.int .u8 1) s= .ok (.bool p.last) s:=fun s=>by cases p.last<;>rfl
   have ajM:(St.skip S).next=st.next+3:=by simp;omega
   simp only[b1,af,aH,bo,aG,aAY,aAT,aAz,aAO,ag,b2,b3,bt,b4,e8,aA,qa,aq,DV,av,b8,hSn,ajM];rw[hSn]at tA;have yZ:fX ([]:List ta) (cH 0 [CV.int .u8 0])=some []:=rfl;rw[jb tA yZ,aS]
   have c1:∀s,aj .add none true (.int .i64 11) (I p.data.length) s= .ok (I ((11+p.data.length:Nat):Int)) s:=fun s=>by
    rw[aw,cE,bz (by omega)];rfl
   have c2:∀s,bR 512 1 (.ptr st.next 0) (some (.int .i64 11)) (some (I ((11+p.data.length:Nat):Int))) s= .ok (.slice st.next 11 p.data.length 501 0) s:=fun s=>by
    have:=pP (n:=512) (b:=st.next) (l:=11) (h:=11+p.data.length) (by omega) (by omega) (by omega) s;rw[aCE]at this;exact this
   have sv:Kp [] st (St.set S3 (st.next+2) (.cells [] 5 false)):=ku.set _ (.inr (by omega)) (by omega);have awy:(St.set S3 (st.next+2) (.cells [] 5 false)).next=st.next+4:=acX;have LM:(St.set S3 (st.next+2) (.cells [] 5 false)).mem.get st.next=some (.cells (ai p.bY) 233 false):=by rw[al _ _ _ _ (by omega)];exact qa
   have PR:(St.set S3 (st.next+2) (.cells [] 5 false)).mem.get (st.next+1)=some (.cells [.int .i64 0, .bool false, .ae] 200 false):=by rw[al _ _ _ _ (by omega)];exact HV
   have Uk:(St.set S3 (st.next+2) (.cells [] 5 false)).mem.get (st.next+3)=some (.cells [.int .i64 0, .bool false, .ae] 200 false):=by rw[al _ _ _ _ (by omega)];exact hpc
   have ho4:Own (St.set S3 (st.next+2) (.cells [] 5 false)) (.slice (st.next+2) 0 0 0 0) 1 5 [] [st.next+2]:= .inr (.inl ⟨_,_,_,_,rfl,rfl,rfl,ao _ _ _⟩);generalize St.set S3 (st.next+2) (.cells [] 5 false)=S4 at*;have kL:Sl S4 [] (.slice st.next 11 p.data.length 501 0) 1 (ai p.data):= .inr ⟨st.next,11,p.data.length,501,0,rfl,by simp,⟨Dt, .inl rfl⟩, .inr ⟨by simp,by omega,_,_,_,LM,by rw[sY];omega,by rw[aCo];exact DU p⟩⟩;have c3:=(kL.OZ (by omega) p.data.length (by simp)).1
   have c4:cV .slice 1 [(.int .u8 0)] (.slice st.next 11 p.data.length 501 0) S4=some (p.data.length,ai p.data):=by
    have e:cV .slice 1 [(.int .u8 0)] (.slice st.next 11 p.data.length 501 0) S4=(match dG 1 p.data.length (.slice st.next 11 p.data.length 501 0) S4 with|some s=>some (p.data.length,s)|none=>none):=rfl;rw[e,c3]
   obtain⟨v',S7,F',d1,d2,d3,d4⟩:=ho4.append (n:=p.data.length) (bytes:=1) (T:=ai p.data) (by omega) (by simp) (bB _) (by simp;omega) (by simp;omega);rw[aBf]at d2;obtain⟨o1,o2⟩:=d2.cr
   have qC:∀b∈F',st.next+2<=b/\b<S7.next/\b≠st.next+3:=fun b hb=>by
    obtain⟨h1,h2⟩:=d4 b hb;simp at h1;omega
   have o3:v'.isAny=false:=(d2.sl (X:=[]) fun b hb=>⟨by simp,(qC b hb).2.1⟩).bG.1;have k7:∀b,b<st.next+4->b≠st.next+2->S7.mem.get b=S4.mem.get b:=fun b h1 h2=>d3.keep b (by omega) (by simpa using h2);have hn7:st.next+4<=S7.next:=by have:=d3.next;omega
   have hk7:Kp [] st S7:=sv.trans d3 (by simp);have Sc:=(k7 st.next (by omega) (by omega)).trans LM;have g27:=(k7 (st.next+1) (by omega) (by omega)).trans PR;have g37:=(k7 (st.next+3) (by omega) (by omega)).trans Uk
   have mC:bD [.int .i64 0, .bool false, .ae] [(0,1,I p.n),(1,1, .bool p.last),(2,1,v')] S7= .ok (.agg [I p.n, .bool p.last,v']) S7:=by
    rw[dN];simp[cF,bp,o2,o3]
   simp only[c1,af,c2,c4,d1,aS,mC,jt g37,jt Uk,aF,g37,aR,aX,LM,Sc,aA,aq,DV,av];have jZ:bp [.int .i64 0, .bool false, .ae] 0 [I p.n, .bool p.last,v']=[I p.n, .bool p.last,v']:=dY _ _ rfl;rw[jZ];refine⟨⟨rfl,by simp[o1],by decide⟩,⟨⟨trivial,trivial,trivial⟩,⟨trivial,trivial,trivial⟩,trivial⟩,⟨trivial,trivial⟩, ?_⟩;have PH:Kp [] st (St.set S7 (st.next+3) (.cells [I p.n, .bool p.last,v'] 200 false)):=hk7.set _ (.inr (by omega)) (by omega);have Um:(St.set S7 (st.next+3) (.cells [I p.n, .bool p.last,v'] 200 false)).mem.get st.next=some (.cells (ai p.bY) 233 false):=by rw[al _ _ _ _ (by omega)];exact Sc
   have Zk:(St.set S7 (st.next+3) (.cells [I p.n, .bool p.last,v'] 200 false)).mem.get (st.next+1)=some (.cells [.int .i64 0, .bool false, .ae] 200 false):=by rw[al _ _ _ _ (by omega)];exact g27
   have Zj:(St.set S7 (st.next+3) (.cells [I p.n, .bool p.last,v'] 200 false)).mem.get (st.next+3)=some (.cells [I p.n, .bool p.last,v'] 200 false):=ao _ _ _;have d9:Own (St.set S7 (st.next+3) (.cells [I p.n, .bool p.last,v'] 200 false)) v' 1 5 (ai p.data) F':=d2.mono fun b hb=>al _ _ _ _ (qC b hb).2.2;have hn9:(St.set S7 (st.next+3) (.cells [I p.n, .bool p.last,v'] 200 false)).next=S7.next:=rfl;generalize St.set S7 (st.next+3) (.cells [I p.n, .bool p.last,v'] 200 false)=S9 at*;have Kx:∀s:St,s.mem.get (st.next+3)=some (.cells [I p.n, .bool p.last,v'] 200 false)->aI 3 (.ptr (st.next+3) 0) s= .ok (.agg [I p.n, .bool p.last,v']) s:=fun s hs=>aQ hs rfl;have E4:∀s:St,s.mem.get st.next=some (.cells (ai p.bY) 233 false)->aI 512 (.ptr st.next 0) s= .ok (.agg (ai p.bY)) s:=fun s hs=>aQ hs sY;rw[Kx S9 Zj,af];refine(AL (p:=p) (d9.sl (X:=[]) fun b hb=>⟨by simp,by have:=(qC b hb).2.1;omega⟩) Dt (by omega)).mono ?_;rintro x Lj ⟨rfl,oC⟩;have XU:=(oC.keep st.next (by omega) (by simp)).trans Um;have XT:=(oC.keep (st.next+1) (by omega) (by simp)).trans Zk;have HU:=(oC.keep (st.next+3) (by omega) (by simp)).trans Zj
   have q1:aj .neq (some (.bytes 512)) false (.agg (ai p.bY)) (.agg (ai p.bY)) Lj= .ok (.bool false) Lj:=by
    rw[Kc _ _ _ hlen hlen];simp
   have q2:aj .neq (some .int) true (I p.data.length) (.int .i64 501) Lj= .ok (.bool (!decide (p.data.length=501))) Lj:=by
    rw[aw,ff];congr 3;simp only[aBc];omega
   simp only[E4 Lj XU,E4 S9 Um,af,q1,aH,bo,cB,aAT,aAz,aAY,aAO,ah,aA,HU,aq,aAF,aAA,aAy,av,dm];have q3:(!p.last)=true->p.data.length=501:=fun h=>hp4 h0 (by simpa using h)
   have q4:us (aY (some !p.last) Lj (.ok (I p.data.length) Lj)) fun pB=>us (aY (some !p.last) Lj (aj .neq (some .int) true pB (.int .i64 501) Lj)) fun ux=>us (ba (.bool !p.last) ux (.bool false) Lj) fun qK=>qK= .bool false:=by
    cases hl:p.last with
    |true=>simp
    |false=>
     have:=q3 (by rw[hl];rfl);simp only[aAT,bo,af,q2,aG,aAY];rw[this];rfl
   refine kM q4 fun _ h1=>kM h1 fun _ h2=>kM h2 fun _ h3=> ?_;subst h3;simp only[aG,aAz,aAO,af,ag,Kx Lj HU,XT,aR,aX,jZ];refine⟨⟨trivial,⟨trivial,trivial⟩,trivial,trivial⟩,trivial,⟨rfl,by simp[o1],by decide⟩, ?_⟩;rw[aQ (n:=3) (ao Lj (st.next+1) (.cells [I p.n, .bool p.last,v'] 200 false)) rfl,af];have ace:Kp [] st Lj:=PH.trans oC (by simp);have avr:=oC.next;refine⟨.agg [I p.n, .bool p.last,v'],by rw[aAJ h0],v',rfl,F',ace.set _ (.inr (by omega)) (by omega),d9.mono fun b hb=> ?_,fun b hb=>⟨by have:=(qC b hb).1;omega,by have:=(qC b hb).2.1;simp;omega⟩⟩;obtain⟨h1,h2,h3⟩:=qC b hb;rw[al _ _ _ _ (by omega)];exact oC.keep b (by omega) (by simp)
end
section
variable {st st':St}
structure RingM where
 first:Nat
 count:Nat
 base:Nat
 last:Nat
 top:Nat
def fE (st:St)(r a:Nat)(m:RingM):Prop:=r<st.next/\st.mem.get r=some (.cells [.ptr a 0,I m.first,I m.count,I m.base,I m.last,I m.top] 198 false)
theorem fE.keep {r a:Nat}{m:RingM}{X:List Nat}(h:fE st r a m)(hk:Kp X st st')(hx:r∉X):fE st' r a m:=⟨aAZ h.1 hk.next,by rw[hk.keep r h.1 hx];exact h.2⟩
def RingM.place (m:RingM)(n:Nat):Nat:=m.first+n%m.count
theorem yl {r a:Nat}{m:RingM}(h:fE st r a m)(h0:0<m.count)(hs:m.first+m.count<=1000000){n:Nat}(hn:n<=9000000000000000000):R 153 [.ptr r 0,I n] st fun v st'=>v=I (m.place n)/\st'=st:=by
 obtain⟨h1,h2⟩:=h;refine bN ?_;rw[agV];have e1:¬((m.count:Int)=0):=by omega
 have e2:IntKind.i64.wrap ((m.first:Int)+Int.tmod n m.count)=((m.place n:Nat):Int):=by
  have hm:n%m.count<m.count:=Nat.mod_lt _ h0;have:Int.tmod (n:Int) m.count=((n%m.count:Nat):Int):=by rw[Int.tmod_eq_emod_of_nonneg (by omega)];rfl
  rw[this];unfold RingM.place;rw[bz (by omega)];omega
 have e3:¬m.count=0:=by omega
 simp[h2,e1,e2,e3]
theorem vR {r a:Nat}{m:RingM}{F:List Nat}{D:aT}(h:fE st r a m)(hd:du st a F D):R 171 [.ptr r 0] st fun v st'=>v=I (if D.dead=true then 20 else 0)/\st'=st:=by
 obtain⟨h1,h2⟩:=h;refine bN ?_;rw[agK];simp[fm,h2];refine(Sj hd).same ?_;cases D.dead<;>simp
theorem BH {r a:Nat}{m:RingM}(h:fE st r a m):R 173 [.ptr r 0] st fun v st'=>v= .bool (decide (m.last<m.top))/\st'=st:=by
 obtain⟨h1,h2⟩:=h;refine bN ?_;rw[agI];simp[h2]
theorem L9 {r a:Nat}{m:RingM}(h:fE st r a m):R 74 [.ptr r 0] st fun v st'=>v=I m.top/\st'=st:=by
 obtain⟨h1,h2⟩:=h;refine bN ?_;rw[w74];simp[fm,h2]
def RingM.room (m:RingM):Int:=if m.last<m.top then 0 else (m.count:Int)-((m.last:Int)-m.base)
theorem IA {r a:Nat}{m:RingM}(h:fE st r a m)(h1:m.count<=1000000)(h2:m.base<=4611686018427387904)(h3:m.last<=4611686018427387904):R 174 [.ptr r 0] st fun v st'=>v=I m.room/\st'=st:=by
 have h':=h;obtain⟨g1,g2⟩:=h;refine bN ?_;rw[agH];simp;refine(BH h').same ?_
 by_cases ht:m.last<m.top
 ·simp[ht,RingM.room]
 ·have e1:IntKind.i64.wrap ((m.last:Int)-m.base)=(m.last:Int)-m.base:=bz (by omega);have e2:IntKind.i64.wrap ((m.count:Int)-((m.last:Int)-m.base))=(m.count:Int)-((m.last:Int)-m.base):=bz (by omega);simp[ht,g2,RingM.room,e1,e2]
def bj (n:Nat):Nat:=if n=0 then 1 else (n-1)/501+1
theorem AS {n:Nat}(hn:n<=1000000000):R 172 [I n] st fun v st'=>v=I (bj n)/\st'=st:=by
 refine bN ?_;rw[agJ];have e0:¬(n:Int)<0:=by omega
 by_cases h0:n=0
 ·simp[h0,bj]
 ·have e1:IntKind.i64.wrap ((n:Int)-1)=((n-1:Nat):Int):=by rw[bz (by omega)];omega
  have e2:IntKind.i64.wrap (Int.tdiv ((n-1:Nat):Int) 501)=(((n-1)/501:Nat):Int):=by
   have:Int.tdiv ((n-1:Nat):Int) 501=(((n-1)/501:Nat):Int):=rfl;rw[this,bz (by omega)]
  have e3:IntKind.i64.wrap ((((n-1)/501:Nat):Int)+1)=((bj n:Nat):Int):=by
   rw[bz (by omega)];unfold bj;rw[aAH h0];omega
  have e4:¬(n:Int)=0:=by omega
  simp only[aw,cP,cz,dW,MO,cE,af,ag,e0,e4,aCi,aAz,aAO,e1,L0,e2,e3];simp
theorem Qs {r a:Nat}{m:RingM}{F:List Nat}{D:aT}(h:fE st r a m)(hd:du st a F D)(hw:D.waits.length<=1000000000):R 132 [.ptr r 0] st fun v st'=>v=I (if D.flush.1=0 then 0 else 20)/\rK a F st D.flush.2 st':=by
 have h':=h;obtain⟨h1,h2⟩:=h;refine bN ?_;rw[ahn];refine(vR h' hd).same ?_
 by_cases qI:D.dead=true
 ·have e:D.flush=(20,D):=by simp[aT.flush,qI]
  simp[qI,e];exact⟨Kp.refl _ _,F,hd,fun b hb=> .inl hb⟩
 ·simp[qI,fm,h2];refine(vn hd hw).mono ?_;rintro _ s ⟨rfl,ht⟩
  by_cases h0:D.flush.1=0<;>simp[h0,ht]
theorem rK.refl {a:Nat}{F:List Nat}{D:aT}(hd:du st a F D):rK a F st D st:=⟨Kp.refl _ _,F,hd,fun b hb=> .inl hb⟩
theorem DZ {r a:Nat}{m:RingM}{F:List Nat}{D:aT}{p:Piece}{at_:Nat}(hf:cY st)(h:fE st r a m)(hd:du st a F D)(hr:r∉F)(qI:D.dead=false)(h0:0<m.count)(hs:m.first+m.count<=1000000)
 (pz:at_<D.ay.length) (hp:p.ok) (hc:D.cur at_=p.bY):R 114 [.ptr r 0,I at_] st fun x st'=>∃y,x= .tuple [y, .bool (decide (p.n≠0/\m.place p.n=at_)),I 0]/\Yl p st y st':=by
 have h':=h;obtain⟨h1,h2⟩:=h;refine bN ?_;rw[ahA];have px:Kp [] st (St.new st (.cells [.int .i64 0, .bool false, .ae] 200 false)):=(Kp.refl [] st).new _;have g1:(St.new st (.cells [.int .i64 0, .bool false, .ae] 200 false)).mem.get st.next=some (.cells [.int .i64 0, .bool false, .ae] 200 false):=au _ _;have g2:=(px.keep r h1 (by simp)).trans h2;have PK:=hd.keep px (by simp);have Bf:(St.new st (.cells [.int .i64 0, .bool false, .ae] 200 false)).next=st.next+1:=rfl;simp only[cG,aS];generalize St.new st (.cells [.int .i64 0, .bool false, .ae] 200 false)=S1 at*;simp[fm,g2];refine(xz PK at_).mono ?_;intro x S2 hx
 have er:D.read at_=(0,p.bY):=by
  simp[aT.read,qI,hc,Int.not_le.mpr (show(at_:Int)<D.ay.length by omega)]
 rw[er,aAI rfl]at hx;obtain⟨kH,hl,b,rfl,g3,b1,b2⟩:=hx;have awz:=kH.next;have Gj:nZ 512 (.slice b 0 512 512 1) S2= .ok (.ptr b 0) S2:=rfl;have LG:(ai p.bY).length=512:=by simp[hl]
 simp only[aD,aN,af,aw,ff,aBA,aAU,ag,aAz,aAO,Gj,aQ g3 LG];refine(Hf (kH.fresh (px.fresh hf)) hp).mono ?_;rintro _ S3 ⟨_,rfl,v,rfl,Fv,ku,ho,KE⟩;have HK:Kp [] st S3:=(px.trans kH (by simp)).trans ku (by simp)
 have qa:S3.mem.get st.next=some (.cells [.int .i64 0, .bool false, .ae] 200 false):=by
  rw[ku.keep _ (by omega) (by simp),kH.keep _ (by omega) (by simp)];exact g1
 have acX:=ku.next;obtain⟨o1,o2⟩:=ho.cr;have jZ:bp [.int .i64 0, .bool false, .ae] 0 [I p.n, .bool p.last,v]=[I p.n, .bool p.last,v]:=dY _ _ rfl;have kG:bp [I p.n, .bool p.last,v] 0 [I p.n, .bool p.last,v]=[I p.n, .bool p.last,v]:=dY _ _ rfl;simp only[aD,aN,af,aF,qa,aR,aX,jZ,bt];refine⟨⟨rfl,by simp[o1],by decide⟩, ?_⟩;have sv:Kp [] st (St.set S3 st.next (.cells [I p.n, .bool p.last,v] 200 false)):=HK.set _ (.inr (aAE _)) (by omega);have g4:(St.set S3 st.next (.cells [I p.n, .bool p.last,v] 200 false)).mem.get st.next=some (.cells [I p.n, .bool p.last,v] 200 false):=ao _ _ _;have ho4:Own (St.set S3 st.next (.cells [I p.n, .bool p.last,v] 200 false)) v 1 5 (ai p.data) Fv:=ho.mono fun q hq=>al _ _ _ _ (by have:=(KE q hq).1;omega);have YX:(St.set S3 st.next (.cells [I p.n, .bool p.last,v] 200 false)).next=S3.next:=rfl;have hr4:=h'.keep sv (by simp);generalize St.set S3 st.next (.cells [I p.n, .bool p.last,v] 200 false)=S4 at*;refine⟨by simp, ?_⟩;have ht3:List.take 3 [I p.n,CV.bool p.last,v]=[I p.n, .bool p.last,v]:=rfl
 have fin:∀bb:Bool,bb=(!decide (p.n=0)&&decide (m.place p.n=at_))->Yl p st (.agg [I p.n, .bool p.last,v]) (St.set S4 st.next (.cells [I p.n, .bool p.last,v] 200 false)):=fun bb _=>
  ⟨v,rfl,Fv,sv.set _ (.inr (aAE _)) (by omega),ho4.mono fun q hq=>al _ _ _ _ (by have:=(KE q hq).1;omega),fun q hq=>⟨by have:=(KE q hq).1;omega,by have:=(KE q hq).2;simp;omega⟩⟩
 by_cases Wu:p.n=0
 ·simp[Wu,g4,o1];have CK:bp [I 0,CV.bool p.last,v] 0 [I 0,CV.bool p.last,v]=[I 0,CV.bool p.last,v]:=dY _ _ rfl;rw[CK];have:=fin _ rfl;rw[Wu]at this;exact this
 ·simp only[Wu,ne_eq,not_false_eq_true,aBA,aH,aAY,bo,af,aA,g4,aq,aAy,av,fh];have Tx:=hp.1;refine(yl hr4 h0 hs (n:=p.n) (by omega)).same ?_;simp[g4,o1,kG,Wu];exact⟨_,⟨rfl,by omega⟩,fin _ rfl⟩
end
section
variable {st st':St}
structure rM (D:aT)(m:RingM)(P:Nat->Piece):Prop where
 pos:0<m.count
 fits:m.first+m.count<=D.ay.length
 jv:D.ay.length<=65536
 base:m.base<=4611686018427387904
 cur:∀j,j<m.count->D.cur (m.first+j)=(P j).bY/\(P j).ok
def oG (st:St)(f:CV)(c q r n:Nat):Prop:=f= .func (.func 191) [] [.ptr c 0, .ptr q 0]/\c<st.next/\q<st.next/\c≠q/\st.mem.get c=some (.cells [I n] 3 false)/\st.mem.get q=some (.cells [.ptr r 0] 146 false)
theorem oG.keep {f:CV}{c q r n:Nat}{X:List Nat}(h:oG st f c q r n)(hk:Kp X st st')(h1:c∉X)(h2:q∉X):oG st' f c q r n:=by
 obtain⟨g1,g2,g3,g4,g5,g6⟩:=h;exact⟨g1,aAZ g2 hk.next,aAZ g3 hk.next,g4,by rw[hk.keep c g2 h1];exact g5,by rw[hk.keep q g3 h2];exact g6⟩
theorem He {r a:Nat}{m:RingM}(h:fE st r a m):R 154 [.ptr r 0] st fun f st'=>Kp [] st st'/\∃c q,oG st' f c q r m.base/\st.next<=c/\st.next<=q:=by
 obtain⟨h1,h2⟩:=h;refine bN ?_;rw[agU];have g2:(St.new st (.cells [.ptr r 0] 146 false)).mem.get r=st.mem.get r:=aZ _ _ _ h1;have ajO:CV.cD (.ptr r 0)=[.ptr r 0]:=rfl;have Xz:CV.isAny (.ptr r 0)=false:=rfl;simp only[cn,ajO,Xz,aA,au,aq,aAy,av,fm,br,ah,af,g2,h2,aAF,aAA,cG,aS,aF,aR,l6];have jZ:bp [.int .i64 0] 0 [I m.base]=[I m.base]:=dY _ _ rfl;refine⟨trivial,⟨rfl,rfl,by decide⟩, ?_,(St.new st (.cells [.ptr r 0] 146 false)).next,st.next,⟨rfl, ?_, ?_, ?_, ?_, ?_⟩, ?_,aAE _⟩
 ·exact(((Kp.refl [] st).new _).new _).set _ (.inr (by simp)) (by simp)
 ·simp
 ·simp;omega
 ·simp
 ·rw[ao];exact congrArg some (congrArg (fun l=>qJ.cells l 3 false) jZ)
 ·rw[al _ _ _ _ (by simp),aZ _ _ _ (by simp)];exact au _ _
 ·simp
def RingM.is (m:RingM)(P:Nat->Piece)(n:Nat):Prop:=(P (n%m.count)).n=n
instance (m:RingM) (P:Nat->Piece) (n:Nat):Decidable (m.is P n):=by unfold RingM.is;infer_instance
theorem M0 {f:CV}{c q r a n:Nat}{m:RingM}{D:aT}{P:Nat->Piece}(h:fE st r a m)(hp:rM D m P)(hn:oG st f c q r n)(he:n=m.base+m.count):fB R f [] st fun x st'=>x= .tuple [.agg [.int .i64 0, .bool false, .ae], .bool false,I 0]/\Kp [] st st':=by
 obtain⟨h1,h2⟩:=h;obtain⟨rfl,g2,g3,g4,g5,g6⟩:=hn;rw[dP];refine bN ?_;simp only[aBf];rw[ZC];have k1:∀b,b<st.next->(St.new st (.cells [.int .i64 0, .bool false, .ae] 200 false)).mem.get b=st.mem.get b:=fun b hb=>aZ _ _ _ hb;have e1:IntKind.i64.wrap ((n:Int)-m.base)=(m.count:Int):=by have:=hp.base;have:=hp.fits;have:=hp.jv;rw[bz (by omega)];omega
 simp only[cG,aS,bt,aA,k1 c g2,g5,k1 q g3,g6,aq,aAy,av,br,ah,af,k1 r h1,h2,aAF,aAA,aw,dW,e1,cz,aBA,ag,aAY,dN,kv,aF,au,aR,aX];have jZ:bp [.int .i64 0, .bool false, .ae] 0 [.int .i64 0, .bool false, .ae]=[.int .i64 0, .bool false, .ae]:=dY _ _ rfl;refine⟨⟨trivial,trivial,trivial,trivial,trivial,trivial⟩,trivial,⟨rfl,rfl,by decide⟩, ?_⟩;rw[aQ (n:=3) (ao _ _ _) rfl,af,jZ];exact⟨rfl,((Kp.refl [] st).new _).set _ (.inr (aAE _)) (by simp)⟩
def Uw (p:Piece)(X:List Nat)(st:St)(y:CV)(st':St):Prop:=∃v Fv,y= .agg [I p.n, .bool p.last,v]/\Kp X st st'/\Own st' v 1 5 (ai p.data) Fv/\∀b∈Fv,st.next<=b/\b<st'.next
theorem QX {f:CV}{c q r a n:Nat}{m:RingM}{F:List Nat}{D:aT}{P:Nat->Piece}(hf:cY st)(h:fE st r a m)(hd:du st a F D)(hr:r∉F)(qI:D.dead=false)(hp:rM D m P)(hn:oG st f c q r n)(he:n≠m.base+m.count)(hb:m.base<=n)(hl:n<m.base+m.count)(hrc:r≠c)(hrq:r≠q)(hcF:c∉F):
 fB R f [] st fun x st'=>∃y,x= .tuple [y, .bool (decide (m.is P (n+1))),I 0]/\Uw (P ((n+1)%m.count)) [c] st y st'/\oG st' f c q r (n+1):=by
 have h':=h;obtain⟨h1,h2⟩:=h;have hn':=hn;obtain⟨rfl,g2,g3,g4,g5,g6⟩:=hn;rw[dP];refine bN ?_;simp only[aBf];rw[ZC];have k1:∀b,b<st.next->(St.new st (.cells [.int .i64 0, .bool false, .ae] 200 false)).mem.get b=st.mem.get b:=fun b hb=>aZ _ _ _ hb;have q1:=hp.base;have q2:=hp.fits;have q3:=hp.jv;have e1:IntKind.i64.wrap ((n:Int)-m.base)=(n:Int)-m.base:=bz (by omega);have e2:¬((n:Int)-m.base=m.count):=by omega
 have e3:IntKind.i64.wrap ((n:Int)+1)=((n+1:Nat):Int):=by rw[bz (by omega)];rfl
 simp only[cG,aS,bt,aA,k1 c g2,g5,k1 q g3,g6,aq,aAy,av,br,ah,af,k1 r h1,h2,aAF,aAA,aw,dW,e1,cz,e2,aCi,ag,aAz,aAO,cE,e3,aF,aR];refine⟨⟨trivial,trivial,trivial,trivial,trivial,trivial⟩,trivial,⟨rfl,rfl,by simp⟩, ?_⟩;have jZ:bp [I n] 0 (CV.cD (I ((n+1:Nat):Int)))=[I ((n+1:Nat):Int)]:=dY _ _ rfl;have abv:bp [I n] 0 (CV.cD (.int .i64 ((n+1:Nat):Int)))=[I ((n+1:Nat):Int)]:=jZ;rw[abv];have hn3:(St.set (St.new st (.cells [.int .i64 0, .bool false, .ae] 200 false)) c (.cells [I ((n+1:Nat):Int)] 3 false)).next=st.next+1:=rfl;have sv:Kp [c] st (St.new (St.set (St.new st (.cells [.int .i64 0, .bool false, .ae] 200 false)) c (.cells [I ((n+1:Nat):Int)] 3 false)) (.cells [.int .i64 0, .bool false, .ae] 200 false)):=(((Kp.refl _ st).new _).set _ (.inl (by simp)) (by simp;omega)).new _
 have c4:(St.new (St.set (St.new st (.cells [.int .i64 0, .bool false, .ae] 200 false)) c (.cells [I ((n+1:Nat):Int)] 3 false)) (.cells [.int .i64 0, .bool false, .ae] 200 false)).mem.get c=some (.cells [I ((n+1:Nat):Int)] 3 false):=by
  rw[aZ _ _ _ (by simp;omega),ao]
 have x4:(St.new (St.set (St.new st (.cells [.int .i64 0, .bool false, .ae] 200 false)) c (.cells [I ((n+1:Nat):Int)] 3 false)) (.cells [.int .i64 0, .bool false, .ae] 200 false)).mem.get st.next=some (.cells [.int .i64 0, .bool false, .ae] 200 false):=by
  rw[aZ _ _ _ (by simp),al _ _ _ _ (by omega)];exact au _ _
 have y4:(St.new (St.set (St.new st (.cells [.int .i64 0, .bool false, .ae] 200 false)) c (.cells [I ((n+1:Nat):Int)] 3 false)) (.cells [.int .i64 0, .bool false, .ae] 200 false)).mem.get (st.next+1)=some (.cells [.int .i64 0, .bool false, .ae] 200 false):=by
  have:=au (St.set (St.new st (.cells [.int .i64 0, .bool false, .ae] 200 false)) c (.cells [I ((n+1:Nat):Int)] 3 false)) (.cells [.int .i64 0, .bool false, .ae] 200 false);exact this
 have YX:(St.new (St.set (St.new st (.cells [.int .i64 0, .bool false, .ae] 200 false)) c (.cells [I ((n+1:Nat):Int)] 3 false)) (.cells [.int .i64 0, .bool false, .ae] 200 false)).next=st.next+2:=rfl;rw[hn3];generalize St.new (St.set (St.new st (.cells [.int .i64 0, .bool false, .ae] 200 false)) c (.cells [I ((n+1:Nat):Int)] 3 false)) (.cells [.int .i64 0, .bool false, .ae] 200 false)=S4 at*;have q4:S4.mem.get q=some (.cells [.ptr r 0] 146 false):=(sv.keep q g3 (by simp;exact aBE g4)).trans g6;have r4:=h'.keep sv (by simpa using hrc);have d4:=hd.keep sv (fun b hb=>by simp;exact fun e=>hcF (e▸hb));have HE:m.place (n+1)=m.first+(n+1)%m.count:=rfl;have RA:(n+1)%m.count<m.count:=Nat.mod_lt _ hp.pos;obtain⟨u1,u2⟩:=hp.cur _ RA;simp only[q4,c4,aq,aAy,av];refine(yl r4 hp.pos (by omega) (n:=n+1) (by omega)).same ?_;refine(DZ (sv.fresh hf) r4 d4 hr qI hp.pos (by omega) (at_:=m.place (n+1)) (by omega) u2 u1).mono ?_;rintro _ S5 ⟨_,rfl,v,rfl,Fv,E7,ho,KE⟩;have hn5:=E7.next;have c5:=(E7.keep c (by omega) (by simp)).trans c4;have q5:=(E7.keep q (by omega) (by simp)).trans q4;have x5:=(E7.keep st.next (by omega) (by simp)).trans x4;have y5:=(E7.keep (st.next+1) (by omega) (by simp)).trans y4;obtain⟨o1,o2⟩:=ho.cr;generalize hP:P ((n+1)%m.count)=p at*;have kG:bp [.int .i64 0, .bool false, .ae] 0 [I p.n, .bool p.last,v]=[I p.n, .bool p.last,v]:=dY _ _ rfl;simp only[aD,aN,af,jt y5,jt y4,aS,aF,y5,aR,aX,kG,q4,aq,aAy,av];refine⟨⟨rfl,by simp[o1],by decide⟩,⟨⟨trivial,trivial⟩,trivial,trivial,⟨trivial,trivial,trivial⟩,trivial⟩,trivial, ?_⟩;have CP:Kp [c] st (St.set S5 (st.next+1) (.cells [I p.n, .bool p.last,v] 200 false)):=(sv.trans E7 (by simp)).set _ (.inr (by omega)) (by omega);have c6:(St.set S5 (st.next+1) (.cells [I p.n, .bool p.last,v] 200 false)).mem.get c=some (.cells [I ((n+1:Nat):Int)] 3 false):=by rw[al _ _ _ _ (by omega)];exact c5
 have q6:(St.set S5 (st.next+1) (.cells [I p.n, .bool p.last,v] 200 false)).mem.get q=some (.cells [.ptr r 0] 146 false):=by rw[al _ _ _ _ (by omega)];exact q5
 have x6:(St.set S5 (st.next+1) (.cells [I p.n, .bool p.last,v] 200 false)).mem.get st.next=some (.cells [.int .i64 0, .bool false, .ae] 200 false):=by rw[al _ _ _ _ (by omega)];exact x5
 have y6:(St.set S5 (st.next+1) (.cells [I p.n, .bool p.last,v] 200 false)).mem.get (st.next+1)=some (.cells [I p.n, .bool p.last,v] 200 false):=ao _ _ _;have o6:Own (St.set S5 (st.next+1) (.cells [I p.n, .bool p.last,v] 200 false)) v 1 5 (ai p.data) Fv:=ho.mono fun b hb=>al _ _ _ _ (by have:=(KE b hb).1;omega);have hn6:(St.set S5 (st.next+1) (.cells [I p.n, .bool p.last,v] 200 false)).next=S5.next:=rfl;generalize St.set S5 (st.next+1) (.cells [I p.n, .bool p.last,v] 200 false)=S6 at*;have Y4:∀bb:Bool,True:=fun _=>trivial
 have Ky:decide (m.is P (n+1))=(decide (p.n≠0/\m.place p.n=m.place (n+1))&&decide (p.n=n+1)):=by
  have ali:m.is P (n+1)↔p.n=n+1:=by unfold RingM.is;rw[hP]
  rw[show decide (m.is P (n+1))=decide (p.n=n+1)from decide_eq_decide.2 ali]
  by_cases e:p.n=n+1
  ·simp[e]
  ·simp[e]
 have fin:∀S7:St,S7=St.set S6 st.next (.cells [I p.n, .bool p.last,v] 200 false)->Uw p [c] st (.agg [I p.n, .bool p.last,v]) S7/\oG S7 (.func (.func 191) [] [.ptr c 0, .ptr q 0]) c q r (n+1):=by
  rintro _ rfl;refine⟨⟨v,Fv,rfl,CP.set _ (.inr (aAE _)) (by omega),o6.mono fun b hb=>al _ _ _ _ (by have:=(KE b hb).1;omega),fun b hb=>⟨by have:=(KE b hb).1;omega,by have:=(KE b hb).2;simp;omega⟩⟩,rfl,by simp;omega,by simp;omega,g4, ?_, ?_⟩
  ·rw[al _ _ _ _ (by omega)];exact c6
  ·rw[al _ _ _ _ (by omega)];exact q6
 rw[aQ (n:=3) y6 rfl,af]
 by_cases Jm:p.n≠0/\m.place p.n=m.place (n+1)
 ·rw[aAJ Jm]at Ky⊢
  have qe:aj .eql (some .int) false (I p.n) (I ((n+1:Nat):Int)) S6= .ok (.bool (decide (p.n=n+1))) S6:=by
   rw[aw,cz];congr 2;simp only[aBc];omega
  simp only[aH,aAY,bo,ah,af,aA,y6,c6,aq,aAF,aAy,av,qe,aG,x6,aR,aF,aX,kG];rw[Bool.true_and]at Ky;have y7:(St.set S6 st.next (.cells [I p.n, .bool p.last,v] 200 false)).mem.get (st.next+1)=some (.cells [I p.n, .bool p.last,v] 200 false):=by rw[al _ _ _ _ (by omega)];exact y6
  have c7:(St.set S6 st.next (.cells [I p.n, .bool p.last,v] 200 false)).mem.get c=some (.cells [I ((n+1:Nat):Int)] 3 false):=by rw[al _ _ _ _ (by omega)];exact c6
  have x7:(St.set S6 st.next (.cells [I p.n, .bool p.last,v] 200 false)).mem.get st.next=some (.cells [I p.n, .bool p.last,v] 200 false):=ao _ _ _;obtain⟨f1,f2⟩:=fin _ rfl;simp only[y7,c7,aq,aAy,av];rw[aQ (n:=3) x7 rfl,af,Ky];exact⟨⟨rfl,by simp[o1],by decide⟩,⟨trivial,⟨trivial,trivial⟩,⟨trivial,trivial⟩,trivial⟩,trivial,_,rfl,f1,f2⟩
 ·rw[aAB Jm]at Ky⊢;simp only[aH,aAY,cB,aAz,aAO,af,aG,x6,aR,aF,aX,kG];rw[Bool.false_and]at Ky;have x7:(St.set S6 st.next (.cells [I p.n, .bool p.last,v] 200 false)).mem.get st.next=some (.cells [I p.n, .bool p.last,v] 200 false):=ao _ _ _;obtain⟨f1,f2⟩:=fin _ rfl;rw[aQ (n:=3) x7 rfl,af,Ky];exact⟨⟨rfl,by simp[o1],by decide⟩,⟨trivial,⟨trivial,trivial⟩,⟨trivial,trivial⟩,trivial⟩,trivial,_,rfl,f1,f2⟩
end
