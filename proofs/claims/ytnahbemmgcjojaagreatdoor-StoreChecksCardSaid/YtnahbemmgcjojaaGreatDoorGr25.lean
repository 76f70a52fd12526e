import Derived.Test.YtnahbemmgcjojaaGreatDoorGr24
import Derived.Test.YtnahbemmgcjojaaGreatDoorGr18
namespace Lim
open Go
noncomputable section
set_option maxRecDepth 100000
section
variable {st st' s:St} {a b κ τ k n:Nat} {π:PI} {p:SetM} {id cH:Int} {T N fr:Nat}
theorem JX (hn:n<=1):R 104 [I n] st fun y s=>∃l,y= .str l/\l.length=4/\Kp [] st s:=by
 refine bp ?_;rw[Sd];have h:n=0\/n=1:=by omega
 have key:∀c:UInt8,∀s,bI 5 4 (cM 4 [.int .u8 0]) [(0,1, .int .u8 0),(1,1, .int .u8 0),(2,1, .int .u8 0),(3,1,bo c)] s= .ok (.slice s.next 0 4 4 0) (St.new s (.cells (aj [0,0,0,c]) 5 false)):=fun c s=>rfl
 have fin:∀c:UInt8,upon (.ok (.slice st.next 0 4 4 0) (St.new st (.cells (aj [0,0,0,c]) 5 false))) fun x8 s1=>us (bQ .strOf x8 s1) fun x9=>∃l,x9= .str l/\l.length=4/\Kp [] st s1:=fun c=>by
  rw[bj];generalize hs1:St.new st (.cells (aj [0,0,0,c]) 5 false)=s1;obtain⟨k1,g1,n1⟩:=da hs1;have sl:Sl s1 [] (.slice st.next 0 4 4 0) 1 (aj [0,0,0,c]):= .inr ⟨st.next,0,4,4,0,rfl,rfl,⟨aga _, .inl rfl⟩, .inr ⟨by simp,by omega,_,_,_,g1,aga _,rfl⟩⟩;rw[sl.str,ae];exact⟨_,rfl,rfl,k1⟩
 rcases h with rfl|rfl
 ·exact fin 0
 ·exact fin 1
theorem Al (c:UInt8)(hf:dw st)(hn:n<=1):R 63 [bo c,I n] st fun y s=>∃l,y= .str l/\l.length=5/\Kp [] st s:=by
 refine bp ?_;rw[Zo,bG];have iX:(St.skip st).mem.get st.next=none:=hf _ (aga _);have kS:Kp [] st (St.skip st):=(Kp.refl _ _).skip;have nS:(St.skip st).next=st.next+1:=rfl;rw[mG iX (show eZ [(0,1,bo c)] (cM 1 [.int .u8 0])=some [bo c]from rfl),bj];generalize hs1:St.set (St.skip st) st.next (.cells [bo c] 5 false)=s1;have g1:s1.mem.get st.next=some (.cells [bo c] 5 false):=by rw[<-hs1];exact az _ _ _
 have k1:Kp [] st s1:=by rw[<-hs1];exact kS.set _ (.inr (aga _)) (by omega)
 have n1:s1.next=st.next+1:=by rw[<-hs1];rfl
 have sl:Sl s1 [] (.slice st.next 0 1 1 0) 1 (aj [c]):= .inr ⟨st.next,0,1,1,0,rfl,rfl,⟨aga _, .inl rfl⟩, .inr ⟨by simp,by omega,_,_,_,g1,aga _,rfl⟩⟩;rw[sl.str,ae];refine(JX hn).mono ?_;rintro _ s2 ⟨l,rfl,hl,k2⟩
 have e:ai .add none false (.str [c]) (.str l) s2= .ok (.str ([c]++l)) s2:=by
  rw[fV];show(if _ then _ else _)=_;rw[agl (by simp only[agT,ahV];omega)]
 rw[e,ae,(sl.mono k2).str,ae];refine⟨⟨⟨rfl,rfl,trivial⟩,trivial⟩,⟨⟨k2.keep st.next (by omega) (by simp),trivial⟩,trivial⟩,_,rfl,by simp[hl],k1.trans k2⟩
theorem Jp {h:Nat}(wT:kX κ τ π st [] [] T N fr)(hs:fR st h κ id n)(hn:n<4)(hf:dw st)(c:UInt8):R 31 [.ptr h 0,bo c] st fun y s=>∃x,y= .tuple [x,I 0]/\Kp [] st s/\Sl s [] x 2 []:=by
 refine bp ?_;rw[ZS,bD,ae,ah,agf (by decide),bG];have f0:(ly κ id n)[0]?=some (.ptr κ 0):=rfl;have f2:(ly κ id n)[2]?=some (I ((8+n:Nat):Int)):=rfl;have f9:(ly κ id n)[9]?=some (I ((0:Nat):Int)):=rfl;simp only[aV,ae,af,av,hs.2,ao,afZ,f0,f2,f9,au];refine(Al c hf (n:=0) (by omega)).mono ?_;rintro _ s1 ⟨l1,rfl,hl1,k1⟩;have g1:=(hs.still k1).2;have e1:ai .add none true (I ((0:Nat):Int)) (.int .i64 1) s1= .ok (I ((1:Nat):Int)) s1:=rfl;simp only[aV,ae,af,av,g1,ao,afZ,f9,au,e1];refine(Al c (k1.fresh hf) (n:=1) (by omega)).mono ?_;rintro _ s2 ⟨l2,rfl,hl2,k2⟩;have g2:=((hs.still k1).still k2).2;refine(zq ((wT.still k1).still k2) (sp:=((8+n:Nat):Int)) (by omega) (by omega) (by omega)).mono ?_;rintro _ s3 ⟨x,rfl,k3,hx⟩;rw[ay,ae,aL,ay,ae];simp only[av,g1,g2,hs.2,ao,f0,f2,f9,au];exact⟨⟨⟨trivial,trivial,trivial⟩,⟨trivial,trivial,trivial⟩,trivial,⟨trivial,trivial⟩,trivial⟩,trivial,x,rfl,(k1.trans k2).trans k3,hx⟩
theorem GC {h:Nat}(wT:kX κ τ π st [] [] T N fr)(hs:fR st h κ id n)(hn:n<4)(hf:dw st):R 16 [.ptr h 0] st fun y s=>y= .tuple [.aa,I 0]/\Kp [] st s:=by
 refine bp ?_;rw[Z6];refine(show R 31 [.ptr h 0, .int .u8 112] st _ from Jp wT hs hn hf 112).mono ?_;rintro _ s1 ⟨x,rfl,k1,hx⟩;have len:∀s,bO .slice x s= .ok (I ((0:Nat):Int)) s:=fun s=>hx.len 0 rfl (by omega) s;rw[ay,ae,aL,ay,ae,bP,len,ae];simp only[aI,aJ];refine ph ?_;simp only[aI,aJ];have e1:ai .lss none false (.int .i64 0) (I ((0:Nat):Int)) s1= .ok (.bool false) s1:=rfl;rw[e1,ae,ah,agf (by decide)];exact⟨trivial,k1⟩
theorem Hg {h:Nat}(wT:kX κ τ π st [] [] T N fr)(hs:fR st h κ id n)(hn:n<4)(hf:dw st):R 17 [.ptr h 0] st fun y s=>y= .tuple [.aa,I 0]/\Kp [] st s:=by
 refine bp ?_;rw[Z5];refine(show R 31 [.ptr h 0, .int .u8 108] st _ from Jp wT hs hn hf 108).mono ?_;rintro _ s1 ⟨x,rfl,k1,hx⟩;have len:∀s,bO .slice x s= .ok (I ((0:Nat):Int)) s:=fun s=>hx.len 0 rfl (by omega) s;rw[ay,ae,aL,ay,ae,bP,len,ae];simp only[aI,aJ];refine ph ?_;simp only[aI,aJ];have e1:ai .lss none false (.int .i64 0) (I ((0:Nat):Int)) s1= .ok (.bool false) s1:=rfl;rw[e1,ae,ah,agf (by decide)];exact⟨trivial,k1⟩
def qs:List CV:=[I 0,I 0, .int .u8 1,I 0,I 0,I 0]
theorem JF {h:Nat}(hs:fR st h κ id n):R 18 [.ptr h 0] st fun y s=>y= .agg qs/\Kp [] st s:=by
 refine bp ?_;rw[Z4,cn,bj];generalize hs1:St.new st _=s1;obtain⟨k1,g1,n1⟩:=da hs1;have gh:=(hs.still k1).2;rw[bD,ae,ah,agf (by decide)];unfold tX;have e:fG (ly κ id n) (0+3) 6=some qs:=rfl;rw[aV,ae,af,ae,jA,gh,ao,e,rW,aQ,g1,bg,ba];refine⟨⟨rfl,rfl,aga _⟩, ?_⟩;have eo:bB [CV.int .i64 0, .int .i64 0, .int .u8 0, .int .i64 0, .int .i64 0, .int .i64 0] 0 qs=qs:=rfl;rw[eo];generalize ya:St.set s1 st.next (.cells qs 69 false)=s2;have g2:s2.mem.get st.next=some (.cells qs 69 false):=by rw[<-ya];exact az _ _ _
 rw[aR (n:=6) g2 rfl,ae];refine⟨rfl, ?_⟩;rw[<-ya];exact k1.set _ (.inr (aga _)) (by omega)
theorem D6 {o t mb:Nat}(h:lV st o t mb):R 19 [.ptr o 0,I 0] st fun y s=>y= .aa/\s=st:=by
 obtain⟨l,⟨L,g1,g2,g3⟩,lt,lm,⟨L2,g4,g5⟩,g6⟩:=h;refine bp ?_;rw[Z3,bD,ae,ah,agf (by decide)];unfold eN;rw[aV,ae,af,ae,av,g1,ao,afZ,g2,au];refine Ij (v:= .aa) (st':=st) ?_ ⟨rfl,rfl⟩
 show(match st.mem.get t with
  |some (.cells l _ _)=>(match l[4]? with
   |some (CV.map mb)=>(match st.mem.get mb with|some (.map [] _)=>some (OR.ok .aa st)|_=>none)
   |_=>none)
  |_=>none)=_
 rw[g4];dsimp only;rw[g5];dsimp only;rw[g6]
theorem Gd {o t mb:Nat}(h:lV st o t mb):R 20 [.ptr o 0] st fun y s=>y=I 0/\s=st:=by
 obtain⟨l,⟨L,g1,g2,g3⟩,_⟩:=h;refine bp ?_;rw[Z2,bD,ae,ah,agf (by decide)];unfold eN;rw[aV,ae,af,ae,av,g1,ao,afZ,g3,au];exact⟨rfl,rfl⟩
end
section
variable {st st' s:St} {a b κ τ k n x:Nat} {π:PI} {p:SetM} {id cH:Int} {T N fr:Nat} {Fs Fo:List Nat}
theorem Bh (h:nw st x κ p id a b n Fs Fo):R 15 [.ptr x 0] st fun y s=>y= .bool true/\s=st:=by
 obtain⟨hx,kp,w,re,ows,zi,sh,ow,t,mb,g,_⟩:=h;refine bp ?_;have en:ai .neq (some .ptr) true (.ptr x 0) .aC st= .ok (.bool true) st:=rfl;have f:(ff id p κ kp re ows zi w)[22]?=some (.bool false):=rfl;unfold fB at*;rw[Z7];unfold fB;simp only[en,ae,aE,ags,aM,aV,af,av,g,ao,afZ,f,au,bt,aF,agj];exact⟨trivial,trivial⟩
theorem LD (h:nw st x κ p id a b n Fs Fo):R 8 [.ptr x 0] st fun y s=>y=I 0/\s=st:=by
 obtain⟨hx,kp,w,re,ows,zi,sh,ow,t,mb,g,_⟩:=h;refine bp ?_;rw[w8,bD,ae,ah,agf (by decide)];have f:(ff id p κ kp re ows zi w)[21]?=some (I 0):=rfl;unfold eN;simp only[ae,aV,af,av,g,ao,afZ,f,au];exact⟨trivial,trivial⟩
theorem DC (h:nw st x κ p id a b n Fs Fo)(ha:a<=100)(hb:b<=100):R 10 [.ptr x 0] st fun y s=>Kp [] st s/\∀s',bO .slice y s'= .ok (I a) s':=by
 have h0:=h;obtain⟨hx,kp,w,re,ows,zi,sh,ow,t,mb,g,⟨hk,m,c,gk,hC⟩,_⟩:=h;refine bp ?_;rw[w10];refine(Bh h0).same ?_;rw[bt,ae,ah,agm,agf (by decide)];have f:(ff id p κ kp re ows zi w)[15]?=some (.ptr kp 0):=rfl;unfold eN;simp only[ae,aV,af,av,g,ao,afZ,f,au]
 have c21:R 21 [.ptr kp 0] st fun y s=>∃c',y= .ptr c' 0/\Kp [] st s/\ud s c' a b:=by
  refine bp ?_;rw[Z1]
  have c34:R 34 [.ptr kp 0] st fun y s=>y= .bool true/\s=st:=by
   refine bp ?_;have en:ai .neq (some .ptr) true (.ptr kp 0) .aC st= .ok (.bool true) st:=rfl;have f:(fH κ p id m (.ptr c 0))[19]?=some (.bool false):=rfl;rw[ZR];unfold fB;simp only[en,ae,aE,ags,aM,aV,af,av,gk,ao,afZ,f,au,bt,aF,agj];exact⟨trivial,trivial⟩
  refine c34.same ?_;rw[bt,ae,ah,agm,agf (by decide)];have f:(fH κ p id m (.ptr c 0))[16]?=some (.ptr c 0):=rfl;unfold eN;simp only[ae,aV,af,av,gk,ao,afZ,f,au];exact LB hC ha hb
 refine c21.mono ?_;rintro _ s2 ⟨c',rfl,k2,hC'⟩;refine(xA hC' ha).mono ?_;rintro y s3 ⟨k3,sl⟩;exact⟨k2.trans k3,fun s'=>sl.len a (by rw[agr];omega) (by omega) s'⟩
theorem DP {v:CV}{e:Nat}{f:Nat->Nat}{F:List Nat}(h:Own s v 1 e (kJ f n) F){i:Nat}(hi:i<n):∃q,v= .slice q 0 n n 1/\F=[q]/\s.mem.get q=some (.cells (kJ f n) e true):=by
 rcases h with⟨_,h,_⟩|⟨b,l,t,g,_,h,_⟩|⟨b,m,rfl,h1,h2,h3,h4⟩
 ·have:=congrArg List.length h;rw[mD]at this;simp at this;omega
 ·have:=congrArg List.length h;rw[mD]at this;simp at this;omega
 ·rw[mD]at h2;obtain rfl:n=m:=by omega
  exact⟨b,rfl,h3,h4⟩
theorem Av (f:Nat->Nat){i:Nat}(h:i<n):(kJ f n)[i]?=some (.ptr (f i) 0):=by
 unfold kJ;rw[agB,List.getElem?_range h];rfl
set_option maxHeartbeats 1000000 in
theorem Gq (wT:kX κ τ π st [] [] T N fr)(h:nw st x κ p id a b a Fs Fo)(ha:1<=a/\a<=4)(hf:dw st):R 9 [.ptr x 0] st fun y s=>Kp [] st s/\∀s',bO .slice y s'= .ok (I a) s':=by
 have h0:=h;obtain⟨hx,kp,w,re,ows,zi,sh,ow,t,mb,g,hK,Cz,Qg,AZ,th,hP⟩:=h;refine bp ?_;rw[w9];refine(Bh h0).same ?_;rw[bt,ae,ah,agm,agf (by decide)];have f16:(ff id p κ kp re ows zi w)[16]?=some re:=rfl;have f17:(ff id p κ kp re ows zi w)[17]?=some ows:=rfl;have f21:(ff id p κ kp re ows zi w)[21]?=some (I 0):=rfl;obtain⟨q1,rfl,Xr,gs⟩:=DP Cz (i:=0) (by omega);obtain⟨q2,rfl,Qd,go⟩:=DP Qg (i:=0) (by omega);have TI:q1<st.next:=AZ q1 (by rw[Xr];simp);have Oa:q2<st.next:=th q2 (by rw[Qd];simp);unfold eN;rw[bP];simp only[ae,aV,af,av,g,ao,afZ,f16,au,dE,aI,aJ];refine bA (fun fu vs s=>∃(i:Nat) (v:CV) (L:List CV) (F:List Nat),fu+i=a/\vs=[.ptr x 0,v, .slice q1 0 a a 1,I a,I i]/\Kp [] st s/\Own s v 10 75 L F/\L.length=10*i/\∀q∈F,st.next<=q/\q<s.next) ?_ (n:=a) ⟨0, .aa,[],[],rfl,rfl,Kp.refl _ _, .inl ⟨rfl,rfl,rfl⟩,rfl,by simp⟩;rintro fu vs s K ⟨i,v,L,F,Qs,rfl,kk,own,hL,hF⟩ next;simp only[aI,aJ];rw[de,ae,ah]
 by_cases hc:i<a
 ·rw[agi hc,agl rfl];have g':=(kk.keep x hx (by simp)).trans g;have gs':=(kk.keep q1 TI (by simp)).trans gs;obtain⟨pS,pO,_⟩:=hP i hc;have SD:=pS.still kk;have nk:=kk.next
  have ix:∀K:CV->Prop,K (.ptr (sh i) 0)->idx 1 (.slice q1 0 a a 1) (I i) s K:=fun K hK=>by
   unfold idx;rw[du hc (.inr (aga _)),ae,av,gs',ao,afZ,ahJ,Av sh hc,au];exact hK
  refine ix _ ?_;refine(GC (wT.still kk) SD (by omega) (kk.fresh hf)).mono ?_;rintro _ s4 ⟨rfl,k4⟩;rw[ay,ae,aL,ay,ae];refine(Hg ((wT.still kk).still k4) (SD.still k4) (by omega) ((kk.trans k4).fresh hf)).mono ?_;rintro _ s5 ⟨rfl,k5⟩;rw[ay,ae,aL,ay,ae,bG];have K5:=(kk.trans k4).trans k5;have Mr:(St.skip s5).mem.get s5.next=none:=(K5.fresh hf) _ (aga _);have kS:Kp [] s5 (St.skip s5):=(Kp.refl _ _).skip;have nS:(St.skip s5).next=s5.next+1:=rfl;generalize hsS:St.skip s5=sS at*;have KS:=K5.trans kS;refine(JF (((SD.still k4).still k5).still kS)).mono ?_;rintro _ s6 ⟨rfl,k6⟩;have K6:=KS.trans k6;have gS:=(KS.keep x hx (by simp)).trans g;have g6:=(K6.keep x hx (by simp)).trans g;have goS:=(KS.keep q2 Oa (by simp)).trans go;have VA:=(K6.keep q2 Oa (by simp)).trans go;have Xe:∀s,cm 1 (.slice q2 0 a a 1) (I i) s= .ok (.ptr q2 i) s:=fun s=>by have:=du (size:=1) (b:=q2) (off:=0) (len:=a) (cap:=a) (grow:=1) hc (.inr (aga _)) s;rwa [afZ,ahJ]at this
  have SB:(kJ ow a)[i]?=some (.ptr (ow i) 0):=Av ow hc;simp only[ae,aV,af,av,g6,ao,afZ,f17,f21,au,Xe,VA,SB];have WG:=pO.off K6 (by simp) (by simp) (by simp);refine(D6 WG).same ?_;simp only[ae,aV,af,av,g6,ao,afZ,f17,f21,au,Xe,VA,SB];refine(Gd WG).same ?_;have kx:bf [(.int .i64 0),(.int .i64 0),(.int .u8 0),(.int .i64 0),(.int .i64 0),(.int .i64 0), .aa, .aa, .aa,(.int .i64 0)] [(0,6, .agg qs),(6,1, .aa),(7,1, .aa),(8,1, .aa),(9,1,I 0)] s6= .ok (.agg (qs++[.aa, .aa, .aa,I 0])) s6:=rfl;rw[kx,ae];have n4:=k4.next;have n5:=k5.next;have n6:=k6.next;have T8:s6.mem.get s5.next=none:=(k6.keep s5.next (by omega) (by simp)).trans Mr;have SG:Own s6 v 10 75 L F:=own.mono fun q hq=>((((k4.trans k5).trans kS).trans k6).keep q (hF q hq).2 (by simp));refine lT 128 SG (by omega) (fun q hq=>⟨by have:=hF q hq;omega,by have:=hF q hq;omega⟩) (by omega) T8 rfl rfl rfl rfl (by rw[hL];omega) ?_;intro v' cw F' zI kZ oz;simp only[av,gS,g6,goS,VA,ao,f17,f21,SB,au];refine⟨⟨⟨trivial,trivial,trivial⟩,⟨trivial,trivial,trivial⟩,⟨trivial,trivial,trivial⟩,⟨trivial,trivial,trivial,trivial⟩,⟨trivial,trivial,trivial,trivial⟩,trivial⟩,⟨trivial,trivial⟩, ?_⟩;rw[gW i (by omega),ae];have DY:=kZ.next;refine next (fu-1) _ _ (by omega) ⟨i+1,v',_,F',by omega,rfl,K6.trans kZ fun q hq=> .inr ?_,zI, ?_,fun q hq=> ?_⟩
  ·rcases age.1 hq with h1|h1
   ·omega
   ·exact(hF q h1).1
  ·rw[agq,hL];show 10*i+10=10*(i+1);omega
  ·obtain⟨h1,h2⟩:=oz q hq;refine⟨?_,h2⟩;rcases h1 with h1|h1
   ·exact(hF q h1).1
   ·omega
 ·rw[agc hc,agf (by decide)];obtain rfl:i=a:=by omega
  exact⟨kk,fun s'=>(own.sl (X:=[]) fun q hq=>⟨by simp,(hF q hq).2⟩).len i (by rw[hL];omega) (by omega) s'⟩
end
section
variable {st st' s:St} {a b κ τ k n x d:Nat} {π:PI} {p:SetM} {id cH:Int} {T N fr:Nat} {F:List Nat} {Z:Nat->PI->Nat->Prop}
def LZ (p:SetM)(id cH:Int):Prop:=jJ p=false\/id<1\/p.bH<id\/cH<1\/2047<cH
theorem Jo {f:CV}(h:LZ p id cH):R 12 [I id, .agg (eL p), .ptr d 0,I cH,f] st fun y s=>y= .tuple [.aC,I 1]/\Kp [] st s:=by
 refine bp ?_;rw[Wi,br];refine⟨rfl, ?_⟩;rw[ba,bD,ae,ah,agf (by decide)];generalize hs1:St.new st (.cells (eL p) 23 false)=s1;obtain⟨k1,g1,n1⟩:=da hs1;rw[aR (n:=13) g1 rfl,ae];refine(sM p s1).mono ?_;rintro _ s2 ⟨rfl,k2⟩;have n2:=k2.next;have g2:=(k2.keep st.next (by omega) (by simp)).trans g1;have f0:(eL p)[0]?=some (I p.bH):=rfl;have e1:ai .lss none true (I id) (.int .i64 1) s2= .ok (.bool (decide (id<1))) s2:=by rw[aA,bK]
 have e2:ai .gtr none false (I id) (I p.bH) s2= .ok (.bool (decide (p.bH<id))) s2:=by rw[aA,cC]
 have e3:ai .lss none true (I cH) (.int .i64 1) s2= .ok (.bool (decide (cH<1))) s2:=by rw[aA,bK]
 have e4:ai .gtr none true (I cH) (.int .i64 2047) s2= .ok (.bool (decide (2047<cH))) s2:=by rw[aA,cC]
 have hK:(CV.tuple [.aC, .int .i64 1]= .tuple [.aC,I 1])/\Kp [] st s2:=⟨rfl,k1.trans k2⟩
 have hb:(!(jJ p)||decide (id<1)||decide (p.bH<id)||decide (cH<1)||decide (2047<cH))=true:=by
  unfold LZ at h;rcases h with h|h|h|h|h<;>simp[h]
 rw[bt,ae];unfold eu;generalize jJ p=c1 at hb⊢;generalize decide (id<1)=c2 at hb e1⊢;generalize decide (p.bH<id)=c3 at hb e2⊢;generalize decide (cH<1)=c4 at hb e3⊢;generalize decide (2047<cH)=c5 at hb e4⊢
 cases c1<;>cases c2<;>cases c3<;>cases c4<;>cases c5<;>first
  |(exfalso;revert hb;decide)
  |(simp only[aE,eP,agm,agj,afY,agn,ags,aM,bT,ae,e1,e2,e3,e4,aF,af,av,g2,ao,afZ,f0,au,ah];exact⟨trivial,k1.trans k2⟩)
theorem V5 (h:LZ p id 1):R 6 [I id, .agg (eL p), .ptr d 0] st fun y s=>y= .tuple [.aC,I 1]/\Kp [] st s:=by
 refine bp ?_;rw[w6,br];refine⟨rfl, ?_⟩;rw[ba];generalize hs1:St.new st (.cells (eL p) 23 false)=s1;obtain⟨k1,g1,n1⟩:=da hs1;rw[aR (n:=13) g1 rfl,ae];refine(show R 12 [I id, .agg (eL p), .ptr d 0,I 1, .func (.func 13) [] []] s1 _ from Jo h).mono ?_;rintro _ s2 ⟨rfl,k2⟩;rw[ay,ae,aL,ay,ae];exact⟨rfl,k1.trans k2⟩
theorem Px (h:LZ p id cH):R 7 [I id, .agg (eL p), .ptr d 0,I cH] st fun y s=>y= .tuple [.aC,I 1]/\Kp [] st s:=by
 refine bp ?_;rw[w7,br];refine⟨rfl, ?_⟩;rw[ba];generalize hs1:St.new st (.cells (eL p) 23 false)=s1;obtain⟨k1,g1,n1⟩:=da hs1;rw[aR (n:=13) g1 rfl,ae];refine(Jo h).mono ?_;rintro _ s2 ⟨rfl,k2⟩;rw[ay,ae,aL,ay,ae];exact⟨rfl,k1.trans k2⟩
theorem ny.from {s1:St}{y:CV}(k:Kp [] st s1)(h:ny Z N F p id a b s1 y s):ny Z N F p id a b st y s:=by
 obtain⟨x,κ,τ,π,T,fr,Fs,Fo,h1,h2,h3⟩:=h;exact⟨x,κ,τ,π,T,fr,Fs,Fo,h1,(k.mono (by simp)).trans h2 fun q hq=> .inl hq,h3⟩
theorem Pl (hm:jJ p=true)(hi:1<=id/\id<=p.bH)(ha:p.dZ=(a:Int))(hb:p.bH=(b:Int))(tf:1<=a/\a<=4)(ig:1<=b/\b<=5)(hf:dw st)(hF:∀q∈F,q<st.next)(ho:∀s1,Kp [] st s1->R 13 [.ptr d 0] s1 (FJ Z N F s1)):
 R 6 [I id, .agg (eL p), .ptr d 0] st (ny Z N F p id a b st):=by
 refine bp ?_;rw[w6,br];refine⟨rfl, ?_⟩;rw[ba];generalize hs1:St.new st (.cells (eL p) 23 false)=s1;obtain⟨k1,g1,n1⟩:=da hs1;rw[aR (n:=13) g1 rfl,ae];refine(show R 12 [I id, .agg (eL p), .ptr d 0,I 1, .func (.func 13) [] []] s1 _ from DZ hm hi ha hb tf ig ⟨by omega,by omega⟩ (k1.fresh hf) (fun q hq=>by have:=hF q hq;omega) fun s2 k2=>ho s2 (k1.trans k2)).mono ?_;intro y s2 h;have h':=h.from k1;obtain⟨x,κ,τ,π,T,fr,Fs,Fo,rfl,h2⟩:=h;rw[ay,ae,aL,ay,ae];exact h'
theorem Pk (hm:jJ p=true)(hi:1<=id/\id<=p.bH)(ha:p.dZ=(a:Int))(hb:p.bH=(b:Int))(tf:1<=a/\a<=4)(ig:1<=b/\b<=5)(hl:1<=cH/\cH<=2047)(hf:dw st)(hF:∀q∈F,q<st.next)(ho:∀s1,Kp [] st s1->R 14 [.ptr d 0] s1 (FJ Z N F s1)):
 R 7 [I id, .agg (eL p), .ptr d 0,I cH] st (ny Z N F p id a b st):=by
 refine bp ?_;rw[w7,br];refine⟨rfl, ?_⟩;rw[ba];generalize hs1:St.new st (.cells (eL p) 23 false)=s1;obtain⟨k1,g1,n1⟩:=da hs1;rw[aR (n:=13) g1 rfl,ae];refine(DZ hm hi ha hb tf ig hl (k1.fresh hf) (fun q hq=>by have:=hF q hq;omega) fun s2 k2=>ho s2 (k1.trans k2)).mono ?_;intro y s2 h;have h':=h.from k1;obtain⟨x,κ,τ,π,T,fr,Fs,Fo,rfl,h2⟩:=h;rw[ay,ae,aL,ay,ae];exact h'
def Wd (sB:St)(B:Nat)(id cH:Int)(vs:List CV)(s:St):Prop:=∃(d N:Nat) (F:List Nat),vs=[I id,I cH, .ptr B 0, .ptr d 0,I 0]/\Kp [] sB s/\cV s d F (lS (List.replicate N km))/\(∀q∈F,sB.next<=q)/\64<=N/\N<=8000
end
set_option maxHeartbeats 2000000 in
theorem H0 {st:St}(p:SetM)(id cH:Int)(hf:dw st):R 3 [.agg (eL p),I id,I cH] st fun y s=>y= .bool true/\Kp [] st s:=by
 refine bp ?_;rw[w3,br];refine⟨rfl, ?_⟩;rw[ba];generalize hs1:St.new st (.cells (eL p) 23 false)=s1;obtain⟨k1,g1,n1⟩:=da hs1;rw[aR (n:=13) g1 rfl,ae];refine(sM p s1).mono ?_;rintro _ s2 ⟨rfl,k2⟩;have n2:=k2.next;have g2:=(k2.keep st.next (by omega) (by simp)).trans g1;have K2:=k1.trans k2;have f0:(eL p)[0]?=some (I p.bH):=rfl;have f3:(eL p)[3]?=some (I p.dZ):=rfl;have f4:(eL p)[4]?=some (I p.eI):=rfl;have e1:ai .gtr none true (I p.eI) (.int .i64 6000) s2= .ok (.bool (decide (6000<p.eI))) s2:=by rw[aA,cC]
 have first:∀Kk:CV->Prop,Kk (.bool (jJ p&&decide (6000<p.eI)))->eu (ag true (.bool (jJ p))) 4 (.ptr st.next 0) s2 fun x4=>us (aS (ag true (.bool (jJ p))) s2 (ai .gtr none true x4 (.int .i64 6000) s2)) fun x5=>us (aK (.bool (jJ p)) x5 (.bool false) s2) Kk:=fun Kk hK=>by
  unfold eu;cases hm:jJ p with
  |false=>
   rw[hm]at hK;simp only[aE,afY,ags,agn,bT,ae,aF];exact hK
  |true=>
   rw[hm]at hK;simp only[aE,ags,aM,af,ae,av,g2,ao,afZ,f4,au,e1,aF];exact hK
 refine first _ ?_
 rw[ah]
 by_cases Le:(jJ p&&decide (6000<p.eI))=true
 ·rw[agl Le];exact⟨rfl,K2⟩
 rw[agf Le];refine(show R 5 [.int .i64 3000] s2 _ from DW (n:=3000) (by omega) (by omega)).mono ?_;rintro _ s3 ⟨k3,d0,F0,rfl,U8,hF0⟩;have n3:=k3.next;have g3:=(k3.keep st.next (by omega) (by simp)).trans g2;rw[ay,ae,aL,ay,ae];refine pB (Wd s1 st.next id cH) ?_ ?_
 ·intro kZ sv;rw[aR (n:=13) g3 rfl,ae];refine(sM p s3).mono ?_;rintro _ cB ⟨rfl,pN⟩;have G9:=pN.next;have Yq:=(pN.keep st.next (by omega) (by simp)).trans g3;have YD:=(k2.trans k3).trans pN;rw[ah]
  by_cases hm:jJ p=true
  ·rw[agl hm];have hg:=p8 hm;have Xo:¬6000<p.eI:=fun h=>Le (by rw[hm,agi h];rfl);obtain⟨N,hN⟩:∃N:Nat,p.eI=(N:Int):=⟨p.eI.toNat,by have:=hg.eI;omega⟩;have Mz:=hg.eI;unfold fl;simp only[af,ae,av,Yq,ao,afZ,f4,au,hN];refine(DW (n:=N) (by omega) (by omega)).mono ?_;rintro _ eJ ⟨xX,d,F,rfl,hd,hF⟩;rw[ay,ae,aL,ay,ae];exact sv _ _ ⟨d,N,F,rfl,YD.trans xX,hd,fun q hq=>by have:=hF q hq;omega,by omega,by omega⟩
  ·rw[agf hm];exact sv _ _ ⟨d0,3000,F0,rfl,YD,U8.keep pN (by simp),fun q hq=>by have:=hF0 q hq;omega,by omega,by omega⟩
 ·rintro vs s ⟨d,N,F,rfl,K,hd,hF,CK,Mz⟩;simp only[aI,aJ];have nK:=K.next;have g:=(K.keep st.next (by omega) (by simp)).trans g1;have en:∀s,ai .neq (some .int) true (I 0) (.int .i64 0) s= .ok (.bool false) s:=fun s=>rfl;rw[en,ae,ah,agf (by decide),aR (n:=13) g rfl,ae];refine(sM p s).mono ?_;rintro _ s5 ⟨rfl,k5⟩;have n5:=k5.next;have g5:=(k5.keep st.next (by omega) (by simp)).trans g;have KY:=hd.keep k5 (by simp);have K5:=K.trans k5;have e2:ai .geq none true (I id) (.int .i64 1) s5= .ok (.bool (decide (1<=id))) s5:=by rw[aA,gJ]
  have e3:ai .leq none false (I id) (I p.bH) s5= .ok (.bool (decide (id<=p.bH))) s5:=by rw[aA,il]
  obtain⟨ok,so⟩:∃ok,ok=(jJ p&&decide (1<=id)&&decide (id<=p.bH)):=⟨_,rfl⟩
  have second:∀Kk:CV->Prop,Kk (.bool ok)->us (aS (ag true (.bool (jJ p))) s5 (.ok (I id) s5)) fun dx=>us (aS (ag true (.bool (jJ p))) s5 (ai .geq none true dx (.int .i64 1) s5)) fun cX=>us (aK (.bool (jJ p)) cX (.bool false) s5) fun dp=>us (aS (ag true dp) s5 (.ok (I id) s5)) fun db=>eu (ag true dp) 0 (.ptr st.next 0) s5 fun dm=>us (aS (ag true dp) s5 (ai .leq none false db dm s5)) fun dB=>us (aK dp dB (.bool false) s5) Kk:=fun Kk hK=>by
   unfold eu;generalize jJ p=c1 at so⊢;generalize decide (1<=id)=c2 at so e2⊢;generalize decide (id<=p.bH)=c3 at so e3⊢;subst so;cases c1<;>cases c2<;>cases c3<;>(simp only[aE,eP,afY,agn,ags,aM,bT,ae,e2,e3,aF,af,av,g5,ao,afZ,f0,au];exact hK)
  refine second _ ?_;rw[aR (n:=13) g5 rfl,ae];have QK:Kp [] st s5:=k1.trans K5;have hF5:∀q∈F,q<s5.next:=KY.lt;cases ok with
  |false=>
   have HG:∀l,LZ p id l:=fun l=>by
    by_cases hm:jJ p=true
    ·by_cases h1:id<1
     ·exact .inr (.inl h1)
     ·by_cases h2:p.bH<id
      ·exact .inr (.inr (.inl h2))
      ·rw[hm,agi (by omega),agi (by omega)]at so;cases so
    ·exact .inl (by simpa using hm)
   refine(V5 (HG 1)).mono ?_;rintro _ s6 ⟨rfl,k6⟩;have n6:=k6.next;have g6:=(k6.keep st.next (by omega) (by simp)).trans g5;rw[ay,ae,aL,ay,ae];have q1:ai .eql (some .int) true (I 1) (.int .i64 0) s6= .ok (.bool false) s6:=rfl;have q2:ai .neq (some .bool) false (.bool false) (.bool false) s6= .ok (.bool false) s6:=rfl;have q3:ai .neq (some .int) true (I 1) (.int .i64 1) s6= .ok (.bool false) s6:=rfl;have q4:ai .neq (some .ptr) true .aC .aC s6= .ok (.bool false) s6:=rfl;simp only[q1,q2,q3,q4,ae,aE,afY,agn,ags,agj,agm,aM,bt,aF,ah];rw[aR (n:=13) g6 rfl,ae];refine(Px (HG cH)).mono ?_;rintro _ s7 ⟨rfl,k7⟩;rw[ay,ae,aL,ay,ae];have q5:ai .eql (some .int) true (I 1) (.int .i64 1) s7= .ok (.bool true) s7:=rfl;have q6:ai .eql (some .ptr) true .aC .aC s7= .ok (.bool true) s7:=rfl;simp only[q5,q6,ae,aE,eP,afY,agn,ags,agj,agm,aM,bT,bt,aF,ah];exact⟨trivial,(QK.trans k6).trans k7⟩
  |true=>
   have Oh:=so.symm;simp only[agp,ahB]at Oh;obtain⟨⟨hm,F6⟩,CJ⟩:=Oh;have hg:=p8 hm;obtain⟨a,ha⟩:∃a:Nat,p.dZ=(a:Int):=⟨p.dZ.toNat,by have:=hg.dZ;omega⟩;obtain⟨b,hb⟩:∃b:Nat,p.bH=(b:Int):=⟨p.bH.toNat,by have:=hg.bH;omega⟩;have tf:1<=a/\a<=4:=by have:=hg.dZ;omega
   have ig:1<=b/\b<=5:=by have:=hg.bH;omega
   refine(Pl (Z:=fun τ π T=>π.a=d/\π.D.set=false/\T<=0/\∀q∈π.Fd,s1.next<=q) (N:=N) (F:=F) hm ⟨F6,CJ⟩ ha hb tf ig (QK.fresh hf) hF5 fun s6 k6=> ?_).mono ?_
   ·have wU:=KY.keep k6 (by simp);refine(Ff CK Mz wU ((QK.trans k6).fresh hf) wU.lt).mono ?_;rintro _ s7 ⟨κ,τ,π,rfl,ea,k7,Es,kvn,iA⟩;refine⟨κ,τ,π,0,_,rfl,k7,kvn.ji,ea,iA,aga _,fun q hq=> ?_⟩;have n6:=k6.next;rcases Es q (agO _ (o7 (PI.wL hq)))with h|h
    ·have:=hF q h;omega
    ·omega
   rintro _ s6 ⟨x,κ,τ,π,T,fr,Fs,Fo,rfl,k6,wT,⟨ea,iA,hT,Qz⟩,hS⟩;have n6:=k6.next;have g6:=(k6.keep st.next (by omega) fun hh=>by have:=hF _ hh;omega).trans g5;have K6:Kp [] st s6:=QK.trans k6 fun q hq=> .inr (by have:=hF q hq;omega);rw[ay,ae,aL,ay,ae];have q1:ai .eql (some .int) true (I 0) (.int .i64 0) s6= .ok (.bool true) s6:=rfl;have q2:ai .neq (some .bool) false (.bool true) (.bool true) s6= .ok (.bool false) s6:=rfl;simp only[q1,q2,ae,aE,eP,afY,agn,ags,agj,agm,aM,bT,bt,aF,ah];rw[aR (n:=13) g6 rfl,ae]
   by_cases hl:1<=cH/\cH<=2047
   ·have Vq:∀q∈π.Fd,q<s6.next:=fun q hq=>wT.tr.zH q (o7 (PI.wL hq));refine(Pk (Z:=fun _ _ _=>True) (N:=N) (F:=π.Fd) hm ⟨F6,CJ⟩ ha hb tf ig hl (K6.fresh hf) Vq fun s7 k7=> ?_).mono ?_
    ·rw[<-ea];refine(GN (JH (wT.still k7).tr (by omega)) (by omega)).mono ?_;rintro _ s8 (⟨κ',τ',π',fr',rfl,_,k8,_,SR,_⟩|⟨_,_,IJ,_⟩)
     ·exact⟨κ',τ',π',T,fr',rfl,k8,SR.ji,trivial⟩
     ·rw[iA]at IJ;cases IJ
    rintro _ s7 ⟨y,κ2,τ2,π2,T2,fr2,Fs2,Fo2,rfl,k7,UA,_,Vl⟩;have g7:=(k7.keep st.next (by omega) fun hh=>by have:=Qz _ hh;omega).trans g6;have K7:Kp [] st s7:=K6.trans k7 fun q hq=> .inr (by have:=Qz q hq;omega);rw[ay,ae,aL,ay,ae];have l1:ai .lss none true (I cH) (.int .i64 1) s7= .ok (.bool false) s7:=by rw[aA,bK,agc (by omega)]
    have l2:ai .gtr none true (I cH) (.int .i64 2047) s7= .ok (.bool false) s7:=by rw[aA,cC,agc (by omega)]
    have l3:ai .eql (some .int) true (I 0) (.int .i64 0) s7= .ok (.bool true) s7:=rfl;have ei:∀(x:Int) s,ai .eql (some .int) false (I x) (I x) s= .ok (.bool true) s:=fun x s=>by rw[aA,eT,agi rfl]
    simp only[l1,l2,ae,aE,eP,afY,agn,ags,agj,agm,aM,bT,bt,aF,ah];rw[bG,l3,ae];simp only[aE,ags,aM,ae,bF];refine(LD Vl).same ?_;rw[l3,ae,aF,agl rfl,ae];simp only[aE,ags,aM,ae,bF];refine(Gq UA Vl tf (K7.fresh hf)).mono ?_;rintro v1 s9 ⟨k9,Kb⟩;have n9:=k9.next;have n7:=k7.next;have g9:=(k9.keep st.next (by omega) (by simp)).trans g7
    have hS9:nw s9 y κ2 p id a b a Fs2 Fo2:=by
     obtain⟨h1,kp,w,re,ows,zi,sh,ow,t,mb,h2,h3,h4,h5,h6,h7,h8⟩:=Vl
     exact⟨ago h1 k9.next,kp,w,re,ows,zi,sh,ow,t,mb,(k9.keep y h1 (by simp)).trans h2,h3.still k9,h4.mono fun q hq=>k9.keep q (h6 q hq) (by simp),h5.mono fun q hq=>k9.keep q (h7 q hq) (by simp),fun q hq=>ago (h6 q hq) k9.next,fun q hq=>ago (h7 q hq) k9.next,fun i hi=>by
      obtain⟨p1,p2,p3⟩:=h8 i hi;exact⟨p1.still k9,p2.off k9 (by simp) (by simp) (by simp),p3⟩⟩
    simp only[Kb,ae,af,av,g7,g9,ao,afZ,f3,au,ha,ei,aF,ags,aE,aM,bF];refine(DC hS9 (by omega) (by omega)).mono ?_;rintro v2 cw ⟨NJ,SQ⟩;have MF:=(NJ.keep st.next (by omega) (by simp)).trans g9;simp only[SQ,ae,af,av,g7,g9,MF,ao,afZ,f3,au,ha,ei,aF,ags,aE,aM];exact⟨⟨⟨trivial,trivial⟩,⟨trivial,trivial⟩,trivial⟩,trivial,trivial,(K7.trans k9).trans NJ⟩
   ·have HG:LZ p id cH:=by unfold LZ;omega
    refine(Px HG).mono ?_;rintro _ s7 ⟨rfl,k7⟩;rw[ay,ae,aL,ay,ae];have l1:ai .lss none true (I cH) (.int .i64 1) s7= .ok (.bool (decide (cH<1))) s7:=by rw[aA,bK]
    have l2:ai .gtr none true (I cH) (.int .i64 2047) s7= .ok (.bool (decide (2047<cH))) s7:=by rw[aA,cC]
    have q5:ai .eql (some .int) true (I 1) (.int .i64 1) s7= .ok (.bool true) s7:=rfl;have q6:ai .eql (some .ptr) true .aC .aC s7= .ok (.bool true) s7:=rfl
    by_cases h1:cH<1
    ·simp only[l1,l2,agi h1,q5,q6,ae,aE,eP,afY,agn,ags,agj,agm,aM,bT,bt,aF,ah];exact⟨trivial,K6.trans k7⟩
    ·have h2:2047<cH:=by omega
     simp only[l1,l2,agc h1,agi h2,q5,q6,ae,aE,eP,afY,agn,ags,agj,agm,aM,bT,bt,aF,ah];exact⟨trivial,K6.trans k7⟩
open Go Go.RowKit Go.ChangeShapes Go.WideShapes Go.Deep Go.Proofs
section
variable {H:Type} {enc:TypeId×Value->H} {W:World} {fuel:Nat} {x:DataW H×List MemPlace}
def setV (p:SetM):Array Value:= #[.int .i64 p.bH, .int .i64 p.sO, .int .i64 p.pG, .int .i64 p.dZ, .int .i64 p.eI, .int .i64 p.j0, .int .i64 p.iD, .int .i64 p.entries, .int .i64 p.bytes, .int .i64 p.dI, .int .i64 p.ja, .int .i64 p.Au, .int .i64 p.tries]
theorem set_read {cs:Array Value}(hs:cs.size=13)(hf:DataW.trod enc Tryz.prog W 0 (fun _=>true) true fuel 23 cs.toList=some x):∃p:SetM,cs=setV p:=by
 obtain⟨ys,n,_,_,hlen,hyl,B0⟩:=DataW.trod_struct Tryz.underlying23 hf;obtain⟨l⟩:=cs
 match l,hs with
 |[a,b,c,d,e,f,g,h,i,j,k,m,o],_=>
  have c3:Tryz.prog.cellsOf 3=1:=by kernel_rfl
  have f0:=B0 0 _ rfl;have f1:=B0 1 _ rfl;have f2:=B0 2 _ rfl;have f3:=B0 3 _ rfl;have f4:=B0 4 _ rfl;have f5:=B0 5 _ rfl;have f6:=B0 6 _ rfl;have f7:=B0 7 _ rfl;have f8:=B0 8 _ rfl;have f9:=B0 9 _ rfl;have f10:=B0 10 _ rfl;have f11:=B0 11 _ rfl;have f12:=B0 12 _ rfl
  match ys,hyl with
  |[y0,y1,y2,y3,y4,y5,y6,y7,y8,y9,y10,y11,y12],_=>
   obtain⟨n0,e0,_⟩:=DataW.trod_int Tryz.underlying3 f0;obtain⟨n1,e1,_⟩:=DataW.trod_int Tryz.underlying3 f1;obtain⟨n2,e2,_⟩:=DataW.trod_int Tryz.underlying3 f2;obtain⟨n3,e3,_⟩:=DataW.trod_int Tryz.underlying3 f3;obtain⟨n4,e4,_⟩:=DataW.trod_int Tryz.underlying3 f4;obtain⟨n5,e5,_⟩:=DataW.trod_int Tryz.underlying3 f5;obtain⟨n6,e6,_⟩:=DataW.trod_int Tryz.underlying3 f6;obtain⟨n7,e7,_⟩:=DataW.trod_int Tryz.underlying3 f7;obtain⟨n8,e8,_⟩:=DataW.trod_int Tryz.underlying3 f8;obtain⟨n9,e9,_⟩:=DataW.trod_int Tryz.underlying3 f9;obtain⟨DY,Jn,_⟩:=DataW.trod_int Tryz.underlying3 f10;obtain⟨G9,QG,_⟩:=DataW.trod_int Tryz.underlying3 f11;obtain⟨G8,Yw,_⟩:=DataW.trod_int Tryz.underlying3 f12;simp[c3]at e0 e1 e2 e3 e4 e5 e6 e7 e8 e9 Jn QG Yw;subst e0 e1 e2 e3 e4 e5 e6 e7 e8 e9 Jn QG Yw;exact⟨⟨n0,n1,n2,n3,n4,n5,n6,n7,n8,n9,DY,G9,G8⟩,rfl⟩
end
theorem Gt (ρ:Ren)(p:SetM):VR ρ (.agg (eL p)) (.agg (setV p)):=by
 have:cL ρ (eL p) [.int .i64 p.bH, .int .i64 p.sO, .int .i64 p.pG, .int .i64 p.dZ, .int .i64 p.eI, .int .i64 p.j0, .int .i64 p.iD, .int .i64 p.entries, .int .i64 p.bytes, .int .i64 p.dI, .int .i64 p.ja, .int .i64 p.Au, .int .i64 p.tries]:=by
  unfold eL
  repeat first|exact cL.nil _|refine cL.cons (.int _ _) ?_
 exact .agg _ _ this.len this.ji
theorem walk3 {W:World}(p:SetM)(id cH:Int):Calls Tryz.prog 3 #[.agg (setV p), .int .i64 id, .int .i64 cH] W fun e w'=>e= .returned (.bool true)/\Left4 W w':=
 CR rfl (cL.cons (Gt _ p) (cL.cons (.int _ _) (cL.cons (.int _ _) (cL.nil _)))) (H0 p id cH (Bo (aga _)))
