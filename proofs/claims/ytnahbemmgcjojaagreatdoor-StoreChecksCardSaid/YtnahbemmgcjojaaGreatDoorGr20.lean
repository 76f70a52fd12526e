import Derived.Test.YtnahbemmgcjojaaGreatDoorGr19
import Derived.Test.YtnahbemmgcjojaaGreatDoorGr05
import Derived.Test.YtnahbemmgcjojaaGreatDoorGr18
namespace Lim
open Go
noncomputable section
set_option maxRecDepth 100000
section
variable {st st':St}
def iz (P:Nat->cp)(count base:Nat):Nat->Nat
 |0=>base
 |i+1=>if (P i).n≠0/\(P i).n%count=i then max (iz P count base i) (P i).n else iz P count base i
theorem vi (P:Nat->cp)(count base B:Nat)(hb:base<=B)(h:∀j,j<count->(P j).n<=B):∀i,i<=count->iz P count base i<=B:=by
 intro i
 induction i with
 |zero=>intro _;exact hb
 |succ i ih=>
  intro hi;simp only[iz];have:=ih (by omega);have:=h i (by omega)
  split<;>omega
def RingM.opened (first count base:Nat)(P:Nat->cp):RingM:=⟨first,count,base,(hQ P count count base [] [] base).2,iz P count base count⟩
theorem rJ {a:Nat}{F:List Nat}{D:aW}{P:Nat->cp}{first count base:Nat}(hf:dw st)(hd:cV st a F D)(wx:D.dead=false)(hp:mW D ⟨first,count,base,base,base⟩ P)(hb:base<=1000000000):
 R 56 [.ptr a 0,I first,I count,I base] st fun x st'=>∃r xo Fo G,x= .tuple [.ptr r 0,xo,I 0]/\Kp [] st st'/\gj st' r a (RingM.opened first count base P)/\kz st' xo (hQ P count count base [] [] base).1 Fo G/\(∀b,b∈Fo\/b∈G->st.next<=b)/\st.next<=r:=by
 refine bp ?_;rw[Zv];have q0:0<count:=hp.pos;have q1:first+count<=D.ar.length:=hp.fits
 have q2:=hp.kq;simp only[bD,ae,ah,afY,agn];refine(qb hd).same ?_;have e1:¬(first:Int)<0:=by omega
 have e2:¬(count:Int)<1:=by omega
 have e3:¬(D.ar.length:Int)<count:=by omega
 have e4:IntKind.i64.wrap ((D.ar.length:Int)-count)=(D.ar.length:Int)-count:=bN (by omega);have e5:¬((D.ar.length:Int)-count<first):=by omega
 have e6:¬(base:Int)<0:=by omega
 have e7:¬(4611686018427387904:Int)<base:=by omega
 have kx:bf [.aC, .int .i64 0, .int .i64 0, .int .i64 0, .int .i64 0, .int .i64 0] [(0,1, .ptr a 0),(1,1,I first),(2,1,I count),(3,1,I base),(4,1,I base),(5,1,I base)] st= .ok (.agg [.ptr a 0,I first,I count,I base,I base,I base]) st:=by
  rw[eF];simp[dG,bB]
 simp only[aA,bK,cC,fF,ae,e1,e2,e3,e4,e5,e6,e7,ahP,aE,afY,agn,agj,aM,aF,ah,kx,br,ba];refine⟨rfl, ?_⟩;show cf _ _ _;simp only[aI,aJ];refine bA (fun fu vs s=>∃i,fu+i=count/\vs=[I first, .ptr st.next 0,I count,I i]/\Kp [] st s/\gj s st.next a ⟨first,count,base,base,iz P count base i⟩) ?_ (n:=count) ⟨0,rfl,rfl,(Kp.refl _ st).new _,by simp,aG _ _⟩;rintro fu vs s k ⟨i,hi,rfl,hk,hr⟩ next;have hn:=hk.next;have B9:=hd.keep hk (by simp);have Xp:st.next∉F:=fun h=>by have:=hd.lt _ h;omega
 have hle:=vi P count base 4611686018427387904 (by omega) (fun j hj=>(hp.cur j hj).2.1);simp only[aI,aJ]
 by_cases hc:i<count
 ·have qg:(i:Int)<count:=by omega
  have a1:ai .lss none false (I i) (I count) s= .ok (.bool true) s:=by rw[aA,bK,agi qg]
  have a2:ai .add none false (I first) (I i) s= .ok (I ((first+i:Nat):Int)) s:=by rw[aA,cR,bN (by omega)];congr 2
  simp only[a1,a2,ae,ah,ags];obtain⟨u1,u2⟩:=hp.cur i hc;refine(xt (hk.fresh hf) hr B9 Xp wx q0 (by simp;omega) (at_:=first+i) (by omega) u2 u1).mono ?_;rintro _ s5 ⟨_,rfl,v,rfl,Fv,k5,ho,Cb⟩;have Mr:=k5.next;obtain⟨o1,o2⟩:=ho.bW;have CB:(RingM.place ⟨first,count,base,base,iz P count base i⟩ (P i).n=first+i)↔(P i).n%count=i:=by unfold RingM.place;simp
  have g4:(St.new s5 (.cells [.int .i64 0, .bool false, .aa] 231 false)).mem.get s5.next=some (.cells [.int .i64 0, .bool false, .aa] 231 false):=aG _ _;have nH:bB [.int .i64 0, .bool false, .aa] 0 [I (P i).n, .bool (P i).last,v]=[I (P i).n, .bool (P i).last,v]:=cW _ _ rfl;have k7:Kp [] s (St.set (St.new s5 (.cells [.int .i64 0, .bool false, .aa] 231 false)) s5.next (.cells [I (P i).n, .bool (P i).last,v] 231 false)):=(k5.new _).set _ (.inr Mr) (by simp);have g7:(St.set (St.new s5 (.cells [.int .i64 0, .bool false, .aa] 231 false)) s5.next (.cells [I (P i).n, .bool (P i).last,v] 231 false)).mem.get s5.next=some (.cells [I (P i).n, .bool (P i).last,v] 231 false):=az _ _ _;have XI:(St.set (St.new s5 (.cells [.int .i64 0, .bool false, .aa] 231 false)) s5.next (.cells [I (P i).n, .bool (P i).last,v] 231 false)).next=s5.next+1:=rfl;simp only[ay,aL,ae,cn,bj,aQ,g4,bg,ba,nH,aA,eR,agW,agm,afY,agn,ah];refine⟨⟨rfl,by simp[o1],by decide⟩, ?_⟩;generalize St.set (St.new s5 (.cells [.int .i64 0, .bool false, .aa] 231 false)) s5.next (.cells [I (P i).n, .bool (P i).last,v] 231 false)=s7 at*;have Qa:=hr.keep k7 (by simp);have TC:=Qa.2;have a3:∀s,ib .add .i64 (i:Int) .i64 1 s= .ok (I ((i+1:Nat):Int)) s:=fun s=>by rw[cR,bN (by omega)];rfl
  have U1:decide ((P i).n≠0/\RingM.place ⟨first,count,base,base,iz P count base i⟩ (P i).n=first+i)=decide ((P i).n≠0/\(P i).n%count=i):=decide_eq_decide.2 (and_congr_right fun _=>CB);rw[U1]
  by_cases hq:(P i).n≠0/\(P i).n%count=i
  ·rw[agi hq,agl rfl]
   have Hy:GG true (I (iz P count base i)) (I (P i).n) s7= .ok (I ((iz P count base (i+1):Nat):Int)) s7:=by
    have e:GG true (I (iz P count base i)) (I (P i).n) s7= .ok (I (if (iz P count base i:Int)<(P i).n then (P i).n else iz P count base i)) s7:=rfl;rw[e];simp only[iz];rw[agl hq]
    congr 2
    split<;>omega
   have KA:bB [CV.ptr a 0,I first,I count,I base,I base,I (iz P count base i)] 5 [I ((iz P count base (i+1):Nat):Int)]=[CV.ptr a 0,I first,I count,I base,I base,I ((iz P count base (i+1):Nat):Int)]:=rfl;simp only[bG,aV,af,ae,av,TC,g7,ao,afZ,agb,afX,au,Hy,aQ,bg,mz,KA,a3];refine⟨⟨rfl,rfl,by simp⟩,⟨trivial,trivial,trivial⟩,trivial, ?_⟩;exact next (fu-1) _ _ (by omega) ⟨i+1,by omega,rfl,(hk.trans k7 (by simp)).set _ (.inr (aga _)) Qa.1,Qa.1,az _ _ _⟩
  ·rw[agc hq,agf (by decide)];simp only[a3,ae];refine next (fu-1) _ _ (by omega) ⟨i+1,by omega,rfl,hk.trans k7 (by simp), ?_⟩;have e:iz P count base (i+1)=iz P count base i:=by simp only[iz];rw[agf hq]
   rw[e];exact Qa
 ·have qg:¬(i:Int)<count:=by omega
  have hic:i=count:=by omega
  have a1:ai .lss none false (I i) (I count) s= .ok (.bool false) s:=by rw[aA,bK,agc qg]
  simp only[a1,ae,ah,afY,agn];rw[hic]at hr;refine(zp (hk.fresh hf) hr B9 Xp wx ⟨hp.pos,hp.fits,hp.kq,hp.base,hp.cur⟩ hb).mono ?_;rintro _ s9 ⟨xo,Fo,G,rfl,k9,r9,Su,ge9⟩;simp only[ay,aL,ae,aA,eR,agW,agm,afY,agn,ah];exact⟨st.next,xo,Fo,G,rfl,hk.trans k9 (by simp),r9,Su,fun b hb=>aha hn (ge9 b hb),aga _⟩
end
section
variable {st st':St}
def oT (rec:List UInt8)(last n i:Nat):cp:=⟨last+1+i,decide (i+1=n),(rec.drop (i*501)).take 501⟩
def RingM.tI (m:RingM)(rec:List UInt8)(i:Nat):Nat×ij:=(m.place (m.last+1+i),(oT rec m.last (dD rec.length) i).bU)
theorem yW {D:aW}{i:Int}{s:ij}(h:(D.write i s).1=0):(D.write i s).2.dead=D.dead/\(D.write i s).2.waits=D.waits++[(i.toNat,s)]/\(D.write i s).2.ar=D.ar:=by
 unfold aW.write at*
 by_cases h1:D.dead=true
 ·rw[agl h1]at h;cases h
 ·rw[agf h1]at h⊢
  by_cases h2:i<0\/(D.ar.length:Int)<=i\/s.length≠512
  ·rw[agl h2]at h;cases h
  ·rw[agf h2]at h⊢
   by_cases h3:D.out
   ·rw[agl h3]at h;cases h
   ·rw[agf h3];exact⟨rfl,rfl,rfl⟩
end
theorem ZC (C:aN)(a:CV)(st:St)(Q:CV->St->Prop):aH P0 C (lvs 49) 49 [a] st Q=(C 47 [a] st fun c b=>us (ai .quo (none) true c (I 4) b) fun d=>Q d b):=by kernel_rfl
theorem Zt (C:aN)(d:CV)(st:St)(Q:CV->St->Prop):aH P0 C (lvs 58) 58 [d] st Q=(cN (fun c e=>cf (fun a b f=>us (ai .lss (none) false (ak 3 a) (ak 2 a) b) fun g=>aD g (idx 1 (ak 1 a) (ak 3 a) b fun h=>us (ai .shl (none) true (ak 0 a) (.int .u64 8) b) fun i=>us (bQ (.toInt .i64) h b) fun j=>us (ai .or (none) false i j b) fun k=>us (ai .add (none) true (ak 3 a) (I 1) b) fun l=>f [k,(ak 1 a),(ak 2 a),l] b) (Q (ak 0 a) b)) [(ak 0 c),(ak 1 c),(ak 2 c),(ak 3 c)] e) fun m=>us (bO .slice d st) fun n=>m [(I 0),d,n,(I 0)] st):=by kernel_rfl
theorem YX (C:aN)(d e:CV)(st:St)(Q:CV->St->Prop):aH P0 C (lvs 94) 94 [d,e] st Q=(cN (fun c g=>cf (fun a b h=>us (ai .lss (none) false (ak 3 a) (ak 2 a) b) fun i=>aD i (us (bO .slice (ak 0 a) b) fun j=>us (ai .sub (none) true j (I 1) b) fun k=>us (ai .sub (none) false k (ak 3 a) b) fun l=>us (ai .mul (none) true (I 8) (ak 3 a) b) fun m=>us (ai .shr (none) false (ak 1 a) m b) fun n=>us (bQ (.toInt .u8) n b) fun o=>BU 1 1 (ak 0 a) l o b fun f=>us (ai .add (none) true (ak 3 a) (I 1) f) fun p=>h [(ak 0 a),(ak 1 a),(ak 2 a),p] f) (Q .undef b)) [(ak 0 c),(ak 1 c),(ak 2 c),(ak 3 c)] g) fun q=>us (bO .slice d st) fun r=>q [d,e,r,(I 0)] st):=by kernel_rfl
theorem Zy (C:aN)(f:CV)(st:St)(Q:CV->St->Prop):aH P0 C (lvs 53) 53 [f] st Q=(upon (eO 145 f st) fun e k=>upon (dd 152 (zr 512) k) fun l m=>upon (dd 152 (zr 512) m) fun n c=>cN (fun d o=>cf (fun a b p=>us (ai .lss (none) false (ak 4 a) (ak 3 a) b) fun q=>aD q (idx 1 (ak 2 a) (ak 4 a) b fun r=>us (ai .mul (none) true (I 4) (ak 4 a) b) fun s=>us (ai .mul (none) true (I 4) (ak 4 a) b) fun t=>us (ai .add (none) true t (I 4) b) fun u=>us (bM 512 1 (ak 1 a) (some s) (some u) b) fun v=>C 94 [v,r] b fun G g=>us (ai .add (none) true (ak 4 a) (I 1) g) fun w=>p [(ak 0 a),(ak 1 a),(ak 2 a),(ak 3 a),w] g) (us (aP 512 (ak 1 a) b) fun x=>upon (aT 512 (ak 0 a) x b) fun _ h=>us (aP 512 (ak 0 a) h) fun y=>Q y h)) [(ak 0 d),(ak 1 d),(ak 2 d),(ak 3 d),(ak 4 d)] o) fun z=>fl 0 e c fun A=>fl 1 e c fun B=>fl 2 e c fun D=>fl 3 e c fun E=>upon (bI 3 4 (cM 4 [(I 0)]) [(0,1,A),(1,1,B),(2,1,D),(3,1,E)] c) fun i j=>us (bO .slice i j) fun F=>z [l,n,i,F,(I 0)] j):=by kernel_rfl
theorem Se (C:aN)(b:CV)(st:St)(Q:CV->St->Prop):aH P0 C (lvs 103) 103 [b] st Q=(upon (eO 152 b st) fun g h=>upon (dd 145 [(I 0),(I 0),(I 0),(I 0)] h) fun c d=>us (mH (.func 144) [] [g] d) fun a=>eG C a [(I 0)] d fun i j=>eG C a [(I 1)] j fun k l=>eG C a [(I 2)] l fun m n=>eG C a [(I 3)] n fun o e=>us (bf [(I 0),(I 0),(I 0),(I 0)] [(0,1,i),(1,1,k),(2,1,m),(3,1,o)] e) fun p=>upon (aT 4 c p e) fun _ f=>us (aP 4 c f) fun q=>Q q f):=by kernel_rfl
theorem RP (C:aN)(a b:CV)(st:St)(Q:CV->St->Prop):aH P0 C (lvs 144) 144 [a,b] st Q=(us (ai .mul (none) true (I 4) a st) fun c=>us (ai .mul (none) true (I 4) a st) fun d=>us (ai .add (none) true d (I 4) st) fun e=>us (bM 512 1 b (some c) (some e) st) fun f=>C 58 [f] st fun g h=>Q g h):=by kernel_rfl
theorem Zw (C:aN)(a d:CV)(st:St)(Q:CV->St->Prop):aH P0 C (lvs 55) 55 [a,d] st Q=(upon (dd 152 (zr 512) st) fun b e=>us (bM 512 1 b none none e) fun i=>upon (jF true 1 i (.str [98,117,116,116,101,114,121,49]) e) fun o f=>us (bM 512 1 b (some (I 8)) (some (I 16)) f) fun j=>C 94 [j,d] f fun p g=>us (bM 512 1 b none none g) fun k=>C 52 [a,(I 0),k] g fun h c=>us (ai .neq (some .int) true h (I 0) c) fun l=>aD l (Q h c) (C 54 [a] c fun m n=>Q m n)):=by kernel_rfl
theorem ZD (C:aN)(a:CV)(st:St)(Q:CV->St->Prop):aH P0 C (lvs 48) 48 [a] st Q=(C 49 [a] st fun c d=>us (ai .add (none) true (I 1) c d) fun f=>C 47 [a] d fun g b=>us (ai .sub (none) true g (I 1) b) fun h=>us (ai .sub (none) false h c b) fun i=>upon (fU none b) fun j k=>upon (fU none k) fun l m=>upon (fU none m) fun n o=>upon (fU none o) fun p e=>us (bf [.aC, .aC,(I 0),(I 0), .cD, .cD,(I 0),(I 0),(I 0),(I 0),(I 0),(I 0),(I 0),(I 0), .cD, .cD] [(0,1,a),(2,1,f),(3,1,i),(4,1,j),(5,1,l),(14,1,n),(15,1,p)] e) fun q=>upon (eO 150 q e) fun r s=>Q r s):=by kernel_rfl
theorem R7 (C:aN)(a:CV)(st:St)(Q:CV->St->Prop):aH P0 C (lvs 116) 116 [a] st Q=(us (ai .eql (some .ptr) true a .aC st) fun b=>aD b (Q (I 0) st) (yn 10 0 a st fun c=>Q c st)):=by kernel_rfl
theorem Rt (C:aN)(d c:CV)(st:St)(Q:CV->St->Prop):aH P0 C (lvs 198) 198 [d,c] st Q=(us (ai .gtr (none) true c (I 0) st) fun a=>us (aS (ag true a) st (.ok c st)) fun e=>us (aS (ag true a) st (.ok d st)) fun f=>us (aS (ag true a) st (cz f st)) fun g=>us (aS (ag true a) st (al 10 g st)) fun h=>eu (ag true a) 1 h st fun i=>us (aS (ag true a) st (ai .lss (none) false e i st)) fun j=>us (aK a j (.bool false) st) fun b=>us (aS (ag true b) st (.ok d st)) fun k=>fB (ag true b) 14 k st fun l=>us (aS (ag true b) st (.ok c st)) fun m=>us (aS (ag true b) st (fO .int (.bool false) false l m st)) fun n=>us (aS (ag true b) st (fA .not n st)) fun o=>us (aK b o (.bool false) st) fun p=>Q p st):=by kernel_rfl
theorem Sf (C:aN)(e g:CV)(st:St)(Q:CV->St->Prop):aH P0 C (lvs 102) 102 [e,g] st Q=(upon (dd 152 (zr 512) st) fun b f=>eN 5 e f fun r=>us (fO .int (.agg (zr 512)) true r g f) fun h=>us (aB h 0 f) fun s=>us (aB h 1 f) fun t=>upon (dd 152 (zr 512) f) fun i u=>upon (aT 512 i s u) fun _ d=>aD t (us (aP 512 i d) fun v=>upon (aT 512 b v d) fun _ j=>us (aP 512 b j) fun w=>Q (.tuple [w,(I 0)]) j) (eN 4 e d fun x=>us (fO .int (.agg (zr 512)) true x g d) fun k=>us (aB k 0 d) fun y=>us (aB k 1 d) fun z=>upon (dd 152 (zr 512) d) fun l A=>upon (aT 512 l y A) fun _ a=>aD z (us (aP 512 l a) fun B=>upon (aT 512 b B a) fun _ m=>us (aP 512 b m) fun D=>Q (.tuple [D,(I 0)]) m) (cd (us (cz e a) fun E=>us (al 0 E a) fun F=>us (aw F a) fun G=>us (cz e a) fun H=>us (al 2 H a) fun J=>us (aw J a) fun K=>us (ai .add (none) false K g a) fun L=>C 50 [G,L] a fun n c=>us (aB n 0 c) fun M=>us (aB n 1 c) fun o=>((True)/\(True)/\True)/\(True)/\us (ai .neq (some .int) true o (I 0) c) fun N=>aD N (us (bf (zr 512) [] c) fun O=>upon (aT 512 b O c) fun _ p=>us (aP 512 b p) fun P=>Q (.tuple [P,o]) p) (us (mF 512 M c) fun S=>us (aP 512 S c) fun T=>upon (aT 512 b T c) fun _ q=>us (aP 512 b q) fun U=>Q (.tuple [U,(I 0)]) q))))):=by kernel_rfl
theorem RA (C:aN)(a c:CV)(st:St)(Q:CV->St->Prop):aH P0 C (lvs 179) 179 [a,c] st Q=(us (ai .eql (some .ptr) true a .aC st) fun i=>aD i (Q (.tuple [.aa,(I 2)]) st) (C 198 [a,c] st fun j d=>us (fA .not j d) fun k=>aD k (Q (.tuple [.aa,(I 1)]) d) (C 102 [a,c] d fun f e=>us (aB f 0 e) fun l=>us (aB f 1 e) fun g=>upon (dd 152 (zr 512) e) fun h m=>upon (aT 512 h l m) fun _ b=>us (ai .neq (some .int) true g (I 0) b) fun n=>aD n (Q (.tuple [.aa,g]) b) (us (bM 512 1 h none none b) fun o=>C 91 [o] b fun p q=>Q (.tuple [p,(I 0)]) q)))):=by kernel_rfl
section
variable {st st':St}
def l8 (l:List UInt8):Nat:=l.foldl (fun a b=>a*256+b.toNat) 0
theorem mV (l:List UInt8)(b:UInt8):l8 (l++[b])=l8 l*256+b.toNat:=by simp[l8]
def be (k n:Nat):List UInt8:=(le k n).reverse
theorem gV (k n:Nat):(be k n).length=k:=by simp[be,fg]
theorem wI (k n:Nat):be (k+1) n=UInt8.ofNat (n/256^k%256)::be k n:=by simp[be,le]
theorem ET (k:Nat):∀n acc:Nat,(be k n).foldl (fun a b=>a*256+b.toNat) acc=acc*256^k+n%256^k:=by
 induction k with
 |zero=>intro n acc;simp[be,le,Nat.mod_one]
 |succ k ih=>
  intro n acc;rw[wI,List.foldl_cons,ih];have h1:(UInt8.ofNat (n/256^k%256)).toNat=n/256^k%256:=by simp
  have h2:n%256^(k+1)=n%256^k+256^k*(n/256^k%256):=by rw[ahZ,Nat.mod_mul]
  rw[h1,h2,ahZ,ahm,Nat.mul_assoc,ahE 256 (256^k),ahE (n/256^k%256)];omega
theorem oD (k n:Nat)(h:n<256^k):l8 (be k n)=n:=by
 unfold l8;rw[ET,Nat.zero_mul,afZ,ahv h]
theorem uD (a m k:Nat)(h:a<2^k)(hs:a+m*2^k<9223372036854775808)(d:Option gH)(c:Bool)(st:St):ai .or d c (I ((m*2^k:Nat):Int)) (I a) st= .ok (I ((m*2^k+a:Nat):Int)) st:=by
 have e:ai .or d c (I ((m*2^k:Nat):Int)) (I a) st=(match gD .or .i64 ((m*2^k:Nat):Int) (a:Int)with|some r=> .ok (.int .i64 r) st|none=> .bad):=rfl
 have e2:gD .or .i64 ((m*2^k:Nat):Int) (a:Int)=gD .or .i64 (a:Int) ((m*2^k:Nat):Int):=by
  show some (IntKind.i64.wrap ((BitVec.ofInt 64 _|||BitVec.ofInt 64 _).toNat:Int))=some (IntKind.i64.wrap ((BitVec.ofInt 64 _|||BitVec.ofInt 64 _).toNat:Int));rw[BitVec.or_comm]
 rw[e,e2,Is a m k h hs,Nat.add_comm]
theorem p6 {X:List Nat}{v:CV}{l:List UInt8}(h:Sl st X v 1 (aj l))(hl:l.length<=1000)(hb:∀i,l8 (l.take i)<=4611686018427387904):R 58 [v] st fun x st'=>x=I (l8 l)/\st'=st:=by
 refine bp ?_;rw[Zt];have hlen:=h.len l.length (by simp) (by omega) st;show us _ _;rw[hlen,ae];show cf _ _ _;simp only[aI,aJ];refine bA (fun fu vs s=>∃i,fu+i=l.length/\vs=[I (l8 (l.take i)),v,I l.length,I i]/\s=st) ?_ (n:=l.length) ⟨0,rfl,rfl,rfl⟩;rintro fu vs s k ⟨i,hi,rfl,rfl⟩ next;simp only[aI,aJ]
 by_cases hc:i<l.length
 ·have a1:ai .lss none false (I i) (I l.length) s= .ok (.bool true) s:=by rw[aA,bK,agi (by omega)]
  have yR:=hb i;have hb2:=hb (i+1);have wR:l.take (i+1)=l.take i++[l[i]]:=by rw[agI hc]
  rw[wR,mV]at hb2;have hlt:(l[i]).toNat<256:=(l[i]).toNat_lt
  have a2:ai .shl none true (I (l8 (l.take i))) (.int .u64 8) s= .ok (I ((l8 (l.take i)*2^8:Nat):Int)) s:=by
   have e:ai .shl none true (I (l8 (l.take i))) (.int .u64 8) s= .ok (I (IntKind.i64.wrap ((l8 (l.take i):Int)*2^8))) s:=rfl;rw[e,bN (by omega)];simp
  have a3:bQ (.toInt .i64) (bo l[i]) s= .ok (I (l[i]).toNat) s:=xa _ (by omega) _ _;have a4:ai .or none false (I ((l8 (l.take i)*2^8:Nat):Int)) (I (l[i]).toNat) s= .ok (I ((l8 (l.take i)*2^8+(l[i]).toNat:Nat):Int)) s:=uD _ _ _ (by omega) (by omega) _ _ _;have a5:ai .add none true (I i) (.int .i64 1) s= .ok (I ((i+1:Nat):Int)) s:=by rw[aA,cR,bN (by omega)];rfl
  simp only[a1,ae,ah,ags,a2];refine h.idx (by simpa using hc) _ ?_;have hg:(aj l)[i]'(by simpa using hc)=bo l[i]:=by simp[aj]
  rw[hg,a3,ae,a4,ae,a5,ae];exact next (fu-1) _ _ (by omega) ⟨i+1,by omega,by rw[wR,mV],rfl⟩
 ·have a1:ai .lss none false (I i) (I l.length) s= .ok (.bool false) s:=by rw[aA,bK,agc (by omega)]
  simp only[a1,ae,ah,afY,agn];rw[agk (by omega)];exact⟨rfl,trivial⟩
theorem BG (L T:List CV)(p:Nat)(x:CV)(h:p+1+T.length<=L.length):bB (bB L (p+1) T) p [x]=bB L p (x::T):=by
 unfold bB
 have e1:(L.take (p+1)++(T++L.drop (p+1+T.length))).take p=L.take p:=by
  rw[List.take_append_of_le_length (by rw[agy];omega),agV,agD (by omega)]
 have e2:(L.take (p+1)++(T++L.drop (p+1+T.length))).drop (p+1)=T++L.drop (p+1+T.length):=by
  rw[List.drop_append,agR (by rw[agy];omega),agy,agD (by omega),Nat.sub_self,agC,agE]
 simp only[agT,ahV,afZ];rw[e1,e2];have e3:p+(T.length+1)=p+1+T.length:=by omega
 rw[e3];rfl
theorem xN (L:List CV)(p:Nat):bB L p []=L:=by unfold bB;simp
theorem Dz {b off len cap n:Nat}{L:List CV}{t:TypeId}{g:Bool}(hb:st.mem.get b=some (.cells L t g))(hbn:b<st.next)(hL:off+len<=L.length)(hlen:len<=8)(hn:n<9223372036854775808):
 R 94 [.slice b off len cap 0,I n] st fun x st'=>Kp [b] st st'/\st'.next=st.next/\st'.mem.get b=some (.cells (bB L off (aj (be len n))) t g):=by
 refine bp ?_;rw[YX];simp only[bP,dE,ae,aI,aJ]
 refine bA (fun fu vs s=>∃i,fu+i=len/\vs=[.slice b off len cap 0,I n,I len,I i]/\Kp [b] st s/\s.next=st.next/\s.mem.get b=some (.cells (bB L (off+len-i) (aj (be i n))) t g)) ?_ (n:=len) ⟨0,rfl,rfl,Kp.refl _ _,rfl,by
  have:aj (be 0 n)=[]:=rfl;rw[this,xN];exact hb⟩
 rintro fu vs s k ⟨i,hi,rfl,hk,Xm,hg⟩ next;simp only[aI,aJ]
 by_cases hc:i<len
 ·have a1:ai .lss none false (I i) (I len) s= .ok (.bool true) s:=by rw[aA,bK,agi (by omega)]
  have a2:ai .sub none true (I len) (.int .i64 1) s= .ok (I ((len-1:Nat):Int)) s:=by rw[aA,fF,bN (by omega)];congr 2;omega
  have a3:ai .sub none false (I ((len-1:Nat):Int)) (I i) s= .ok (I ((len-1-i:Nat):Int)) s:=by rw[aA,fF,bN (by omega)];congr 2;omega
  have a4:ai .mul none true (.int .i64 8) (I i) s= .ok (I ((8*i:Nat):Int)) s:=by rw[aA,jE,bN (by omega)];rfl
  have a5:cm 1 (.slice b off len cap 0) (I ((len-1-i:Nat):Int)) s= .ok (.ptr b (off+(len-1-i)*1)) s:=du (by omega) (.inl rfl) s;have a6:∀s,ai .add none true (I i) (.int .i64 1) s= .ok (I ((i+1:Nat):Int)) s:=fun s=>by rw[aA,cR,bN (by omega)];rfl
  simp only[a1,ae,ah,ags,dE,a2,a3,a4,Ar _ _ (show i<8 by omega),C5,BU,a5,aQ,hg,bg,a6];have e1:off+(len-1-i)*1=off+len-(i+1):=by omega
  have e2:off+len-i=off+len-(i+1)+1:=by omega
  have hbl:=gV i n
  have e3:bB (bB L (off+len-i) (aj (be i n))) (off+len-(i+1)) [bo (UInt8.ofNat (n/256^i%256))]=bB L (off+len-(i+1)) (aj (be (i+1) n)):=by
   rw[e2,BG _ _ _ _ (by simp[hbl];omega),wI];rfl
  have hsg:(bo (UInt8.ofNat (n/256^i%256))).bL=[bo (UInt8.ofNat (n/256^i%256))]:=rfl;rw[e1,hsg,e3];refine⟨⟨rfl,rfl,by rw[mJ _ _ _ (by simp[hbl];omega)];omega⟩,next (fu-1) _ _ (by omega) ⟨i+1,by omega,rfl,hk.set _ (.inl (by simp)) (by omega),Xm,az _ _ _⟩⟩
 ·have a1:ai .lss none false (I i) (I len) s= .ok (.bool false) s:=by rw[aA,bK,agc (by omega)]
  simp only[a1,ae,ah,afY,agn];have Mt:i=len:=by omega
  subst Mt;rw[ahU]at hg;exact⟨hk,Xm,hg⟩
end
structure gE where
 root:Nat
 used:Nat
 head:Nat
 free:Nat
structure bY where
 first:Nat
 bE:Nat
 dirty:List (Nat×ij)
 now:List (Nat×ij)
 kept:gE
 m:gE
 idle:List Nat
 count:List Nat
def kH (l:List (Nat×ij)):MZ:=l.map fun p:Nat×ij=>(Int.ofNat p.1,CV.agg (aj p.2))
def xk (l:List Nat):MZ:=l.map fun n:Nat=>(Int.ofNat n,CV.bool true)
def fq (l:List (Nat×ij))(n:Nat):Option ij:=match l with|[]=>none|p::r=>if n=p.1 then some p.2 else fq r n
def oR (l:List (Nat×ij))(n:Nat)(s:ij):List (Nat×ij):=match l with|[]=>[(n,s)]|p::r=>if n=p.1 then (n,s)::r else p::oR r n s
def rB (l:List Nat)(n:Nat):List Nat:=match l with|[]=>[n]|p::r=>if n=p then p::r else p::rB r n
theorem rG (l:List (Nat×ij))(n:Nat):ic (kH l) n=(fq l n).map fun s=> .agg (aj s):=by
 induction l with
 |nil=>rfl
 |cons p r ih=>
  show(if (n:Int)=(p.1:Int)then some (CV.agg (aj p.2))else ic (kH r) n)=_;simp only[fq]
  by_cases h:n=p.1
  ·rw[agl h,agl (by omega)];rfl
  ·rw[agf h,agf (by omega)];exact ih
theorem Dn (l:List (Nat×ij))(n:Nat)(s:ij):jT (kH l) n (.agg (aj s))=kH (oR l n s):=by
 induction l with
 |nil=>rfl
 |cons p r ih=>
  show(if (n:Int)=(p.1:Int)then ((n:Int),CV.agg (aj s))::kH r else ((p.1:Int),CV.agg (aj p.2))::jT (kH r) n (.agg (aj s)))=_;simp only[oR]
  by_cases h:n=p.1
  ·rw[agl h,agl (by omega)];rfl
  ·rw[agf h,agf (by omega),ih];rfl
theorem xj (l:List Nat)(n:Nat):ic (xk l) n=if n∈l then some (.bool true)else none:=by
 induction l with
 |nil=>rfl
 |cons p r ih=>
  show(if (n:Int)=(p:Int)then some (CV.bool true)else ic (xk r) n)=_
  by_cases h:n=p
  ·rw[agl (by omega),agl (by simp[h])]
  ·rw[agf (by omega),ih];simp[h]
theorem Dj (l:List Nat)(n:Nat):jT (xk l) n (.bool true)=xk (rB l n):=by
 induction l with
 |nil=>rfl
 |cons p r ih=>
  show(if (n:Int)=(p:Int)then ((n:Int),CV.bool true)::xk r else ((p:Int),CV.bool true)::jT (xk r) n (.bool true))=_;simp only[rB]
  by_cases h:n=p
  ·rw[agl h,agl (by omega),h];rfl
  ·rw[agf h,agf (by omega),ih];rfl
structure dy (st:St)(p a:Nat)(lg:CV)(M:bY)(bd bn bi bc:Nat):Prop where
 main:st.mem.get p=some (.cells [.ptr a 0,lg,I M.first,I M.bE, .map bd, .map bn,I M.kept.root,I M.kept.used,I M.kept.head,I M.kept.free,I M.m.root,I M.m.used,I M.m.head,I M.m.free, .map bi, .map bc] 150 false)
 dirty:IsMap st bd (kH M.dirty)
 now:dH st bn (kH M.now)
 idle:dH st bi (xk M.idle)
 count:dH st bc (xk M.count)
 nd:[p,bd,bn,bi,bc].Nodup
 lt:∀b∈[p,bd,bn,bi,bc],b<st.next
 lgs:lg.bL=[lg]/\bW lg=true/\lg.isAny=false
section
variable {st st':St} {p a:Nat} {lg:CV} {M:bY} {bd bn bi bc:Nat}
theorem dy.keep {X:List Nat}(h:dy st p a lg M bd bn bi bc)(hk:Kp X st st')(hx:∀b∈[p,bd,bn,bi,bc],b∉X):dy st' p a lg M bd bn bi bc:=by
 have k:=fun b hb=>hk.keep b (h.lt b hb) (hx b hb);exact⟨(k p (by simp)).trans h.main,h.dirty.mono (k bd (by simp)),h.now.mono (k bn (by simp)),h.idle.mono (k bi (by simp)),h.count.mono (k bc (by simp)),h.nd,fun b hb=>ago (h.lt b hb) hk.next,h.lgs⟩
def bY.sD (M:bY):Int:=(M.bE:Int)-M.m.used+M.m.free
def bY.js (M:bY)(n:Nat):Prop:=0<n/\n<M.m.used/\n∉M.idle
instance (M:bY) (n:Nat):Decidable (M.js n):=by unfold bY.js;infer_instance
theorem Gw (h:dy st p a lg M bd bn bi bc):R 116 [.ptr p 0] st fun v st'=>v=I M.m.root/\st'=st:=by
 refine bp ?_;rw[R7];simp[yn,h.main]
theorem Gf (h:dy st p a lg M bd bn bi bc)(n:Nat):R 198 [.ptr p 0,I n] st fun v st'=>v= .bool (decide (M.js n))/\st'=st:=by
 refine bp ?_;rw[Rt];have wS:=IsMap.lookup (.inl h.idle) (.bool false) false n st rfl;rw[agf (by decide),xj]at wS;unfold bY.js
 by_cases h1:0<n
 ·by_cases h2:n<M.m.used
  ·by_cases h3:n∈M.idle
   ·rw[agl h3]at wS;simp[h1,h2,h3,eu,fB,h.main,wS]
   ·rw[agf h3]at wS;simp[h1,h2,h3,eu,fB,h.main,wS]
  ·simp[h1,h2,eu,fB,h.main]
 ·have:n=0:=by omega
  subst this;simp[eu,fB]
end
inductive PC where
 |node (n:ek)
 |ej (next:Nat) (data:List UInt8)
 |blank
structure GM where
 bE:Nat
 used:Nat
 root:Nat
 fr:List Nat
 cont:Nat->PC
 fc:List Nat
def GM.js (G:GM)(n:Nat):Prop:=0<n/\n<G.used/\n∉G.fr
structure We (G:GM):Prop where
 one:1<=G.used
 kq:G.used<=G.bE
 size:G.bE<=65536
 nd:G.fr.Nodup
 fr:∀n∈G.fr,0<n/\n<G.used
def GM.sD (G:GM):Nat:=G.bE-G.used+G.fr.length
def GM.put (G:GM)(n:Nat)(x:PC):GM:={G with cont:=fun q=>if q=n then x else G.cont q,fc:=rB G.fc n}
def GM.alloc (G:GM):GM:=match G.fr with
 |[]=>{G with used:=G.used+1,cont:=fun q=>if q=G.used then .blank else G.cont q,fc:=rB G.fc G.used}
 |n::r=>{G with fr:=r,cont:=fun q=>if q=n then .blank else G.cont q,fc:=rB G.fc n}
def GM.drop (G:GM)(n:Nat):GM:={G with fr:=n::G.fr,fc:=rB G.fc n}
abbrev cU:=dS×List UInt8
def pL (G:GM):List Nat->Nat->List UInt8->Prop
 |[],dA,v=>dA=0/\v=[]
 |p::ps,dA,v=>dA=p/\v≠[]/\G.js p/\∃next,G.cont p= .ej next (v.take 480)/\next<=tS/\pL G ps next (v.drop 480)
def Jq (G:GM)(c:fw)(v:List UInt8)(ps:List Nat):Prop:=
 (c.ej=0/\v=c.value/\ps=[])\/(c.ej≠0/\c.size=v.length/\64<v.length/\v.length<=8192/\pL G ps c.ej v)
def lZ (G:GM):List fw->List cU->List Nat->Prop
 |[],L,ps=>L=[]/\ps=[]
 |c::cs,L,ps=>∃v p1 L2 p2,Jq G c v p1/\lZ G cs L2 p2/\L=(c.key,v)::L2/\ps=p1++p2
abbrev yH:=Nat->dS->Option dS->List cU->List Nat->Prop
def ez (S:yH):List Nat->List dS->dS->Option dS->List cU->List Nat->Prop
 |[k],[],lo,hi,L,ps=>S k lo hi L ps
 |k::ks,s::ss,lo,hi,L,ps=>∃L1 p1 L2 p2,S k lo (some s) L1 p1/\ez S ks ss s hi L2 p2/\L=L1++L2/\ps=p1++p2
 |_,_,_,_,_,_=>False
def J6 (k:dS)(hi:Option dS):Prop:=match hi with|none=>True|some h=>jq k h
def ek.rE (n:ek):List dS:=n.cells.map (·.key)
def xS (G:GM)(n:ek)(lo:dS)(hi:Option dS)(L:List cU)(ps:List Nat):Prop:=n.leaf=true/\J6 lo hi/\lZ G n.cells L ps/\∀c∈n.cells,nE lo c.key/\J6 c.key hi
def Ef (S:yH)(n:ek)(lo:dS)(hi:Option dS)(L:List cU)(ps:List Nat):Prop:=n.leaf=false/\ez S n.kids n.rE lo hi L ps
structure Ju (G:GM)(dA:Nat)(n:ek):Prop where
 js:G.js dA
 cont:G.cont dA= .node n
 ok:n.ok
 size:n.size<=512
 full:n.leaf=true\/n.cells≠[]
def YF (G:GM)(C:ek->dS->Option dS->List cU->List Nat->Prop):yH:=fun dA lo hi L ps=>∃n q,Ju G dA n/\C n lo hi L q/\ps=dA::q
def MJ (G:GM):Nat->ek->dS->Option dS->List cU->List Nat->Prop
 |0=>xS G
 |h+1=>Ef (YF G (MJ G h))
def Sub (G:GM)(h:Nat):yH:=YF G (MJ G h)
theorem uH {a b:dS}{hi:Option dS}(h:jq a b)(k:J6 b hi):J6 a hi:=by cases hi with|none=>trivial|some c=>exact kN h k
section
variable {S S':yH}
theorem ez.cons {k:Nat}{ks:List Nat}{s:dS}{ss:List dS}{lo:dS}{hi:Option dS}{L:List cU}{ps:List Nat}:ez S (k::ks) (s::ss) lo hi L ps↔∃L1 p1 L2 p2,S k lo (some s) L1 p1/\ez S ks ss s hi L2 p2/\L=L1++L2/\ps=p1++p2:=by cases ks<;>exact Iff.rfl
theorem ez.one {k:Nat}{ks:List Nat}{lo:dS}{hi:Option dS}{L:List cU}{ps:List Nat}:ez S (k::ks) [] lo hi L ps↔ks=[]/\S k lo hi L ps:=by
 cases ks with
 |nil=>simp[ez]
 |cons k2 ks=>simp[ez]
theorem ez.len {ks:List Nat}{ss:List dS}{lo:dS}{hi:Option dS}{L:List cU}{ps:List Nat}(h:ez S ks ss lo hi L ps):ks.length=ss.length+1:=by
 induction ks generalizing ss lo L ps with
 |nil=>cases ss<;>exact h.elim
 |cons k ks ih=>
  cases ss with
  |nil=>rw[ez.one]at h;rw[h.1];rfl
  |cons s ss=>rw[ez.cons]at h;obtain⟨_,_,_,_,_,h2,_,_⟩:=h;simp[ih h2]
end
def rb (L:List cU):Prop:=L.Pairwise fun a b=>jq a.1 b.1
structure FN (lo:dS)(hi:Option dS)(L:List cU):Prop where
 lt:J6 lo hi
 NK:∀x∈L,nE lo x.1/\J6 x.1 hi
 sorted:rb L
theorem rC {L1 L2:List cU}(h1:rb L1)(h2:rb L2)(h:∀x∈L1,∀y∈L2,jq x.1 y.1):rb (L1++L2):=List.pairwise_append.2 ⟨h1,h2,h⟩
theorem ez.facts {S:yH}(hS:∀k lo hi L q,S k lo hi L q->FN lo hi L){ks:List Nat}{ss:List dS}{lo:dS}{hi:Option dS}{L:List cU}{ps:List Nat}(h:ez S ks ss lo hi L ps):
 FN lo hi L/\(∀s∈ss,jq lo s/\J6 s hi)/\ss.Pairwise jq:=by
 induction ks generalizing ss lo L ps with
 |nil=>cases ss<;>exact h.elim
 |cons k ks ih=>
  cases ss with
  |nil=>rw[ez.one]at h;exact⟨hS _ _ _ _ _ h.2,by simp,by simp⟩
  |cons s ss=>
   rw[ez.cons]at h;obtain⟨L1,p1,L2,p2,h1,h2,rfl,rfl⟩:=h;have f1:=hS _ _ _ _ _ h1;obtain⟨f2,f3,f4⟩:=ih h2;have hlt:jq lo s:=f1.lt;have Cz:=f2.lt;refine⟨⟨uH hlt Cz,fun x hx=> ?_,rC f1.sorted f2.sorted fun x hx y hy=> ?_⟩,fun t ht=> ?_, ?_⟩
   ·rcases agz.1 hx with hx|hx
    ·obtain⟨a,b⟩:=f1.NK x hx;exact⟨a,uH b Cz⟩
    ·obtain⟨a,b⟩:=f2.NK x hx;exact⟨(hlt.rz a).le,b⟩
   ·have a:jq x.1 s:=(f1.NK x hx).2;exact a.rz (f2.NK y hy).1
   ·rcases age.1 ht with rfl|ht
    ·exact⟨hlt,Cz⟩
    ·obtain⟨a,b⟩:=f3 t ht;exact⟨kN hlt a,b⟩
   ·exact List.pairwise_cons.2 ⟨fun t ht=>(f3 t ht).1,f4⟩
theorem lZ.keys {G:GM}{cs:List fw}{L:List cU}{ps:List Nat}(h:lZ G cs L ps):L.map (·.1)=cs.map (·.key):=by
 induction cs generalizing L ps with
 |nil=>obtain⟨rfl,rfl⟩:=h;rfl
 |cons c cs ih=>obtain⟨v,p1,L2,p2,h1,h2,rfl,rfl⟩:=h;simp[ih h2]
theorem lZ.len {G:GM}{cs:List fw}{L:List cU}{ps:List Nat}(h:lZ G cs L ps):L.length=cs.length:=by simpa using congrArg List.length h.keys
theorem xS.facts {G:GM}{n:ek}{lo:dS}{hi:Option dS}{L:List cU}{ps:List Nat}(h:xS G n lo hi L ps)(hn:vt n.cells):FN lo hi L:=by
 obtain⟨h1,h2,h3,h4⟩:=h;have hk:=h3.keys;refine⟨h2,fun x hx=> ?_, ?_⟩
 ·have:x.1∈n.cells.map (·.key):=by rw[<-hk];exact ahy hx
  obtain⟨c,hc,e⟩:=agJ.1 this;rw[<-e];exact h4 c hc
 ·have:(L.map (·.1)).Pairwise jq:=by rw[hk,List.pairwise_map];exact hn
  rw[List.pairwise_map]at this;exact this
theorem MJ.facts {G:GM}:∀{h:Nat} {n:ek} {lo:dS} {hi:Option dS} {L:List cU} {ps:List Nat},MJ G h n lo hi L ps->vt n.cells->FN lo hi L:=by
 intro h
 induction h with
 |zero=>intro n lo hi L ps h1 hn;exact xS.facts h1 hn
 |succ h ih=>
  rintro n lo hi L ps ⟨_,h2⟩ hn;exact(h2.facts fun k lo hi L q hS=>by obtain⟨m,q',a,b,rfl⟩:=hS;exact ih b a.ok.sorted).1
theorem Sub.facts {G:GM}{h dA:Nat}{lo:dS}{hi:Option dS}{L:List cU}{ps:List Nat}(hs:Sub G h dA lo hi L ps):FN lo hi L:=by
 obtain⟨m,q',a,b,rfl⟩:=hs;exact b.facts a.ok.sorted
theorem ez.bE {S:yH}{ks:List Nat}{ss:List dS}{lo:dS}{hi:Option dS}{L:List cU}{ps:List Nat}(h:ez S ks ss lo hi L ps)(P:Nat->Prop)(hS:∀k lo hi L q,S k lo hi L q->∀x∈q,P x):∀x∈ps,P x:=by
 induction ks generalizing ss lo L ps with
 |nil=>cases ss<;>exact h.elim
 |cons k ks ih=>
  cases ss with
  |nil=>rw[ez.one]at h;exact hS _ _ _ _ _ h.2
  |cons s ss=>
   rw[ez.cons]at h;obtain⟨L1,p1,L2,p2,h1,h2,rfl,rfl⟩:=h;intro x hx;rcases agz.1 hx with hx|hx
   ·exact hS _ _ _ _ _ h1 x hx
   ·exact ih h2 x hx
theorem pL.bE {G:GM}{ps:List Nat}{dA:Nat}{v:List UInt8}(h:pL G ps dA v):∀x∈ps,G.js x:=by
 induction ps generalizing dA v with
 |nil=>simp
 |cons p ps ih=>
  obtain⟨rfl,h1,h2,next,h3,h4,h5⟩:=h;intro x hx;rcases age.1 hx with rfl|hx
  ·exact h2
  ·exact ih h5 x hx
theorem lZ.bE {G:GM}{cs:List fw}{L:List cU}{ps:List Nat}(h:lZ G cs L ps):∀x∈ps,G.js x:=by
 induction cs generalizing L ps with
 |nil=>obtain⟨rfl,rfl⟩:=h;simp
 |cons c cs ih=>
  obtain⟨v,p1,L2,p2,h1,h2,rfl,rfl⟩:=h;intro x hx;rcases agz.1 hx with hx|hx
  ·rcases h1 with⟨_,_,rfl⟩|⟨_,_,_,_,e⟩
   ·cases hx
   ·exact e.bE x hx
  ·exact ih h2 x hx
theorem MJ.bE {G:GM}:∀{h:Nat} {n:ek} {lo:dS} {hi:Option dS} {L:List cU} {ps:List Nat},MJ G h n lo hi L ps->∀x∈ps,G.js x:=by
 intro h
 induction h with
 |zero=>rintro n lo hi L ps ⟨_,_,h3,_⟩;exact h3.bE
 |succ h ih=>
  rintro n lo hi L ps ⟨_,h2⟩;refine h2.bE _ fun k lo hi L q hS=> ?_;obtain⟨m,q',a,b,rfl⟩:=hS;intro x hx;rcases age.1 hx with rfl|hx
  ·exact a.js
  ·exact ih b x hx
theorem Sub.bE {G:GM}{h dA:Nat}{lo:dS}{hi:Option dS}{L:List cU}{ps:List Nat}(hs:Sub G h dA lo hi L ps):∀x∈ps,G.js x:=by
 obtain⟨m,q',a,b,rfl⟩:=hs;intro x hx;rcases age.1 hx with rfl|hx
 ·exact a.js
 ·exact b.bE x hx
theorem ez.count {S:yH}{w:Nat}(hS:∀k lo hi L q,S k lo hi L q->w<=q.length){ks:List Nat}{ss:List dS}{lo:dS}{hi:Option dS}{L:List cU}{ps:List Nat}(h:ez S ks ss lo hi L ps):ks.length*w<=ps.length:=by
 induction ks generalizing ss lo L ps with
 |nil=>cases ss<;>exact h.elim
 |cons k ks ih=>
  cases ss with
  |nil=>rw[ez.one]at h;obtain⟨rfl,h⟩:=h;simpa using hS _ _ _ _ _ h
  |cons s ss=>
   rw[ez.cons]at h;obtain⟨L1,p1,L2,p2,h1,h2,rfl,rfl⟩:=h;have:=hS _ _ _ _ _ h1;have:=ih h2;rw[agT,agq,ahm];omega
theorem Sub.count {G:GM}:∀{h dA:Nat} {lo:dS} {hi:Option dS} {L:List cU} {ps:List Nat},Sub G h dA lo hi L ps->2^h<=ps.length:=by
 intro h
 induction h with
 |zero=>rintro dA lo hi L ps ⟨m,q',a,b,rfl⟩;simp
 |succ h ih=>
  rintro dA lo hi L ps ⟨m,q',a,⟨b1,b2⟩,rfl⟩;have h1:=b2.count (w:=2^h) fun k lo hi L q hS=>ih hS;have h2:=b2.len
  have h3:0<m.rE.length:=by
   rcases a.full with h|h
   ·rw[b1]at h;cases h
   ·unfold ek.rE;rw[agM];exact ahQ.2 h
  have h4:2*2^h<=m.kids.length*2^h:=agS _ (by omega);rw[ahZ,agT];omega
theorem rX:∀(n:Nat) (l:List Nat),l.Nodup->(∀x∈l,x<n)->l.length<=n:=by
 intro n
 induction n with
 |zero=>intro l _ h;cases l with|nil=>simp|cons a l=>exact absurd (h a (by simp)) (by omega)
 |succ n ih=>
  intro l hn h
  by_cases hm:n∈l
  ·have h1:=ih (l.erase n) (hn.erase n) fun x hx=>by
    obtain⟨a,b⟩:=hn.mem_erase_iff.1 hx;have:=h x b;omega
   rw[List.length_erase_of_mem hm]at h1;omega
  ·have:=ih l hn fun x hx=>by
    have:=h x hx;have:x≠n:=fun e=>hm (e▸hx);omega
   omega
theorem xD {G:GM}{ps:List Nat}(hn:ps.Nodup)(hu:∀x∈ps,G.js x)(h1:1<=G.used):ps.length+1<=G.used:=by
 have:=rX G.used (0::ps) (agF.2 ⟨fun h=>by have:=(hu 0 h).1;omega,hn⟩) fun x hx=>by
  rcases age.1 hx with rfl|hx
  ·omega
  ·exact(hu x hx).2.1
 simpa using this
theorem Sub.deep {G:GM}{h dA:Nat}{lo:dS}{hi:Option dS}{L:List cU}{ps:List Nat}(hs:Sub G h dA lo hi L ps)(hn:ps.Nodup)(hG:We G):h<=16:=by
 have h1:=hs.count;have h2:=xD hn hs.bE hG.one;have h3:=hG.kq;have h4:=hG.size;rcases ahD 16 h with h5|h5
 ·have:2^17<=2^h:=Nat.pow_le_pow_right (by omega) h5;omega
 ·exact h5
structure Jr where
 dA:Nat
 at_:Nat
 n:ek
theorem Dk (n:ek):n.rE.length=n.cells.length:=by unfold ek.rE;simp
structure jj (G:GM)(L:List cU):Prop where
 ok:We G
 tree:(G.root=0/\L=[])\/∃h ps,ps.Nodup/\Sub G h G.root [] none L ps
theorem yp {L:List cU}{p:cU->Bool}(h:∀x∈L,p x=false):L.filter p=[]:=List.filter_eq_nil_iff.2 fun x hx=>by simp[h x hx]
section
variable {G:GM} {key:dS} {f:Jr} {rest:List Jr} {L:List cU} {lo:dS} {hi:Option dS} {Ll Lr:List cU} {ps:List Nat} {Lt:List cU} {pt:List Nat} {Ld:List cU} {pd:List Nat}
end
section
variable {st st':St} {p a:Nat} {lg:CV} {M:bY} {bd bn bi bc:Nat} {F:List Nat} {D:aW}
def bY.get (M:bY)(D:aW)(n:Nat):ij:=match fq M.now n with|some s=>s|none=>match fq M.dirty n with|some s=>s|none=>D.cur (M.first+n)
theorem Az (s:ij)(h:s.length=512):bB (zr 512) 0 (aj s)=aj s:=cW _ _ (by rw[bJ,h];exact List.length_replicate.symm)
theorem mh:(zr 512).length=512:=agr
theorem CM:bu (zr 512)=true:=by rw[mi];exact bz _
theorem jw {s:St}{T:List CV}{K:CV->St->Prop}(hl:T.length=512)(ho:bu T=true)(hK:K (.ptr s.next 0) (St.set (St.new s (.cells (zr 512) 152 false)) s.next (.cells T 152 false))):
 upon (dd 152 (zr 512) s) fun x s2=>upon (aT 512 x (.agg T) s2) fun _ s3=>K x s3:=by
 rw[cn,bj,aQ,aG];have:bB (zr 512) 0 T=T:=cW _ _ (by rw[hl];exact mh.symm);rw[bg,ba,this];exact⟨⟨hl,ho,by rw[mh];exact aga _⟩,hK⟩
theorem Kp.dA {X:List Nat}{s s2:St}(h:Kp X s s2)(T:List CV):Kp X s (St.set (St.new s2 (.cells (zr 512) 152 false)) s2.next (.cells T 152 false)):=(h.new _).set _ (.inr h.next) (by simp)
theorem vH (h:dy st p a lg M bd bn bi bc)(hd:cV st a F D)(wx:D.dead=false){n:Nat}(hn:M.first+n<D.ar.length)(hs:(M.get D n).length=512):
 R 102 [.ptr p 0,I n] st fun v st'=>v= .tuple [.agg (aj (M.get D n)),I 0]/\Kp [] st st':=by
 refine bp ?_;rw[Sf];have hsz:=(show D.ar.length<=65536 from by obtain⟨_,_,_,_,_,_,_,h⟩:=hd;exact h.size);have k1:Kp [] st (St.new st (.cells (zr 512) 152 false)):=(Kp.refl [] st).new _;have g1:(St.new st (.cells (zr 512) 152 false)).mem.get st.next=some (.cells (zr 512) 152 false):=aG _ _;have n1:(St.new st (.cells (zr 512) 152 false)).next=st.next+1:=rfl;rw[cn,bj];generalize St.new st (.cells (zr 512) 152 false)=s1 at*;have h1:=h.keep k1 (by simp);have hl1:=IsMap.lookup (.inl h1.now) (.agg (zr 512)) true n s1 rfl;rw[agl rfl,rG]at hl1;simp only[eN,aV,af,ae,av,h1.main,ao,afZ,agb,afX,au,hl1,ay,aL]
 have fin:∀(s:St) (T:ij),T.length=512->T=M.get D n->Kp [] st s->s.mem.get st.next=some (.cells (zr 512) 152 false)->st.next<s.next->
  upon (aT 512 (.ptr st.next 0) (.agg (aj T)) s) fun _ s4=>us (aP 512 (.ptr st.next 0) s4) fun x8=>(CV.tuple [x8,I 0]= .tuple [.agg (aj (M.get D n)),I 0]/\Kp [] st s4):=by
  intro s T hT he hk hg hlt;rw[aQ,hg,bg,ba,Az T hT];have yi:(aj T).length=512:=by simpa using hT
  refine⟨⟨yi,bz _,by rw[mh];exact aga _⟩, ?_⟩;rw[aR (n:=512) (az s st.next (.cells (aj T) 152 false)) yi,ae];exact⟨by rw[he],hk.set _ (.inr (aga _)) hlt⟩
 cases hp:fq M.now n with
 |some T=>
  have he:T=M.get D n:=by unfold bY.get;rw[hp]
  have hT:T.length=512:=by rw[he];exact hs
  have yi:(aj T).length=512:=by simpa using hT
  simp only[ahe,ahF,Option.isSome_some];refine jw yi (bz _) ?_;rw[ah,agl rfl,aR (n:=512) (az (St.new s1 (.cells (zr 512) 152 false)) s1.next (.cells (aj T) 152 false)) yi,ae];exact fin _ T hT he (k1.dA _) (by rw[aq _ _ _ _ (by omega),aU _ _ _ (by omega)];exact g1) (by simp;omega)
 |none=>
  simp only[Option.map_none,Option.getD_none,Option.isSome_none];refine jw mh CM ?_;have k3:=k1.dA (zr 512);have g3:(St.set (St.new s1 (.cells (zr 512) 152 false)) s1.next (.cells (zr 512) 152 false)).mem.get st.next=some (.cells (zr 512) 152 false):=by rw[aq _ _ _ _ (by omega),aU _ _ _ (by omega)];exact g1
  have n3:(St.set (St.new s1 (.cells (zr 512) 152 false)) s1.next (.cells (zr 512) 152 false)).next=s1.next+1:=rfl;generalize St.set (St.new s1 (.cells (zr 512) 152 false)) s1.next (.cells (zr 512) 152 false)=s3 at*;have h3:=h.keep k3 (by simp);have BY:=IsMap.lookup h3.dirty (.agg (zr 512)) true n s3 rfl;rw[agl rfl,rG]at BY;simp only[ah,afY,agn,ae,h3.main,ao,agb,afX,au,BY,ay,aL];cases hq:fq M.dirty n with
  |some T=>
   have he:T=M.get D n:=by unfold bY.get;rw[hp,hq]
   have hT:T.length=512:=by rw[he];exact hs
   have yi:(aj T).length=512:=by simpa using hT
   simp only[ahe,ahF,Option.isSome_some];refine jw yi (bz _) ?_;rw[agl trivial,aR (n:=512) (az (St.new s3 (.cells (zr 512) 152 false)) s3.next (.cells (aj T) 152 false)) yi,ae];exact fin _ T hT he (k3.dA _) (by rw[aq _ _ _ _ (by omega),aU _ _ _ (by omega)];exact g3) (by simp;omega)
  |none=>
   have he:D.cur (M.first+n)=M.get D n:=by unfold bY.get;rw[hp,hq]
   simp only[Option.map_none,Option.getD_none,Option.isSome_none];refine jw mh CM ?_;have k5:=k3.dA (zr 512);have g5:(St.set (St.new s3 (.cells (zr 512) 152 false)) s3.next (.cells (zr 512) 152 false)).mem.get st.next=some (.cells (zr 512) 152 false):=by rw[aq _ _ _ _ (by omega),aU _ _ _ (by omega)];exact g3
   have n5:(St.set (St.new s3 (.cells (zr 512) 152 false)) s3.next (.cells (zr 512) 152 false)).next=s3.next+1:=rfl;generalize St.set (St.new s3 (.cells (zr 512) 152 false)) s3.next (.cells (zr 512) 152 false)=s5 at*;have h5:=h.keep k5 (by simp);have d5:=hd.keep k5 (by simp);have a1:ai .add none false (I M.first) (I n) s5= .ok (I ((M.first+n:Nat):Int)) s5:=by rw[aA,cR,bN (by omega)];rfl
   simp only[afY,agn,bG,ae,h5.main,ao,agb,afX,au,a1];refine(rf d5 ((M.first+n:Nat):Int)).mono ?_;intro x s8 hx
   have er:D.read ((M.first+n:Nat):Int)=(0,D.cur (M.first+n)):=by
    unfold aW.read;rw[agf (by simp[wx]),agf (by omega),aia]
   rw[er,agl rfl]at hx;obtain⟨k8,hl,b,rfl,g8,b1,b2⟩:=hx;have n8:=k8.next;have Eo:mF 512 (.slice b 0 512 512 1) s8= .ok (.ptr b 0) s8:=rfl;have Ev:(aj (D.cur (M.first+n))).length=512:=by simpa using hl
   simp only[ay,aL,ae,aA,eR,agW,agm,ah,afY,agn,Eo,aR g8 Ev];refine⟨⟨trivial,trivial,trivial⟩,trivial, ?_⟩;exact fin s8 _ hl he (k5.trans k8 (by simp)) ((k8.keep _ (by omega) (by simp)).trans g5) (by omega)
end
section
variable {st st':St} {p a:Nat} {lg:CV} {M:bY} {bd bn bi bc:Nat} {F:List Nat} {D:aW}
theorem DA (h:dy st p a lg M bd bn bi bc)(hd:cV st a F D)(wx:D.dead=false){n:Nat}(hu:M.js n)(hn:M.first+n<D.ar.length)(hs:(M.get D n).length=512):
 R 179 [.ptr p 0,I n] st fun v st'=>QL (M.get D n) st v st':=by
 refine bp ?_;rw[RA];simp only[bD,ae,ah,afY,agn];refine(Gf h n).same ?_;simp only[hu,agW,bt,ae,agm,ah,afY,agn];refine(vH h hd wx hn hs).mono ?_;rintro _ s2 ⟨rfl,k2⟩;have yi:(aj (M.get D n)).length=512:=by simpa using hs
 simp only[ay,aL,ae];refine jw yi (bz _) ?_;have k4:=k2.dA (aj (M.get D n));have g4:(St.set (St.new s2 (.cells (zr 512) 152 false)) s2.next (.cells (aj (M.get D n)) 152 false)).mem.get s2.next=some (.cells (aj (M.get D n)) 152 false):=az _ _ _;have n4:(St.set (St.new s2 (.cells (zr 512) 152 false)) s2.next (.cells (aj (M.get D n)) 152 false)).next=s2.next+1:=rfl;generalize St.set (St.new s2 (.cells (zr 512) 152 false)) s2.next (.cells (aj (M.get D n)) 152 false)=s4 at*;have El:bM 512 1 (.ptr s2.next 0) none none s4= .ok (.slice s2.next 0 512 512 0) s4:=rfl;simp only[aA,eR,agW,agm,ae,ah,afY,agn,El];have lO:Sl s4 [] (.slice s2.next 0 512 512 0) 1 (aj (M.get D n)):= .inr ⟨s2.next,0,512,512,0,rfl,by omega,⟨aga _, .inl rfl⟩, .inr ⟨by simp,by omega,_,_,_,g4,by omega,by rw[agC,agk (by omega)]⟩⟩;refine(pF lO (by omega)).mono ?_;rintro x s5 ⟨F',q1,q2,q3,q4⟩;obtain⟨b,n',r1,r2,r3,r4,r5⟩:=q2.row (by omega);have:n'=512:=by omega
 subst this;have hb:=q3 b (by simp[r1]);exact⟨k4.trans q1 (by simp),hs,b,by rw[r3],r5,by have:=k4.next;omega,hb.2⟩
end
section
variable {st st':St} {p a:Nat} {lg:CV} {M:bY} {bd bn bi bc:Nat} {F:List Nat} {D:aW}
theorem LJ (l:List UInt8):l8 l<256^l.length:=by
 have key:∀k (l:List UInt8),l.length=k->l8 l<256^k:=by
  intro k
  induction k with
  |zero=>intro l h;have:=agu.1 h;subst this;simp[l8]
  |succ k ih=>
   intro l h;have iJ:l≠[]:=fun e=>by subst e;simp at h
   have e:=List.dropLast_concat_getLast iJ;have h1:=ih l.dropLast (by simp[h]);have h2:=(l.getLast iJ).toNat_lt;rw[<-e,mV,ahZ];omega
 exact key _ l rfl
theorem qk (l:List UInt8)(h:l.length<=4)(i:Nat):l8 (l.take i)<=4611686018427387904:=by
 have h1:=LJ (l.take i);have h2:(l.take i).length<=4:=by rw[agy];omega
 have h3:256^(l.take i).length<=256^4:=Nat.pow_le_pow_right (by omega) h2;omega
end
section
variable {st st':St} {p a:Nat} {lg:CV} {M:bY} {bd bn bi bc:Nat} {F:List Nat} {D:aW}
def eU (h:Nat):ij:=be 4 h++List.replicate 508 0
theorem yf (h:Nat):(eU h).length=512:=by
 unfold eU;rw[agq,gV,agr]
def bY.drop (M:bY)(n:Nat):bY:={M with m:={M.m with head:=n,free:=M.m.free+1},now:=oR M.now n (eU M.m.head),count:=rB M.count n,idle:=rB M.idle n}
end
section
variable {st st':St} {p a:Nat} {lg:CV} {M:bY} {bd bn bi bc:Nat} {F:List Nat} {D:aW}
theorem kK (hd:cV st a F D):R 49 [.ptr a 0] st fun v st'=>v=I ((D.ar.length/4:Nat):Int)/\st'=st:=by
 refine bp ?_;rw[ZC];refine(qb hd).same ?_;have hsz:=(show D.ar.length<=65536 from by obtain⟨_,_,_,_,_,_,_,h⟩:=hd;exact h.size)
 have e:ai .quo none true (I D.ar.length) (.int .i64 4) st= .ok (I ((D.ar.length/4:Nat):Int)) st:=by
  have e0:ai .quo none true (I D.ar.length) (.int .i64 4) st= .ok (I (IntKind.i64.wrap (Int.tdiv D.ar.length 4))) st:=rfl;have e1:Int.tdiv (D.ar.length:Int) 4=((D.ar.length/4:Nat):Int):=rfl;rw[e0,e1,bN (by omega)]
 rw[e,ae];exact⟨rfl,rfl⟩
def bS (base:Nat):ij:=[98,117,116,116,101,114,121,49]++be 8 base++List.replicate 496 0
theorem lP (base:Nat):(bS base).length=512:=by
 unfold bS;simp only[agq,gV,agr,agT,ahV]
def aW.head (D:aW)(base:Nat):Int×aW:=if (D.write 0 (bS base)).1=0 then (D.write 0 (bS base)).2.flush else D.write 0 (bS base)
theorem AV (hf:dw st)(hd:cV st a F D)(hw:D.waits.length<90000000){base:Nat}(hb:base<9223372036854775808):R 55 [.ptr a 0,I base] st fun v st'=>v=I (D.head base).1/\sY a F st (D.head base).2 st':=by
 refine bp ?_;rw[Zw];have k1:Kp [] st (St.new st (.cells (zr 512) 152 false)):=(Kp.refl [] st).new _;have g1:(St.new st (.cells (zr 512) 152 false)).mem.get st.next=some (.cells (zr 512) 152 false):=aG _ _;have n1:(St.new st (.cells (zr 512) 152 false)).next=st.next+1:=rfl;rw[cn,bj];generalize St.new st (.cells (zr 512) 152 false)=s1 at*;have El:∀s,bM 512 1 (.ptr st.next 0) none none s= .ok (.slice st.next 0 512 512 0) s:=fun s=>rfl
 have Qu:jF true 1 (.slice st.next 0 512 512 0) (.str [98,117,116,116,101,114,121,49]) s1= .ok (I 8) (St.set s1 st.next (.cells (bB (zr 512) 0 (aj [98,117,116,116,101,114,121,49])) 152 false)):=by
  have e:jF true 1 (.slice st.next 0 512 512 0) (.str [98,117,116,116,101,114,121,49]) s1=(match s1.mem.get st.next with
   |some (.cells s ty g)=>Option.rec (Option.rec .bad (fun s'=>ri .i64 ⟨s1.mem.put st.next (some (.cells s' ty g)),s1.next⟩ 8) (yq s 0 (aj [98,117,116,116,101,114,121,49]) (0+512*0))) (fun s'=>ri .i64 ⟨s1.mem.put st.next (some (.cells s' ty g)),s1.next⟩ 8) (dM s 0 (aj [98,117,116,116,101,114,121,49]))
   |_=> .bad):=rfl
  rw[e,g1];have e3:dM (zr 512) 0 (aj [98,117,116,116,101,114,121,49])=some (bB (zr 512) 0 (aj [98,117,116,116,101,114,121,49])):=by unfold dM;rw[agl (by rw[mh];decide)];rfl
  dsimp only;rw[e3];rfl
 have TU:bB (zr 512) 0 (aj [98,117,116,116,101,114,121,49])=aj [98,117,116,116,101,114,121,49]++aj (List.replicate 504 0):=by
  have e:zr 512=aj (List.replicate 8 0)++aj (List.replicate 504 0):=by rw[mi,<-bq,ahN]
  rw[e];rfl
 rw[TU]at Qu;have Tx:∀s,bM 512 1 (.ptr st.next 0) (some (.int .i64 8)) (some (.int .i64 16)) s= .ok (.slice st.next 8 8 504 0) s:=fun s=>rfl;simp only[El,ae,Qu,bj,Tx];have k2:Kp [] st (St.set s1 st.next (.cells (aj [98,117,116,116,101,114,121,49]++aj (List.replicate 504 0)) 152 false)):=k1.set _ (.inr (aga _)) (by omega);have g2:(St.set s1 st.next (.cells (aj [98,117,116,116,101,114,121,49]++aj (List.replicate 504 0)) 152 false)).mem.get st.next=some (.cells (aj [98,117,116,116,101,114,121,49]++aj (List.replicate 504 0)) 152 false):=az _ _ _;have n2:(St.set s1 st.next (.cells (aj [98,117,116,116,101,114,121,49]++aj (List.replicate 504 0)) 152 false)).next=s1.next:=rfl;generalize St.set s1 st.next (.cells (aj [98,117,116,116,101,114,121,49]++aj (List.replicate 504 0)) 152 false)=s2 at*;refine(Dz (n:=base) (len:=8) (off:=8) (cap:=504) g2 (by omega) (by simp) (by omega) hb).mono ?_;rintro _ s3 ⟨k3,n3,g3⟩
 have Hw:bB (aj [98,117,116,116,101,114,121,49]++aj (List.replicate 504 0)) 8 (aj (be 8 base))=aj (bS base):=by
  have e:=pZ (aj [98,117,116,116,101,114,121,49]) (aj (List.replicate 504 0)) (aj (be 8 base));have e2:(aj [98,117,116,116,101,114,121,49]).length=8:=rfl
  have e3:(aj (List.replicate 504 0)).drop (aj (be 8 base)).length=aj (List.replicate 496 0):=by
   unfold aj;rw[<-List.map_drop,ahA,agM,gV]
  rw[e2,e3]at e;rw[e];unfold bS;rw[bq,bq,agv]
 rw[Hw]at g3;have hl:=lP base;have Ev:(aj (bS base)).length=512:=by simpa using hl
 have Mf:=k2.trans k3 (by simp);have lO:Sl s3 F (.slice st.next 0 512 512 0) 1 (aj (bS base)):= .inr ⟨st.next,0,512,512,0,rfl,by omega,⟨aga _, .inl rfl⟩, .inr ⟨fun h=>by have:=hd.lt _ h;omega,by omega,_,_,_,g3,by omega,by rw[agC,agk (by omega)]⟩⟩;refine(rv (i:=0) (hd.keep Mf (by simp)) (Mf.fresh hf) (by omega) lO hl).mono ?_;rintro _ s4 ⟨rfl,k4,F',d4,oz⟩;have Ln:∀b∈F',b∈F\/st.next<=b:=fun b hb=>(oz b hb).imp id fun h=>by have:=Mf.next;omega
 unfold aW.head
 by_cases hz:(D.write 0 (bS base)).1=0
 ·rw[agl hz];obtain⟨z1,z2,z3⟩:=yW hz;simp only[hz,aA,eR,agW,agm,ae,ah,afY,agn];refine(sF d4 (by rw[z2];simp;omega)).mono ?_;rintro _ s5 ⟨rfl,k5,F2,d5,py⟩;exact⟨rfl,((Mf.mono (fun q hq=>by simp at hq)).trans k4 (fun q hq=> .inl hq)).trans k5 Ln,F2,d5,fun b hb=>(py b hb).elim (Ln b) fun h=> .inr (by have:=Mf.next;have:=k4.next;omega)⟩
 ·rw[agf hz];simp only[aA,eR,hz,ahP,agj,ae,ah,ags];exact⟨trivial,(Mf.mono (fun q hq=>by simp at hq)).trans k4 (fun q hq=> .inl hq),F',d4,Ln⟩
end
section
variable {st st':St} {p a:Nat} {lg:CV} {M:bY} {bd bn bi bc:Nat} {F:List Nat} {D:aW}
def dX:gE:=⟨0,0,0,0⟩
def cT (n:Nat):bY:=⟨1+n/4,n-1-n/4,[],[],dX,dX,[],[]⟩
theorem AE (hd:cV st a F D)(hn:4<=D.ar.length):R 48 [.ptr a 0] st fun v st'=>Kp [] st st'/\∃p bd bn bi bc,v= .ptr p 0/\dy st' p a .aC (cT D.ar.length) bd bn bi bc/\∀b∈[p,bd,bn,bi,bc],st.next<=b:=by
 refine bp ?_;rw[ZD];refine(kK hd).same ?_;have hsz:=(show D.ar.length<=65536 from by obtain⟨_,_,_,_,_,_,_,h⟩:=hd;exact h.size);generalize hN:D.ar.length=N at*;have e1:ai .add none true (.int .i64 1) (I ((N/4:Nat):Int)) st= .ok (I ((1+N/4:Nat):Int)) st:=by rw[aA,cR,bN (by omega)];congr 2
 rw[e1,ae];refine(qb hd).same ?_;rw[hN];have e2:ai .sub none true (I N) (.int .i64 1) st= .ok (I ((N-1:Nat):Int)) st:=by rw[aA,fF,bN (by omega)];congr 2;omega
 have e3:ai .sub none false (I ((N-1:Nat):Int)) (I ((N/4:Nat):Int)) st= .ok (I ((N-1-N/4:Nat):Int)) st:=by rw[aA,fF,bN (by omega)];congr 2;omega
 simp only[e2,e3,ae,ft,bj]
 have kx:∀s:St,bf [.aC, .aC, .int .i64 0, .int .i64 0, .cD, .cD, .int .i64 0, .int .i64 0, .int .i64 0, .int .i64 0, .int .i64 0, .int .i64 0, .int .i64 0, .int .i64 0, .cD, .cD] [(0,1, .ptr a 0),(2,1,I ((1+N/4:Nat):Int)),(3,1,I ((N-1-N/4:Nat):Int)),(4,1, .map st.next),(5,1, .map (st.next+1)),(14,1, .map (st.next+2)),(15,1, .map (st.next+3))] s= .ok (.agg [.ptr a 0, .aC,I ((1+N/4:Nat):Int),I ((N-1-N/4:Nat):Int), .map st.next, .map (st.next+1), .int .i64 0, .int .i64 0, .int .i64 0, .int .i64 0, .int .i64 0, .int .i64 0, .int .i64 0, .int .i64 0, .map (st.next+2), .map (st.next+3)]) s:=by
  intro s;rw[eF];have:eZ [(0,1,CV.ptr a 0),(2,1,I ((1+N/4:Nat):Int)),(3,1,I ((N-1-N/4:Nat):Int)),(4,1, .map st.next),(5,1, .map (st.next+1)),(14,1, .map (st.next+2)),(15,1, .map (st.next+3))] [.aC, .aC, .int .i64 0, .int .i64 0, .cD, .cD, .int .i64 0, .int .i64 0, .int .i64 0, .int .i64 0, .int .i64 0, .int .i64 0, .int .i64 0, .int .i64 0, .cD, .cD]=some [.ptr a 0, .aC,I ((1+N/4:Nat):Int),I ((N-1-N/4:Nat):Int), .map st.next, .map (st.next+1), .int .i64 0, .int .i64 0, .int .i64 0, .int .i64 0, .int .i64 0, .int .i64 0, .int .i64 0, .int .i64 0, .map (st.next+2), .map (st.next+3)]:=rfl;rw[this]
 have x1:(St.new st (.map [] 0)).next=st.next+1:=rfl;have x2:(St.new (St.new st (.map [] 0)) (.map [] 0)).next=st.next+2:=rfl;have x3:(St.new (St.new (St.new st (.map [] 0)) (.map [] 0)) (.map [] 0)).next=st.next+3:=rfl;rw[x1,x2,x3,kx,ae,br];have k4:Kp [] st (St.new (St.new (St.new (St.new st (.map [] 0)) (.map [] 0)) (.map [] 0)) (.map [] 0)):=((((Kp.refl [] st).new _).new _).new _).new _;refine⟨rfl,k4.new _,st.next+4,st.next,st.next+1,st.next+2,st.next+3,rfl,⟨aG (St.new (St.new (St.new (St.new st (.map [] 0)) (.map [] 0)) (.map [] 0)) (.map [] 0)) _, .inl ((dH.new st).mono ?_),(dH.new (St.new st (.map [] 0))).mono ?_,(dH.new (St.new (St.new st (.map [] 0)) (.map [] 0))).mono ?_,(dH.new (St.new (St.new (St.new st (.map [] 0)) (.map [] 0)) (.map [] 0))).mono ?_,by simp,(by intro b hb;simp at hb;simp;omega),⟨rfl,rfl,rfl⟩⟩,(by intro b hb;simp at hb;omega)⟩
 ·rw[aU _ _ _ (by first|(simp;done)|(simp;omega)),aU _ _ _ (by first|(simp;done)|(simp;omega)),aU _ _ _ (by first|(simp;done)|(simp;omega)),aU _ _ _ (by simp)]
 ·show(St.new _ _).mem.get (st.next+1)=_;rw[aU _ _ _ (by first|(simp;done)|(simp;omega)),aU _ _ _ (by first|(simp;done)|(simp;omega)),aU _ _ _ (by simp)];rfl
 ·show(St.new _ _).mem.get (st.next+2)=_;rw[aU _ _ _ (by first|(simp;done)|(simp;omega)),aU _ _ _ (by simp)];rfl
 ·show(St.new _ _).mem.get (st.next+3)=_;rw[aU _ _ _ (by simp)];rfl
end
section
variable {st st':St}
def GS (s:ij):gE:=⟨l8 (s.take 4),l8 ((s.drop 4).take 4),l8 ((s.drop 8).take 4),l8 ((s.drop 12).take 4)⟩
theorem vW {b i:Nat}{s:ij}{t:TypeId}{g:Bool}(hb:st.mem.get b=some (.cells (aj s) t g))(hbn:b<st.next)(hs:s.length=512)(hi:i<4):R 144 [I i, .ptr b 0] st fun v st'=>v=I (l8 ((s.drop (4*i)).take 4))/\st'=st:=by
 refine bp ?_;rw[RP];have e1:ai .mul none true (.int .i64 4) (I i) st= .ok (I ((4*i:Nat):Int)) st:=by rw[aA,jE,bN (by omega)];rfl
 have e2:ai .add none true (I ((4*i:Nat):Int)) (.int .i64 4) st= .ok (I ((4*i+4:Nat):Int)) st:=by rw[aA,cR,bN (by omega)];rfl
 have e3:=lE (n:=512) (b:=b) (l:=4*i) (h:=4*i+4) (by omega) (by omega) (by omega) st;rw[ahk]at e3;simp only[e1,e2,ae,e3];have hl:(aj s).length=512:=by simpa using hs
 have wR:aj ((s.drop (4*i)).take 4)=((aj s).drop (4*i)).take 4:=by simp[aj]
 have Ux:((s.drop (4*i)).take 4).length=4:=by rw[agy,ahd];omega
 have lO:Sl st [] (.slice b (4*i) 4 (512-4*i) 0) 1 (aj ((s.drop (4*i)).take 4)):= .inr ⟨b,4*i,4,512-4*i,0,rfl,by rw[bJ,Ux],⟨by omega, .inl rfl⟩, .inr ⟨by simp,hbn,_,_,_,hb,by omega,by rw[wR]⟩⟩;exact p6 lO (by omega) (qk _ (by omega))
theorem Ns {s:ij}(hs:s.length=512):R 103 [.agg (aj s)] st fun v st'=>v= .agg [I (GS s).root,I (GS s).used,I (GS s).head,I (GS s).free]/\Kp [] st st':=by
 refine bp ?_;rw[Se];have Lg:(CV.agg (aj s)).isAny=false:=rfl;rw[br,ba];refine⟨Lg, ?_⟩;have k2:Kp [] st (St.new (St.new st (.cells (aj s) 152 false)) (.cells [.int .i64 0, .int .i64 0, .int .i64 0, .int .i64 0] 145 false)):=((Kp.refl [] st).new _).new _
 have g1:(St.new (St.new st (.cells (aj s) 152 false)) (.cells [.int .i64 0, .int .i64 0, .int .i64 0, .int .i64 0] 145 false)).mem.get st.next=some (.cells (aj s) 152 false):=by
  rw[aU _ _ _ (by simp)];exact aG _ _
 have g2:(St.new (St.new st (.cells (aj s) 152 false)) (.cells [.int .i64 0, .int .i64 0, .int .i64 0, .int .i64 0] 145 false)).mem.get (st.next+1)=some (.cells [.int .i64 0, .int .i64 0, .int .i64 0, .int .i64 0] 145 false):=aG (St.new st (.cells (aj s) 152 false)) _;have n2:(St.new (St.new st (.cells (aj s) 152 false)) (.cells [.int .i64 0, .int .i64 0, .int .i64 0, .int .i64 0] 145 false)).next=st.next+2:=rfl;have x1:(St.new st (.cells (aj s) 152 false)).next=st.next+1:=rfl;rw[cn,bj,x1];generalize St.new (St.new st (.cells (aj s) 152 false)) (.cells [.int .i64 0, .int .i64 0, .int .i64 0, .int .i64 0] 145 false)=s2 at*;rw[oX,ae];have hlt:st.next<s2.next:=by omega
 rw[dR];refine(vW (i:=0) g1 hlt hs (by omega)).same ?_;rw[dR];refine(vW (i:=1) g1 hlt hs (by omega)).same ?_;rw[dR];refine(vW (i:=2) g1 hlt hs (by omega)).same ?_;rw[dR];refine(vW (i:=3) g1 hlt hs (by omega)).same ?_
 have kx:∀a b c d:CV,a.bL=[a]->b.bL=[b]->c.bL=[c]->d.bL=[d]->a.isAny=false->b.isAny=false->c.isAny=false->d.isAny=false->bf [.int .i64 0, .int .i64 0, .int .i64 0, .int .i64 0] [(0,1,a),(1,1,b),(2,1,c),(3,1,d)] s2= .ok (.agg [a,b,c,d]) s2:=by
  intro a b c d h1 h2 h3 h4 h5 h6 h7 h8;rw[eF];simp[dG,bB,h1,h2,h3,h4,h5,h6,h7,h8]
 rw[kx _ _ _ _ rfl rfl rfl rfl rfl rfl rfl rfl,ae,aQ,g2,bg,ba];refine⟨⟨rfl,rfl,by simp⟩, ?_⟩;have nj:∀a b c d:CV,bB [.int .i64 0, .int .i64 0, .int .i64 0, .int .i64 0] 0 [a,b,c,d]=[a,b,c,d]:=fun a b c d=>rfl;rw[nj,aR (n:=4) (az s2 (st.next+1) _) rfl,ae];refine⟨?_,k2.set _ (.inr (by omega)) (by omega)⟩;simp[GS]
end
section
variable {st st':St}
def jn (m:gE):List Nat:=[m.root,m.used,m.head,m.free]
def mN (l:List Nat):List UInt8:=(l.map (be 4)).flatten
theorem uG (l:List Nat):(mN l).length=l.length*4:=by
 unfold mN;rw[fh (w:=4) (by intro x hx;obtain⟨n,_,rfl⟩:=agJ.1 hx;exact gV 4 n),agM]
def bZ (m:gE):ij:=mN (jn m)++List.replicate 496 0
theorem im (m:gE):(bZ m).length=512:=by
 unfold bZ;rw[agq,uG,agr];rfl
theorem Hb {m:gE}(hb:∀n∈jn m,n<9223372036854775808):R 53 [.agg [I m.root,I m.used,I m.head,I m.free]] st fun v st'=>v= .agg (aj (bZ m))/\Kp [] st st':=by
 refine bp ?_;rw[Zy];rw[br,ba];refine⟨rfl, ?_⟩;rw[cn,bj,cn,bj];have k3:Kp [] st (St.new (St.new (St.new st (.cells [I m.root,I m.used,I m.head,I m.free] 145 false)) (.cells (zr 512) 152 false)) (.cells (zr 512) 152 false)):=(((Kp.refl [] st).new _).new _).new _;have y1:(St.new st (.cells [I m.root,I m.used,I m.head,I m.free] 145 false)).next=st.next+1:=rfl;have y2:(St.new (St.new st (.cells [I m.root,I m.used,I m.head,I m.free] 145 false)) (.cells (zr 512) 152 false)).next=st.next+2:=rfl
 have g1:(St.new (St.new (St.new st (.cells [I m.root,I m.used,I m.head,I m.free] 145 false)) (.cells (zr 512) 152 false)) (.cells (zr 512) 152 false)).mem.get st.next=some (.cells [I m.root,I m.used,I m.head,I m.free] 145 false):=by
  rw[aU _ _ _ (by omega),aU _ _ _ (by omega)];exact aG _ _
 have g2:(St.new (St.new (St.new st (.cells [I m.root,I m.used,I m.head,I m.free] 145 false)) (.cells (zr 512) 152 false)) (.cells (zr 512) 152 false)).mem.get (st.next+1)=some (.cells (zr 512) 152 false):=by
  rw[aU _ _ _ (by omega)];exact aG (St.new st (.cells [I m.root,I m.used,I m.head,I m.free] 145 false)) _
 have g3:(St.new (St.new (St.new st (.cells [I m.root,I m.used,I m.head,I m.free] 145 false)) (.cells (zr 512) 152 false)) (.cells (zr 512) 152 false)).mem.get (st.next+2)=some (.cells (zr 512) 152 false):=
  aG (St.new (St.new st (.cells [I m.root,I m.used,I m.head,I m.free] 145 false)) (.cells (zr 512) 152 false)) _
 have n3:(St.new (St.new (St.new st (.cells [I m.root,I m.used,I m.head,I m.free] 145 false)) (.cells (zr 512) 152 false)) (.cells (zr 512) 152 false)).next=st.next+3:=rfl;rw[y1,y2];generalize St.new (St.new (St.new st (.cells [I m.root,I m.used,I m.head,I m.free] 145 false)) (.cells (zr 512) 152 false)) (.cells (zr 512) 152 false)=s3 at*;have Mx:bI 3 4 (cM 4 [(.int .i64 0)]) [(0,1,I m.root),(1,1,I m.used),(2,1,I m.head),(3,1,I m.free)] s3= .ok (.slice s3.next 0 4 4 0) (St.new s3 (.cells [I m.root,I m.used,I m.head,I m.free] 3 false)):=rfl;simp only[bP,fl,af,ae,av,g1,ao,afZ,agb,afX,au,Mx,bj,dE,aI,aJ];have k4:Kp [] st (St.new s3 (.cells [I m.root,I m.used,I m.head,I m.free] 3 false)):=k3.new _;have h2:(St.new s3 (.cells [I m.root,I m.used,I m.head,I m.free] 3 false)).mem.get (st.next+1)=some (.cells (zr 512) 152 false):=by rw[aU _ _ _ (by omega)];exact g2
 have h3:(St.new s3 (.cells [I m.root,I m.used,I m.head,I m.free] 3 false)).mem.get (st.next+2)=some (.cells (aj (List.replicate 512 0)) 152 false):=by rw[aU _ _ _ (by omega),<-mi];exact g3
 have h4:(St.new s3 (.cells [I m.root,I m.used,I m.head,I m.free] 3 false)).mem.get s3.next=some (.cells [I m.root,I m.used,I m.head,I m.free] 3 false):=aG _ _;have n4:(St.new s3 (.cells [I m.root,I m.used,I m.head,I m.free] 3 false)).next=st.next+4:=by rw[pf,n3]
 rw[n3]at h4⊢
 refine bA (fun fu vs s=>∃i,fu+i=4/\vs=[.ptr (st.next+1) 0, .ptr (st.next+2) 0, .slice (st.next+3) 0 4 4 0, .int .i64 4,I i]/\Kp [] st s/\s.next=st.next+4/\s.mem.get (st.next+1)=some (.cells (zr 512) 152 false)/\
  s.mem.get (st.next+2)=some (.cells (aj (mN ((jn m).take i)++List.replicate (512-4*i) 0)) 152 false)/\s.mem.get (st.next+3)=some (.cells [I m.root,I m.used,I m.head,I m.free] 3 false)) ?_ (n:=4) ⟨0,rfl,rfl,k4,n4,h2,h3,h4⟩
 rintro fu vs s k ⟨i,hi,rfl,hk,hn,q1,q2,q3⟩ next;simp only[aI,aJ]
 by_cases hc:i<4
 ·have hL:(jn m).length=4:=rfl
  have hg:∀h,([I m.root,I m.used,I m.head,I m.free]:List CV)[i]'h=I ((jn m)[i]'(by omega)):=by
   intro h
   match i,hc with
   |0,_=>rfl
   |1,_=>rfl
   |2,_=>rfl
   |3,_=>rfl
  have a1:ai .lss none false (I i) (.int .i64 4) s= .ok (.bool true) s:=by rw[aA,bK,agi (by omega)]
  have a2:ai .mul none true (.int .i64 4) (I i) s= .ok (I ((4*i:Nat):Int)) s:=by rw[aA,jE,bN (by omega)];rfl
  have a3:ai .add none true (I ((4*i:Nat):Int)) (.int .i64 4) s= .ok (I ((4*i+4:Nat):Int)) s:=by rw[aA,cR,bN (by omega)];rfl
  have a4:=lE (n:=512) (b:=st.next+2) (l:=4*i) (h:=4*i+4) (by omega) (by omega) (by omega) s;rw[ahk]at a4;have lO:Sl s [] (.slice (st.next+3) 0 4 4 0) 1 [I m.root,I m.used,I m.head,I m.free]:= .inr ⟨st.next+3,0,4,4,0,rfl,rfl,⟨aga _, .inl rfl⟩, .inr ⟨by simp,by omega,_,_,_,q3,by simp,rfl⟩⟩;rw[a1,ae,ah,agl rfl];refine lO.idx (i:=i) (by simpa using hc) _ ?_;rw[hg,a2,ae,ae,a3,ae,a4,ae];have hP:(mN ((jn m).take i)).length=4*i:=by rw[uG,agy,hL];omega
  refine(Dz (n:=(jn m)[i]) (len:=4) (off:=4*i) (cap:=512-4*i) q2 (by omega) (by simp[hP];omega) (by omega) (hb _ (agx ..))).mono ?_;rintro _ s6 ⟨k6,n6,g6⟩;have a5:ai .add none true (I i) (.int .i64 1) s6= .ok (I ((i+1:Nat):Int)) s6:=by rw[aA,cR,bN (by omega)];rfl
  rw[a5,ae];refine next (fu-1) _ _ (by omega) ⟨i+1,by omega,rfl,hk.trans k6 (by simp),by omega,(k6.keep _ (by omega) (by simp)).trans q1, ?_,(k6.keep _ (by omega) (by simp)).trans q3⟩;rw[g6]
  congr 2
  have e:=pZ (aj (mN ((jn m).take i))) (aj (List.replicate (512-4*i) 0)) (aj (be 4 (jn m)[i]));rw[bJ,hP]at e;rw[bq,e]
  have e2:(aj (List.replicate (512-4*i) 0)).drop (aj (be 4 (jn m)[i])).length=aj (List.replicate (512-4*(i+1)) 0):=by
   unfold aj;rw[<-List.map_drop,ahA,agM,gV];congr 2
  have e3:mN ((jn m).take (i+1))=mN ((jn m).take i)++be 4 (jn m)[i]:=by
   rw[agI (by omega)];unfold mN;rw[ahp,List.flatten_append];simp only[agH,List.map_nil,ahr,List.flatten_nil,ahc]
   try rfl
  rw[e2,e3,bq,bq,agv]
 ·have h4i:i=4:=by omega
  subst h4i;have a1:ai .lss none false (I ((4:Nat):Int)) (.int .i64 4) s= .ok (.bool false) s:=rfl;have IM:aj (mN ((jn m).take 4)++List.replicate (512-4*4) 0)=aj (bZ m):=rfl;rw[IM]at q2;have hl:(aj (bZ m)).length=512:=by simpa using im m
  rw[a1,ae,ah,agf (by decide),aR q2 hl,ae,aQ,q1,bg,ba,Az _ (im m)];refine⟨⟨hl,bz _,by rw[mh];exact aga _⟩, ?_⟩;rw[aR (n:=512) (az s (st.next+1) _) hl,ae];exact⟨rfl,hk.set _ (.inr (by omega)) (by omega)⟩
end
theorem ZU (C:aN)(b:CV)(st:St)(Q:CV->St->Prop):aH P0 C (lvs 28) 28 [b] st Q=(us (ai .eql (some .ptr) true b .aC st) fun D=>aD D (Q (.tuple [.aC,(I 2)]) st) (C 47 [b] st fun E j=>us (ai .lss (none) true E (I 64) j) fun F=>aD F (Q (.tuple [.aC,(I 1)]) j) (C 48 [b] j fun G H=>cN (fun h J=>cf (fun a f p=>us (ai .lss (none) false (ak 3 a) (ak 2 a) f) fun K=>aD K (us (ai .add (none) true (I 1) (ak 3 a) f) fun L=>C 50 [(ak 0 a),L] f fun q c=>us (aB q 0 c) fun k=>us (aB q 1 c) fun r=>us (ai .neq (some .int) true r (I 0) c) fun M=>aD M (Q (.tuple [.aC,r]) c) (us (bO .slice k c) fun s=>upon (jD 5 1 [(.int .u8 0)] s s c) fun N O=>C 51 [k,N] O fun P d=>us (fA .not P d) fun S=>aD S (us (ai .add (none) true (I 1) (ak 3 a) d) fun T=>us (bO .slice k d) fun t=>upon (jD 5 1 [(.int .u8 0)] t t d) fun U V=>C 52 [(ak 0 a),T,U] V fun u i=>us (ai .neq (some .int) true u (I 0) i) fun W=>aD W (Q (.tuple [.aC,u]) i) (us (ai .add (none) true (ak 3 a) (I 1) i) fun X=>p [(ak 0 a),(ak 1 a),(ak 2 a),X] i)) (us (ai .add (none) true (ak 3 a) (I 1) d) fun Y=>p [(ak 0 a),(ak 1 a),(ak 2 a),Y] d))) (us (bf [(I 0),(I 0),(I 0),(I 0)] [(1,1,(I 1))] f) fun Z=>kh 4 6 (ak 1 a) Z f fun v=>tX 4 6 (ak 1 a) v fun a0=>kh 4 10 (ak 1 a) a0 v fun w=>tX 4 6 (ak 1 a) w fun a1=>C 53 [a1] w fun a2 a3=>upon (dd 152 (zr 512) a3) fun x a4=>upon (aT 512 x a2 a4) fun _ g=>cd (us (cz (ak 1 a) g) fun a5=>us (al 2 a5 g) fun a6=>us (aw a6 g) fun a7=>us (bM 512 1 x none none g) fun a8=>C 52 [(ak 0 a),a7,a8] g fun y l=>
 ((True)/\True)/\(True)/\us (ai .neq (some .int) true y (I 0) l) fun a9=>aD a9 (Q (.tuple [.aC,y]) l) (C 54 [(ak 0 a)] l fun z m=>us (ai .neq (some .int) true z (I 0) m) fun b0=>aD b0 (Q (.tuple [.aC,z]) m) (C 55 [(ak 0 a),(I 0)] m fun A n=>us (ai .neq (some .int) true A (I 0) n) fun b1=>aD b1 (Q (.tuple [.aC,A]) n) (C 49 [(ak 0 a)] n fun b2 b3=>C 56 [(ak 0 a),(I 1),b2,(I 0)] b3 fun o e=>us (aB o 0 e) fun b4=>us (aB o 1 e) fun c0=>us (aB o 2 e) fun B=>us (ai .neq (some .int) true B (I 0) e) fun b5=>aD b5 (Q (.tuple [.aC,B]) e) (kh 1 1 (ak 1 a) b4 e fun b6=>Q (.tuple [(ak 1 a),(I 0)]) b6))))))) [(ak 0 h),(ak 1 h),(ak 2 h),(ak 3 h)] J) fun b7=>C 49 [b] H fun b8 b9=>b7 [b,G,b8,(I 0)] b9))):=by kernel_rfl
theorem Zs (C:aN)(m j:CV)(st:St)(Q:CV->St->Prop):aH P0 C (lvs 59) 59 [m,j] st Q=(cN (fun f p=>cf (fun b g q=>us (ai .lss (none) false (ak 3 b) (ak 2 b) g) fun r=>aD r (idx 1 (ak 1 b) (ak 3 b) g fun s=>cN (fun d t=>cf (fun a u v=>C 99 [(ak 1 a)] u fun h i=>us (aS (ag true h) i (.ok (ak 1 a) i)) fun w=>cb (ag true h) i (fun k=>C 68 [w] i k) fun x c=>us (aS (ag true h) c (fA .not x c)) fun y=>us (aK h y (.bool false) c) fun z=>aD z (eN 3 (ak 0 a) c fun A=>us (ai .sub (none) true A (I 1) c) fun B=>C 65 [(ak 1 a),B] c fun D E=>C 67 [(ak 1 a),(I 512)] E fun F G=>C 99 [(ak 1 a)] G fun H l=>us (fA .not H l) fun J=>aD J (Q (.bool false) l) (upon (dd 152 (zr 512) l) fun n o=>us (bM 512 1 n none none o) fun K=>upon (jF true 1 K F o) fun Y e=>cd (us (cz (ak 0 a) e) fun L=>us (al 4 L e) fun M=>us (aw M e) fun N=>us (aP 512 n e) fun O=>upon (ef .int N D O e) fun Z P=>((True)/\(True)/\True)/\(True)/\v [(ak 0 a),(ak 1 a),(ak 2 a),(ak 3 a),(ak 4 a)] P))) (us (ai .add (none) true (ak 4 a) (I 1) c) fun S=>q [(ak 0 a),(ak 2 a),(ak 3 a),S] c)) [(ak 0 d),(ak 1 d),(ak 2 d),(ak 3 d),(ak 4 d)] t) fun T=>C 64 [s] g fun U V=>T [(ak 0 b),U,(ak 1 b),(ak 2 b),(ak 3 b)] V) (Q (.bool true) g)) [(ak 0 f),(ak 1 f),(ak 2 f),(ak 3 f)] p) fun W=>us (bO .slice j st) fun X=>W [m,j,X,(I 0)] st):=by kernel_rfl
theorem ZT (C:aN)(d:CV)(st:St)(Q:CV->St->Prop):aH P0 C (lvs 30) 30 [d] st Q=(us (ai .eql (some .ptr) true d .aC st) fun w=>aD w (Q (.tuple [.aC,(I 2)]) st) (C 50 [d,(I 0)] st fun q e=>us (aB q 0 e) fun m=>us (aB q 1 e) fun r=>us (ai .neq (some .int) true r (I 0) e) fun x=>aD x (Q (.tuple [.aC,r]) e) (C 47 [d] e fun y a=>us (ai .lss (none) true y (I 64) a) fun f=>us (aS (ag false f) a (.ok m a)) fun z=>us (aS (ag false f) a (cc 1 z none (some (I 8)) a)) fun A=>us (aS (ag false f) a (bQ .strOf A a)) fun B=>us (aS (ag false f) a (ai .neq (some .str) true B (.str [98,117,116,116,101,114,121,49]) a)) fun D=>us (aK f (.bool true) D a) fun j=>us (aS (ag false j) a (.ok m a)) fun E=>sm (ag false j) 1 E (I 8) a fun F=>us (aS (ag false j) a (ai .gtr (none) true F (.int .u8 127) a)) fun G=>us (aK j (.bool true) G a) fun H=>aD H (Q (.tuple [.aC,(I 4)]) a) (C 48 [d] a fun g J=>cd (C 49 [d] J fun K s=>us (cc 1 m (some (I 8)) (some (I 16)) s) fun L=>C 58 [L] s fun M N=>C 56 [d,(I 1),K,M] N fun n b=>us (aB n 0 b) fun t=>us (aB n 1 b) fun O=>us (aB n 2 b) fun l=>(True)/\(True)/\us (ai .eql (some .int) true l (I 1) b) fun h=>us (aS (ag false h) b (.ok l b)) fun P=>us (aS (ag false h) b (ai .eql (some .int) true P (I 0) b)) fun S=>us (aS (ag false h) b (.ok S b)) fun i=>us (aS (ag true i) b (.ok g b)) fun T=>us (aS (ag true i) b (.ok O b)) fun U=>cb (ag true i) b (fun k=>C 59 [T,U] b k) fun V c=>us (aS (ag true i) c (fA .not V c)) fun W=>us (aS (ag false h) c (aK i W (.bool false) c)) fun X=>
 us (aK h (.bool true) X c) fun Y=>aD Y (Q (.tuple [.aC,(I 4)]) c) (us (ai .neq (some .int) true l (I 0) c) fun Z=>aD Z (Q (.tuple [.aC,l]) c) (kh 1 1 g t c fun a0=>C 61 [t] a0 fun a1 a2=>C 60 [g,a1] a2 fun u o=>us (ai .neq (some .int) true u (I 0) o) fun a3=>aD a3 (Q (.tuple [.aC,u]) o) (C 62 [g] o fun v p=>us (ai .neq (some .int) true v (I 0) p) fun a4=>aD a4 (Q (.tuple [.aC,v]) p) (Q (.tuple [g,(I 0)]) p))))))))):=by kernel_rfl
theorem Zr (C:aN)(i k:CV)(st:St)(Q:CV->St->Prop):aH P0 C (lvs 60) 60 [i,k] st Q=(cN (fun f x=>cf (fun a d y=>us (ai .lss (none) false (ak 4 a) (ak 3 a) d) fun z=>aD z (idx 1 (ak 2 a) (ak 4 a) d fun l=>eN 4 (ak 0 a) d fun A=>us (fO .int (.agg (zr 512)) false A l d) fun B=>upon (dd 152 (zr 512) d) fun m D=>upon (aT 512 m B D) fun _ b=>cd (us (cz (ak 0 a) b) fun E=>us (al 0 E b) fun F=>us (aw F b) fun G=>us (cz (ak 0 a) b) fun H=>us (al 2 H b) fun J=>us (aw J b) fun K=>us (ai .add (none) false K l b) fun L=>us (bM 512 1 m none none b) fun M=>C 52 [G,L,M] b fun n g=>((True)/\(True)/\True)/\(True)/\us (ai .neq (some .int) true n (I 0) g) fun N=>aD N (Q n g) (us (ai .add (none) true (ak 4 a) (I 1) g) fun O=>y [(ak 0 a),(ak 1 a),(ak 2 a),(ak 3 a),O] g))) (eN 0 (ak 0 a) d fun P=>C 54 [P] d fun o h=>us (ai .neq (some .int) true o (I 0) h) fun S=>aD S (Q o h) (eN 0 (ak 0 a) h fun T=>C 55 [T,(ak 1 a)] h fun p c=>us (ai .neq (some .int) true p (I 0) c) fun U=>aD U (Q p c) (cd (us (cz (ak 0 a) c) fun V=>us (al 0 V c) fun q=>us (aw q c) fun r=>us (cz (ak 0 a) c) fun W=>us (al 0 W c) fun X=>us (aw X c) fun Y=>C 49 [Y] c fun Z s=>C 56 [r,(I 1),Z,(ak 1 a)] s fun j e=>us (aB j 0 e) fun a0=>us (aB j 1 e) fun b1=>us (aB j 2 e) fun t=>(((us (aw q s) fun v=>v=r)/\True)/\(True)/\True)/\(True)/\us (ai .neq (some .int) true t (I 0) e) fun a1=>aD a1 (Q t e) (upon (fU none e) fun a2 a3=>kh 1 1 (ak 0 a) a0 a3 fun a4=>kh 1 4 (ak 0 a) a2 a4 fun a5=>
 Q (I 0) a5)))))) [(ak 0 f),(ak 1 f),(ak 2 f),(ak 3 f),(ak 4 f)] x) fun a6=>eN 4 i st fun a7=>C 101 [a7] st fun a8 a9=>C 100 [a8] a9 fun u w=>us (bO .slice u w) fun b0=>a6 [i,k,u,b0,(I 0)] w):=by kernel_rfl
theorem Zp (C:aN)(b:CV)(st:St)(Q:CV->St->Prop):aH P0 C (lvs 62) 62 [b] st Q=(us (ai .eql (some .ptr) true b .aC st) fun s=>aD s (Q (I 2) st) (upon (fU none st) fun t u=>upon (fU none u) fun v w=>upon (fU none w) fun x y=>kh 1 5 b t y fun z=>kh 1 15 b v z fun A=>kh 1 14 b x A fun B=>C 102 [b,(I 0)] B fun j h=>us (aB j 0 h) fun D=>us (aB j 1 h) fun k=>upon (dd 152 (zr 512) h) fun l E=>upon (aT 512 l D E) fun _ f=>us (ai .neq (some .int) true k (I 0) f) fun F=>aD F (Q k f) (us (aP 512 l f) fun G=>C 103 [G] f fun H J=>kh 4 10 b H J fun m=>tX 4 10 b m fun K=>kh 4 6 b K m fun n=>cN (fun o L=>cf (fun c a M=>us (ai .neq (some .int) true (ak 1 c) (I 0) a) fun N=>aD N (us (ai .lss (none) true (ak 1 c) (I 0) a) fun d=>us (aS (ag false d) a (.ok (ak 1 c) a)) fun O=>us (aS (ag false d) a (.ok (ak 0 c) a)) fun P=>fB (ag false d) 3 P a fun S=>us (aS (ag false d) a (ai .geq (none) false O S a)) fun T=>us (aK d (.bool true) T a) fun e=>us (aS (ag false e) a (.ok (ak 0 c) a)) fun U=>fB (ag false e) 14 U a fun V=>us (aS (ag false e) a (.ok (ak 1 c) a)) fun W=>us (aS (ag false e) a (fO .int (.bool false) false V W a)) fun X=>us (aK e (.bool true) X a) fun Y=>aD Y (Q (I 0) a) (eN 14 (ak 0 c) a fun Z=>upon (ef .int Z (ak 1 c) (.bool true) a) fun _ a0=>C 102 [(ak 0 c),(ak 1 c)] a0 fun p i=>us (aB p 0 i) fun a1=>us (aB p 1 i) fun q=>upon (dd 152 (zr 512) i) fun r a2=>upon (aT 512 r a1 a2) fun _ g=>us (ai .neq (some .int) true q (I 0) g) fun a3=>aD a3 (Q q g) (
 us (bM 512 1 r none (some (I 4)) g) fun a4=>C 58 [a4] g fun a5 a6=>M [(ak 0 c),a5] a6))) (Q (I 0) a)) [(ak 0 o),(ak 1 o)] L) fun a7=>yn 10 2 b n fun a8=>a7 [b,a8] n))):=by kernel_rfl
theorem ZA (C:aN)(a b:CV)(st:St)(Q:CV->St->Prop):aH P0 C (lvs 51) 51 [a,b] st Q=(us (bQ .strOf a st) fun c=>us (bQ .strOf b st) fun d=>us (ai .eql (some .str) false c d st) fun e=>Q e st):=by kernel_rfl
section
variable {st st':St}
theorem E0 {X Y:List Nat}{v w:CV}{a b:List UInt8}(h1:Sl st X v 1 (aj a))(h2:Sl st Y w 1 (aj b)):R 51 [v,w] st fun x st'=>x= .bool (a==b)/\st'=st:=by
 refine bp ?_;rw[ZA];have e:ai .eql (some .str) false (.str a) (.str b) st=mE .eql a b st:=rfl;rw[h1.str,ae,h2.str,ae,e];simp[mE]
end
section
variable {st st':St}
def mq (l:List UInt8):List UInt8:=(l.reverse.dropWhile (fun b=>b==0)).reverse
end
theorem Rq (C:aN)(o:CV)(st:St)(Q:CV->St->Prop):aH P0 C (lvs 200) 200 [o] st Q=(upon (eO 303 o st) fun p l=>cN (fun g s=>cf (fun b d t=>us (ai .lss (none) false (ak 3 b) (ak 2 b) d) fun u=>aD u (jh 4 4 (ak 1 b) (ak 3 b) d fun v=>upon (dd 307 [(.str []),(.str []),(I 0),(I 0)] d) fun m w=>upon (aT 4 m v w) fun _ h=>cd (us (aP 4 m h) fun x=>us (al 0 (ak 0 b) h) fun y=>us (aw y h) fun z=>C 209 [x,z] h fun A a=>us (fA .not A a) fun f=>us (aS (ag false f) a (.ok (ak 3 b) a)) fun B=>us (aS (ag false f) a (ai .gtr (none) true B (I 0) a)) fun D=>us (aS (ag false f) a (.ok D a)) fun c=>us (aS (ag true c) a (al 1 (ak 0 b) a)) fun E=>us (aS (ag true c) a (aw E a)) fun F=>us (aS (ag true c) a (.ok (ak 3 b) a)) fun G=>us (aS (ag true c) a (ai .sub (none) true G (I 1) a)) fun H=>us (aS (ag true c) a (cm 4 F H a)) fun J=>us (aS (ag true c) a (al 0 J a)) fun K=>us (aS (ag true c) a (aw K a)) fun L=>us (aS (ag true c) a (al 0 m a)) fun M=>us (aS (ag true c) a (aw M a)) fun N=>us (aS (ag true c) a (ai .geq (none) false L N a)) fun O=>us (aS (ag false f) a (aK c O (.bool false) a)) fun P=>us (aK f (.bool true) P a) fun S=>((True)/\(True)/\(True)/\(True)/\(True)/\True)/\(True)/\aD S (Q (.bool false) a) (us (ai .add (none) true (ak 3 b) (I 1) a) fun T=>t [(ak 0 b),(ak 1 b),(ak 2 b),T] a))) (fl 1 (ak 0 b) d fun U=>us (bO .slice U d) fun V=>us (ai .add (none) true V (I 1) d) fun W=>cN (fun n e=>fl 2 (ak 0 n) e fun X=>us (bO .slice X e) fun Y=>us (ai .eql (some .int) false Y (ak 1 n) e) fun i=>
 eu (ag true i) 2 (ak 0 n) e fun Z=>cb (ag true i) e (fun k=>C 124 [Z,(.func (.func 210) [] [])] e k) fun a0 j=>us (aS (ag true i) j (fA .not a0 j)) fun a1=>us (aK i a1 (.bool false) j) fun a2=>Q a2 j) fun q=>fl 0 (ak 0 b) d fun a3=>aD a3 (q [(ak 0 b),(I 0)] d) (q [(ak 0 b),W] d))) [(ak 0 g),(ak 1 g),(ak 2 g),(ak 3 g)] s) fun a4=>fl 1 p l fun r=>us (bO .slice r l) fun a5=>a4 [p,r,a5,(I 0)] l):=by kernel_rfl
theorem Rl (C:aN)(g h:CV)(st:St)(Q:CV->St->Prop):aH P0 C (lvs 209) 209 [g,h] st Q=(upon (eO 307 g st) fun b a=>fl 0 b a fun j=>us (bO .str j a) fun l=>us (ai .gtr (none) true l (I 48) a) fun m=>aD m (Q (.bool false) a) (us (fA .not h a) fun n=>aD n (us (aP 4 b a) fun o=>fl 0 b a fun p=>us (bf [(.str []),(.str []),(I 0),(I 0)] [(0,1,p)] a) fun q=>us (ai .eql (some (.struct (.cons 0 1 false .str (.cons 1 1 false .str (.cons 2 1 false .int (.cons 3 1 false .int .nil)))))) false o q a) fun r=>Q r a) (fl 2 b a fun s=>us (ai .eql (some .int) true s (I 0) a) fun t=>aD t (fl 3 b a fun u=>us (ai .eql (some .int) true u (I 0) a) fun c=>eu (ag true c) 1 b a fun v=>us (aS (ag true c) a (bO .str v a)) fun w=>us (aS (ag true c) a (ai .leq (none) true w (I 64) a)) fun x=>us (aK c x (.bool false) a) fun y=>Q y a) (fl 1 b a fun z=>us (ai .eql (some .str) true z (.str []) a) fun e=>eu (ag true e) 2 b a fun A=>cb (ag true e) a (fun k=>C 211 [A,(I 1)] a k) fun B d=>us (aK e B (.bool false) d) fun f=>eu (ag true f) 3 b d fun D=>cb (ag true f) d (fun k=>C 211 [D,(I 1)] d k) fun E i=>us (aK f E (.bool false) i) fun F=>Q F i)))):=by kernel_rfl
theorem Rj (C:aN)(a c:CV)(st:St)(Q:CV->St->Prop):aH P0 C (lvs 211) 211 [a,c] st Q=(us (ai .geq (none) false a c st) fun b=>us (aS (ag true b) st (.ok a st)) fun d=>us (aS (ag true b) st (ai .leq (none) true d (I 2147483647) st)) fun e=>us (aK b e (.bool false) st) fun f=>Q f st):=by kernel_rfl
theorem Rk (C:aN)(a:CV)(st:St)(Q:CV->St->Prop):aH P0 C (lvs 210) 210 [a] st Q=(C 211 [a,(I 0)] st fun c b=>us (fA .not c b) fun d=>Q d b):=by kernel_rfl
theorem MR (C:aN)(a b:CV)(st:St)(Q:CV->St->Prop):aH P0 C (lvs 124) 124 [a,b] st Q=(C 158 [a,b] st fun d c=>us (ai .geq (none) true d (I 0) c) fun e=>Q e c):=by kernel_rfl
theorem MQ (C:aN)(d f:CV)(st:St)(Q:CV->St->Prop):aH P0 C (lvs 158) 158 [d,f] st Q=(cN (fun b g=>cf (fun a c h=>us (ai .lss (none) false (ak 3 a) (ak 2 a) c) fun i=>aD i (idx 1 (ak 0 a) (ak 3 a) c fun j=>eG C (ak 1 a) [j] c fun k e=>aD k (Q (ak 3 a) e) (us (ai .add (none) true (ak 3 a) (I 1) e) fun l=>h [(ak 0 a),(ak 1 a),(ak 2 a),l] e)) (Q (.int .i64 (-1)) c)) [(ak 0 b),(ak 1 b),(ak 2 b),(ak 3 b)] g) fun m=>us (bO .slice d st) fun n=>m [d,f,n,(I 0)] st):=by kernel_rfl
theorem Rr (C:aN)(b g:CV)(st:St)(Q:CV->St->Prop):aH P0 C (lvs 199) 199 [b,g] st Q=(upon (dd 307 [(.str []),(.str []),(I 0),(I 0)] st) fun c m=>C 67 [b,(I 48)] m fun n h=>us (bf [(.str []),(.str []),(I 0),(I 0)] [(0,1,n)] h) fun o=>upon (dd 307 [(.str []),(.str []),(I 0),(I 0)] h) fun a p=>upon (aT 4 a o p) fun _ d=>us (fA .not g d) fun q=>aD q (us (aP 4 a d) fun r=>upon (aT 4 c r d) fun _ i=>us (aP 4 c i) fun s=>Q s i) (cN (fun f j=>us (aP 4 (ak 1 f) j) fun t=>upon (aT 4 (ak 0 f) t j) fun _ k=>us (aP 4 (ak 0 f) k) fun u=>Q u k) fun l=>C 65 [b,(I 2147483647)] d fun v w=>fst 1 2 a v w fun e=>fl 2 a e fun x=>us (ai .eql (some .int) true x (I 0) e) fun y=>aD y (C 67 [b,(I 64)] e fun z A=>fst 1 1 a z A fun B=>l [c,a] B) (C 65 [b,(I 2147483647)] e fun D E=>fst 1 3 a D E fun F=>l [c,a] F))):=by kernel_rfl
theorem Rz (C:aN)(m:CV)(st:St)(Q:CV->St->Prop):aH P0 C (lvs 180) 180 [m] st Q=(upon (dd 303 [(.bool false), .aa, .aa] st) fun p h=>us (bO .slice m h) fun T=>us (ai .gtr (none) true T (I 512) h) fun U=>aD U (us (bf [(.bool false), .aa, .aa] [] h) fun V=>upon (aT 3 p V h) fun _ E=>us (aP 3 p E) fun W=>Q (.tuple [W,(I 4)]) E) (C 64 [m] h fun q X=>C 66 [q] X fun Y F=>us (bf [(.bool false), .aa, .aa] [(0,1,Y)] F) fun Z=>upon (dd 303 [(.bool false), .aa, .aa] F) fun G a0=>upon (aT 3 G Z a0) fun _ a1=>cN (fun n a2=>cN (fun i a3=>cf (fun a e a4=>fl 1 (ak 3 a) e fun a5=>us (bO .slice a5 e) fun a6=>us (ai .leq (none) false (ak 4 a) a6 e) fun r=>us (aS (ag true r) e (.ok (ak 2 a) e)) fun a7=>cb (ag true r) e (fun k=>C 99 [a7] e k) fun a8 c=>us (aK r a8 (.bool false) c) fun s=>eu (ag true s) 0 (ak 3 a) c fun a9=>us (aS (ag true s) c (fA .not a9 c)) fun b0=>us (aK s b0 (.bool false) c) fun b1=>aD b1 (cd (us (al 2 (ak 3 a) (St.skip c)) fun t=>us (aw t (St.skip c)) fun u=>C 65 [(ak 2 a),(I 2147483647)] (St.skip c) fun b2 b3=>upon (dW c.next 3 1 (cM 1 [(I 0)]) [(0,1,b2)] b3) fun b4 w=>upon (cy 3 1 8 u (dJ .slice 1 [(I 0)] b4 w) w) fun b5 H=>us (al 2 (ak 3 a) H) fun b6=>upon (aT 1 b6 b5 H) fun e8 J=>(((us (aw t (St.skip c)) fun v=>v=u)/\(us (aw t w) fun v=>v=u)/\True)/\True)/\((True)/\True)/\us (ai .add (none) true (ak 4 a) (I 1) J) fun b7=>a4 [(ak 0 a),(ak 1 a),(ak 2 a),(ak 3 a),b7] J)) (us (bO .slice (ak 0 a) c) fun b8=>C 109 [(ak 2 a)] c fun b9 x=>
 us (ai .sub (none) false b8 b9 x) fun c0=>us (cc 1 (ak 0 a) (some c0) none x) fun c1=>C 99 [(ak 2 a)] x fun c2 j=>us (fA .not c2 j) fun o=>us (aS (ag false o) j (aP 3 (ak 3 a) j)) fun c3=>cb (ag false o) j (fun k=>C 200 [c3] j k) fun c4 f=>us (aS (ag false o) f (fA .not c4 f)) fun c5=>us (aK o (.bool true) c5 f) fun y=>us (aS (ag false y) f (.ok c1 f)) fun c6=>cb (ag false y) f (fun k=>C 201 [c6,(.func (.func 202) [] [])] f k) fun c7 l=>us (aK y (.bool true) c7 l) fun c8=>aD c8 (us (bf [(.bool false), .aa, .aa] [] l) fun c9=>upon (aT 3 (ak 1 a) c9 l) fun _ K=>us (aP 3 (ak 1 a) K) fun d0=>Q (.tuple [d0,(I 4)]) K) (us (aP 3 (ak 3 a) l) fun d1=>upon (aT 3 (ak 1 a) d1 l) fun _ L=>us (aP 3 (ak 1 a) L) fun d2=>Q (.tuple [d2,(I 0)]) L))) [(ak 0 i),(ak 1 i),(ak 2 i),(ak 3 i),(ak 4 i)] a3) fun d3=>d3 [(ak 0 n),(ak 1 n),(ak 2 n),(ak 3 n),(I 0)] a2) fun M=>cN (fun g d4=>cf (fun b z d5=>us (ai .lss (none) false (ak 5 b) (ak 4 b) z) fun d6=>aD d6 (C 99 [(ak 2 b)] z fun d7 d=>us (fA .not d7 d) fun d8=>aD d8 (M [(ak 0 b),(ak 1 b),(ak 2 b),(ak 3 b)] d) (cd (us (al 1 (ak 3 b) (St.skip d)) fun A=>us (aw A (St.skip d)) fun B=>us (al 0 (ak 3 b) (St.skip d)) fun N=>us (aw N (St.skip d)) fun O=>C 199 [(ak 2 b),O] (St.skip d) fun d9 e0=>upon (dW d.next 307 1 (cM 1 [(.str []),(.str []),(I 0),(I 0)]) [(0,4,d9)] e0) fun e1 D=>upon (cy 307 4 48 B (dJ .slice 4 [(.str []),(.str []),(I 0),(I 0)] e1 D) D) fun e2 P=>us (al 1 (ak 3 b) P) fun e3=>upon (aT 1 e3 e2 P) fun e9 S=>
 (((us (aw A (St.skip d)) fun v=>v=B)/\(us (aw A D) fun v=>v=B)/\True)/\((us (aw N (St.skip d)) fun v=>v=O)/\True)/\True)/\((True)/\True)/\us (ai .add (none) true (ak 5 b) (I 1) S) fun e4=>d5 [(ak 0 b),(ak 1 b),(ak 2 b),(ak 3 b),(ak 4 b),e4] S))) (M [(ak 0 b),(ak 1 b),(ak 2 b),(ak 3 b)] z)) [(ak 0 g),(ak 1 g),(ak 2 g),(ak 3 g),(ak 4 g),(ak 5 g)] d4) fun e5=>C 65 [q,(I 512)] a1 fun e6 e7=>e5 [m,p,q,G,e6,(I 0)] e7)):=by kernel_rfl
theorem Rp (C:aN)(a b:CV)(st:St)(Q:CV->St->Prop):aH P0 C (lvs 201) 201 [a,b] st Q=(C 212 [a,b] st fun d c=>us (ai .geq (none) true d (I 0) c) fun e=>Q e c):=by kernel_rfl
theorem Ro (C:aN)(a:CV)(st:St)(Q:CV->St->Prop):aH P0 C (lvs 202) 202 [a] st Q=(us (ai .neq (some .int) true a (.int .u8 0) st) fun b=>Q b st):=by kernel_rfl
theorem Ri (C:aN)(d f:CV)(st:St)(Q:CV->St->Prop):aH P0 C (lvs 212) 212 [d,f] st Q=(cN (fun b g=>cf (fun a c h=>us (ai .lss (none) false (ak 3 a) (ak 2 a) c) fun i=>aD i (idx 1 (ak 0 a) (ak 3 a) c fun j=>eG C (ak 1 a) [j] c fun k e=>aD k (Q (ak 3 a) e) (us (ai .add (none) true (ak 3 a) (I 1) e) fun l=>h [(ak 0 a),(ak 1 a),(ak 2 a),l] e)) (Q (.int .i64 (-1)) c)) [(ak 0 b),(ak 1 b),(ak 2 b),(ak 3 b)] g) fun m=>us (bO .slice d st) fun n=>m [d,f,n,(I 0)] st):=by kernel_rfl
theorem Gs (st:St)(x y:mc):St.set (St.new st x) st.next y=St.new st y:=by
 simp only[St.set,St.new,St.mk.injEq,and_true];exact PT.ext fun p=>by simp only[PT.np];split<;>rfl
theorem mL {t n:Nat}{z T:List CV}{s:St}{K:CV->St->Prop}(hz:z.length=n)(hl:T.length=n)(ho:bu T=true)(hK:K (.ptr s.next 0) (St.new s (.cells T t false))):upon (dd t z s) fun x s2=>upon (aT n x (.agg T) s2) fun _ s3=>K x s3:=by
 rw[cn,bj,aQ,aG];have:bB z 0 T=T:=cW _ _ (by omega);rw[bg,ba,this,Gs];exact⟨⟨hl,ho,by omega⟩,hK⟩
def cr (c:fw):List CV:=[.str c.key, .str c.value,I c.ej,I c.size]
def gR (l:List fw):List CV:=(l.map cr).flatten
def fX (l:List Nat):List CV:=l.map fun n:Nat=>I n
theorem pH (l:List fw):∀x∈l.map cr,x.length=4:=by
 intro x hx;obtain⟨c,_,rfl⟩:=agJ.1 hx;rfl
theorem gQ (l:List fw):(gR l).length=l.length*4:=by unfold gR;rw[fh (pH l)];simp
@[simp] theorem uL (l:List Nat):(fX l).length=l.length:=by simp[fX]
theorem tZ (a b:List fw):gR (a++b)=gR a++gR b:=by simp[gR]
theorem we (a b:List Nat):fX (a++b)=fX a++fX b:=by simp[fX]
@[simp] theorem jG (c:fw):bu (cr c)=true:=rfl
section
variable {st st':St}
theorem Sl.jh {X:List Nat}{v:CV}{k:Nat}{L:List (List CV)}(hs:Sl st X v k L.flatten)(hk:0<k)(hw:∀x∈L,x.length=k){i:Nat}(hi:i<L.length)(Q:CV->Prop)(hq:Q (.agg L[i])):Lim.jh k k v (I i) st Q:=by
 have hlen:=fh hw;rcases hs with⟨rfl,h⟩|⟨b,off,len,cap,grow,rfl,h2,h3,h4⟩
 ·rw[h]at hlen;have:0<L.length*k:=Nat.mul_pos (by omega) hk;simp at hlen;omega
 ·have:len=L.length:=ahw hk (by rw[<-h2,hlen]);subst this;rcases h4 with h4|⟨_,_,l,t,g,h7,h8,h9⟩
  ·omega
  ·unfold Lim.jh;rw[du hi (.inr h3.1)]
   have F5:i*k+k<=L.length*k:=by
    calc i*k+k=(i+1)*k:=by rw[ahm,ahW]
     _<=L.length*k:=agS k hi
   simp only[ae,jA,h7,ao,pa];refine⟨by omega, ?_⟩
   have e:(l.drop (off+i*k)).take k=L[i]:=by
    rw[<-mR hw i hi,<-h9,ahs,List.drop_drop,agV,agD (by omega)]
   rw[e];exact hq
theorem Sl.cellAt {X:List Nat}{v:CV}{k:Nat}{L:List (List CV)}(hs:Sl st X v k L.flatten)(hk:0<k)(hw:∀x∈L,x.length=k){i:Nat}(hi:i<L.length):∃b p l t g,(∀s,cm k v (I i) s= .ok (.ptr b p) s)/\st.mem.get b=some (.cells l t g)/\b<st.next/\b∉X/\∀o x,L[i][o]?=some x->l[p+o]?=some x:=by
 have hlen:=fh hw;rcases hs with⟨rfl,h⟩|⟨b,off,len,cap,grow,rfl,h2,h3,h4⟩
 ·rw[h]at hlen;have:0<L.length*k:=Nat.mul_pos (by omega) hk;simp at hlen;omega
 ·have:len=L.length:=ahw hk (by rw[<-h2,hlen]);subst this;rcases h4 with h4|⟨h5,h6,l,t,g,h7,h8,h9⟩
  ·omega
  ·refine⟨b,off+i*k,l,t,g,du hi (.inr h3.1),h7,h6,h5,fun o x hx=> ?_⟩
   have F5:i*k+k<=L.length*k:=by
    calc i*k+k=(i+1)*k:=by rw[ahm,ahW]
     _<=L.length*k:=agS k hi
   have ho:o<k:=by
    obtain⟨h,_⟩:=agt.1 hx;rw[hw _ (agx hi)]at h;exact h
   rw[<-hx,<-EV hw i hi o ho,<-h9,ahn,agl (by omega),ahS]
   congr 1;omega
def IsNode (st:St)(X:List Nat)(v:CV)(n:ek):Prop:=∃vc vk,v= .agg [.bool n.leaf,vc,vk]/\Sl st X vc 4 (gR n.cells)/\Sl st X vk 1 (fX n.kids)
theorem IsNode.mono {X:List Nat}{v:CV}{n:ek}(h:IsNode st X v n)(hk:Kp X st st'):IsNode st' X v n:=by
 obtain⟨vc,vk,h1,h2,h3⟩:=h;exact⟨vc,vk,h1,h2.mono hk,h3.mono hk⟩
theorem IsNode.oE {X Y:List Nat}{v:CV}{n:ek}(h:IsNode st X v n)(hy:∀q∈Y,q∈X\/st.next<=q):IsNode st Y v n:=by
 obtain⟨vc,vk,h1,h2,h3⟩:=h;exact⟨vc,vk,h1,h2.oE hy,h3.oE hy⟩
theorem sJ {n least:Nat}:R 211 [I n,I least] st fun v st'=>v= .bool (decide (least<=n/\n<=tS))/\st'=st:=by
 refine bp ?_;rw[Rj]
 by_cases h1:least<=n
 ·have e1:(least:Int)<=n:=by omega
  have e2:((n:Int)<=2147483647)↔n<=tS:=by show _↔n<=2147483647;omega
  simp[h1,e1,e2]
 ·have e1:¬(least:Int)<=n:=by omega
  simp[h1,e1]
theorem J3 {c:fw}{leaf:Bool}(h:c.ok leaf):R 209 [.agg (cr c), .bool leaf] st fun v st'=>v= .bool true/\Kp [] st st':=by
 refine bp ?_;rw[Rl];rw[br,ba];refine⟨rfl, ?_⟩;have k1:Kp [] st (St.new st (.cells (cr c) 307 false)):=(Kp.refl [] st).new _;have g1:(St.new st (.cells (cr c) 307 false)).mem.get st.next=some (.cells [.str c.key, .str c.value,I c.ej,I c.size] 307 false):=aG _ _;generalize St.new st (.cells (cr c) 307 false)=s1 at*;have e0:¬(48:Int)<c.key.length:=by have:=h.key;omega
 simp only[fl,af,ae,av,g1,ao,afZ,afX,au,xJ,aA,cC,e0,ahP,ah,afY,agn,bt];cases leaf with
 |false=>
  obtain⟨h1,h2,h3⟩:=h.inner rfl;rw[agj,agl rfl,aR (n:=4) g1 rfl,ae];simp[eF,dG,bB,o5,jx,wE,fQ,andThen,fG,h1,h2,h3,k1]
 |true=>
  rw[agm,agf (by decide)]
  by_cases h0:c.ej=0
  ·obtain⟨h1,h2⟩:=h.short rfl h0;have e1:(c.value.length:Int)<=64:=by omega
   simp[h0,h1,g1,eu,e1,k1]
  ·obtain⟨h1,h2,h3,h4⟩:=h.Ys rfl h0;have e1:¬(c.ej:Int)=0:=by omega
   simp[h1,g1,eu,h0];refine(sJ (n:=c.ej) (least:=1)).same ?_;have e2:1<=c.ej:=by omega
   have e3:decide (1<=c.ej/\c.ej<=tS)=true:=agi ⟨e2,h2⟩;have e4:decide (1<=c.size/\c.size<=tS)=true:=agi ⟨h3,h4⟩;simp only[e3,g1,ae,aF,ags,aE,aM,bF,av,ao,agb,afX,au];refine(sJ (n:=c.size) (least:=1)).same ?_;simp only[e4];exact⟨trivial,k1⟩
end
