import Derived.Test.YtomffjeofpafnaaGreatDoorSndB
import Derived.Test.YtomffjeofpafnaaGreatDoorWa
import Derived.Lib.Overlaps
import Derived.Laws.Externs
namespace Lim
open Go
noncomputable section
set_option maxRecDepth 100000
open Classical in
def SR (args:List CV)(st:St):Option OR:=
 match args with
 |[.slice bx _ _ _ _, .slice by' _ _ _ _]=>(match st.mem.get bx,st.mem.get by' with
  |some (.cells _ _ false),some (.cells s _ _)=>if bx≠by'/\1<=s.length then some (.ok (.bool false) st)else none
  |_,_=>none)
 |_=>none
def I1:xg:=fun f args st=>bu (Nat.beq f 102) (SR args st) (bu (Nat.beq f 181) (SR args st) none)
structure Yh (P:Program)(f:Nat):Prop where
 out:∃(tS tR e:TypeId) (size:Nat),P.underlying tS=some (.slice e)/\(∀w,(Go.sizeOf e).run P w= .ok size w)/\
  ∀(args:Array Value) (w:World),(callFunc f args).run P w=((Extern.SlicesOverlaps.overlaps #[tS,tS] #[tR] args).run P w).andThen fun v w'=> .ok (.value v) w'
section
variable {P:Program} {f:Nat} {st st':St} {v:CV}
theorem AZ (hf:Yh P f){args:List CV}(h:SR args st=some (.ok v st')):qi P f args st v st':=by
 obtain⟨tS,tR,e,size,h1,h2,h3⟩:=hf.out;unfold SR at h
 split at h
 ·rename_i bx ox lx cx gx by' oy ly cy gy
  split at h
  ·rename_i s1 t1 s2 t2 g2 m1 m2
   split at h
   ·rename_i hc;cases h;refine .inr ⟨rfl,fun ρ w args' hw ha=> ?_⟩;obtain⟨x',t',e1,hx,Dz⟩:=ha.inv;obtain⟨y',ZQ,e2,hy,RY⟩:=Dz.inv;have e3:ZQ=[]:=by have:=RY.len;simpa using this.symm
    subst e3;subst e2;have e4:args'= #[x',y']:=by rw[<-aCf (xs:=args'),e1]
    subst e4;obtain⟨r1,z1,o1,k1,rfl,Tt,_⟩:=hx.eH;obtain⟨r2,z2,o2,k2,rfl,Be,_⟩:=hy.eH;obtain⟨c1,lo1,E9,a1,a2,a3,a4,a5⟩:=hw.row m1 Tt;obtain⟨c2,Hu,wY,b1,b2,b3,b4,b5⟩:=hw.row m2 Be;have hfz:=hw.Vl m1 Tt a1 rfl;have hrr:r1≠r2:=fun e=>hc.1 (hw.inj bx by' _ _ r1 z1 z2 m1 m2 Tt (by rw[e];exact Be));have hs:=hc.2;refine⟨.bool false, ?_, .bool false⟩
    rw[h3,Lib.run_overlaps_apart w tS tR e h1 size h2 ⟨r1,o1,none⟩ ⟨r2,o2,none⟩ lx k1 ly k2 hrr t1 t2 c1.size c2.size (by simp[World.shape?,a1]) (by simp[World.shape?,b1]) (by omega)
     (by simp only[World.frozen?,a1];have:=hfz o1;simp;omega) (by simp only[World.frozen?,a1];have:=hfz c1.size;simp;omega)]
    rfl
   ·cases h
  ·cases h
 ·cases h
end
section
variable {st:St}
theorem BP {k b off len cap g l:Nat}(h:l<=len)(hc:len<=cap)(hg:g=0\/g=k)(hlt:l<cap)(s:St):aL k (.slice b off len cap g) (some (I l)) none s= .ok (.slice b (off+l*k) (len-l) (cap-l) g) s:=by
 unfold aL;have e:mW (some (I l)) none len cap=some (l,len):=by rw[xH,aAI h]
 simp only[aO,aBe,e,dE,aAV,aBi,aBB];rw[aAI hc,aAH (by omega),aAI hg]
 rfl
theorem ZY {k b off len cap g h:Nat}(hh:h<=cap)(hc:len<=cap)(hg:g=0\/g=k)(hlt:0<cap)(s:St):aL k (.slice b off len cap g) none (some (I h)) s= .ok (.slice b off h cap g) s:=by
 unfold aL;have e:mW none (some (I h)) len cap=some (0,h):=by rw[sJ,aAI hh]
 simp only[aO,aBe,e,dE,aAV,aBi,aBB];rw[aAI hc,aAH (by omega),aAI hg];simp
def Kr (C:aW)(k e bytes:Nat)(z:List CV)(f1 f2:Nat)(a0 a1 a2:CV)(st:St)(Q:CV->St->Prop):Prop:=
 (us (aL k a0 (some a1) none st) fun x1=>
 us (bh .slice a2 st) fun x2=>
 us (aj .eql (some .int) true x2 (.int .i64 0) st) fun x3=>
 aB x3 (
 Q a0 st) (
 us (bh .slice a0 st) fun x4=>
 us (aj .eql (some .int) false a1 x4 st) fun x5=>
 aB x5 (
 upon (bM e k bytes a0 (cV .slice k z a2 st) st) fun x6 s1=>
 Q x6 s1) (
 us (aj .add (none) false x4 x2 st) fun x7=>
 us (bh .cap a0 st) fun x8=>
 us (aj .gtr (none) false x7 x8 st) fun x9=>
 aB x9 (
 us (aL k a0 none (some a1) st) fun db=>
 us (aj .add (none) false x4 x2 st) fun cW=>
 us (aj .sub (none) false cW a1 st) fun dx=>
 upon (bM e k bytes db (cV .zeros k z dx st) st) fun cZ s2=>
 us (aL k cZ (some a1) none s2) fun ew=>
 upon (gj false k ew a2 s2) fun ef s3=>
 bT (
 us (aj .add (none) false a1 x2 s3) fun dI=>
 us (aL k cZ (some dI) none s3) fun eB=>
 us (aL k a0 (some a1) none s3) fun dZ=>
 upon (gj false k eB dZ s3) fun eo s4=>
 (True)/\(True)/\
 Q cZ s4)) (
 us (aj .add (none) false x4 x2 st) fun eF=>
 us (aL k a0 none (some eF) st) fun dJ=>
 us (aj .add (none) false a1 x2 st) fun eT=>
 us (aL k dJ (some eT) none st) fun fj=>
 C f1 [a2,fj] st fun fO s5=>
 us (lj .not fO s5) fun gu=>
 aB gu (
 bT (
 us (aj .add (none) false a1 x2 s5) fun gZ=>
 us (aL k dJ (some gZ) none s5) fun iB=>
 us (aL k dJ (some a1) none s5) fun gP=>
 upon (gj false k iB gP s5) fun iN s6=>
 (True)/\(True)/\
 us (aL k dJ (some a1) none s6) fun iA=>
 upon (gj false k iA a2 s6) fun jD s7=>
 Q dJ s7)) (
 us (aL k dJ (some x4) none s5) fun iW=>
 upon (gj false k iW a2 s5) fun jC s8=>
 us (aL k dJ (some a1) none s8) fun jz=>
 C f2 [jz,x2] s8 fun jy s9=>
 Q dJ s9)))))
theorem Ti (C:aW)(a0 a1 a2:CV)(st:St)(Q:CV->St->Prop):aM P0 C (lvs 51) 51 [a0,a1,a2] st Q=Kr C 4 109 48 [(.str []),(.str []),(.int .i64 0),(.int .i64 0)] 102 103 a0 a1 a2 st Q:=by rw[w51];rfl
theorem Nj (C:aW)(a0 a1 a2:CV)(st:St)(Q:CV->St->Prop):aM P0 C (lvs 144) 144 [a0,a1,a2] st Q=Kr C 1 3 8 [(.int .i64 0)] 181 182 a0 a1 a2 st Q:=by rw[ZD];rfl
theorem Dc {k b off len cap g m bs os ls cs gs:Nat}{D:List CV}{ty:Nat}{gd:Bool}{s:St}{t:List CV}(hm:m=min ls len)(Kw:0<m)(hc:0<cap)(hs:dG k m (.slice bs os ls cs gs) s=some t)(ho:aV t=true)(hb:s.mem.get b=some (.cells D ty gd)){K:CV->St->Prop}{D':List CV}
 (hw:dQ D off t=some D'\/(dQ D off t=none/\Ar D off t (off+cap*g)=some D')) (hK:K (I m) (St.set s b (.cells D' ty gd))):upon (gj false k (.slice b off len cap g) (.slice bs os ls cs gs) s) K:=by
 unfold gj;have e0:ED (.slice bs os ls cs gs)=some ls:=rfl;simp only[e0,<-hm];have e1:cellsOf false k m (.slice bs os ls cs gs) s=some t:=hs;rw[e1];simp only[aO,aBi,aAV,aBB,aBe];rw[aAH (by omega),aAI ⟨ho, .inr hc⟩,hb];rcases hw with h|⟨h1,h2⟩
 ·simp only[h];exact hK
 ·simp only[h1,h2];exact hK
theorem vz {k n b off len cap g:Nat}{L:List CV}{ty:Nat}{gd:Bool}{s:St}(hb:s.mem.get b=some (.cells L ty gd))(hg:g=0\/n<=len)(hn:0<n)(hl:off+n*k<=L.length):dG k n (.slice b off len cap g) s=some ((L.drop off).take (n*k)):=by
 rw[lB,aAH (by omega),aAI hg,hb];unfold ig;dsimp only;rw[aAI hl]
abbrev R1:=ot P0 lvs I1
theorem tW {A B T:List CV}{off:Nat}(h:A.length=off)(hb:T.length<=B.length):dQ (A++B) off T=some (A++(T++B.drop T.length)):=by
 subst h;unfold dQ;rw[aAI (by rw[aAG];omega),aBW rfl,<-aCU,aCW rfl]
theorem D9 (m k:Nat)(z:List CV)(h:z.length=k):(cH m z).length=m*k:=by
 unfold cH;simp[h]
theorem aaJ {k e bytes f1 f2 n i b vb:Nat}{z L T:List CV}{s:St}(hk:0<k)(sv:k<=4)(hby:bytes<=48)(hz:z.length=k)(hoz:aV z=true)(hb:s.mem.get b=some (.cells L e true))(hv:s.mem.get vb=some (.cells T e false))(Dy:b<s.next)(hvn:vb<s.next)(hL:L.length=n*k)(hT:T.length=k)(hi:i<n)(hn:n<=1000000)(ho:aV L=true)(Gl:aV T=true):
 Kr R1 k e bytes z f1 f2 (.slice b 0 n n 0) (I i) (.slice vb 0 1 1 0) s fun x s'=>x= .slice s.next 0 (n+1) (n+1) k/\s'.next=s.next+1/\s'.mem.get s.next=some (.cells (L.take (i*k)++(T++L.drop (i*k))) e true)/\∀q,q≠s.next->s'.mem.get q=s.mem.get q:=by
 unfold Kr;have e1:bh .slice (.slice vb 0 1 1 0) s= .ok (I ((1:Nat):Int)) s:=rfl;have e2:aj .eql (some .int) true (I ((1:Nat):Int)) (.int .i64 0) s= .ok (.bool false) s:=rfl;have e3:bh .slice (.slice b 0 n n 0) s= .ok (I n) s:=rfl;have e4:aj .eql (some .int) false (I i) (I n) s= .ok (.bool false) s:=by rw[aw,cz,aAB (by omega)]
 have e5:∀(a c:Nat) s,a<=2000000->c<=2000000->aj .add none false (I a) (I c) s= .ok (I ((a+c:Nat):Int)) s:=fun a c s h1 h2=>by rw[aw,cE,bz (by omega)];congr 2
 have e6:bh .cap (.slice b 0 n n 0) s= .ok (I n) s:=rfl;have e7:aj .gtr none false (I ((n+1:Nat):Int)) (I n) s= .ok (.bool true) s:=by rw[aw,dq,aAJ (by omega)]
 have e8:aj .sub none false (I ((n+1:Nat):Int)) (I i) s= .ok (I ((n+1-i:Nat):Int)) s:=by rw[aw,dW,bz (by omega)];congr 2;omega
 rw[BP (by omega) (aAE n) (.inl rfl) (by omega),af,e1,af,e2,af,ag,aAH (by decide),e3,af,e4,af,ag,aAH (by decide),e5 n 1 s (by omega) (by omega),af,e6,af,e7,af,ag,aAI rfl];rw[ZY (by omega) (aAE n) (.inl rfl) (by omega),af,af,e8,af];have E8:i*k<=n*k:=aBu k (by omega);have Bf:(n+1)*k=n*k+k:=by rw[aBI];omega
 have E9:(i+1)*k=i*k+k:=by rw[aBI];omega
 have sW:(n-i)*k=n*k-i*k:=Nat.sub_mul _ _ _;have abd:(n+1-i)*k=n*k+k-i*k:=by rw[Nat.sub_mul,Bf]
 have akU:(i+1)*k<=n*k:=aBu k (by omega)
 have Al:cV .zeros k z (I ((n+1-i:Nat):Int)) s=some (n+1-i,cH (n+1-i) z):=by
  have e:cV .zeros k z (I ((n+1-i:Nat):Int)) s=bu (Nat.ble (n+1-i) 1099511627776) (some (n+1-i,cH (n+1-i) z)) none:=rfl;rw[e,aO,aAI (by rw[aBe];omega)]
 have hZ:=D9 (n+1-i) k z hz;generalize hZe:cH (n+1-i) z=Z at Al hZ
 have NZ:bM e k bytes (.slice b 0 i n 0) (some (n+1-i,Z)) s= .ok (.slice s.next 0 (n+1) (n+1) k) ⟨s.mem.put s.next (some (.cells (L.take (i*k)++Z) e true)),s.next+1⟩:=by
  unfold bM;have e9:ig L 0 (i*k)=some (L.take (i*k)):=by unfold ig;rw[aAI (by omega),aBg]
  have OL:Nat.add i (n+1-i)=n+1:=by show i+(n+1-i)=n+1;omega
  have Zn:(n+1)*bytes<=(1000001)*48:=aDo (by omega) hby;simp only[aO,aBi,dE,OL,hb,e9,aAV,aBe];rw[aAH (by omega),aAH (by omega),aAI ⟨hk,by show(n+1)*bytes<=_;omega,by omega⟩,aAI trivial]
 rw[Al,NZ,aS];generalize LD:(⟨s.mem.put s.next (some (.cells (L.take (i*k)++Z) e true)),s.next+1⟩:St)=s2;have m2:s2.mem.get s.next=some (.cells (L.take (i*k)++Z) e true):=by rw[<-LD];exact PT.cI _ _ _
 have o2:∀q,q≠s.next->s2.mem.get q=s.mem.get q:=fun q hq=>by rw[<-LD];exact PT.c9 _ _ _ _ hq
 have n2:s2.next=s.next+1:=by rw[<-LD]
 have hA:(L.take (i*k)).length=i*k:=by rw[aAN];omega
 rw[BP (by omega) (aAE (n+1)) (.inr rfl) (by omega),af];refine Dc (m:=1) (t:=T) (by omega) (by omega) (by omega) ?_ Gl m2 (D':=L.take (i*k)++(T++Z.drop k)) (.inl ?_) ?_
 ·rw[vz (n:=1) ((o2 vb (by omega)).trans hv) (.inl rfl) (by omega) (by omega),aBg,aAK (by omega)]
 ·rw[aAF,tW hA (by omega),hT]
 have e16:=e5 i 1 (St.set s2 s.next (.cells (L.take (i*k)++(T++Z.drop k)) e true)) (by omega) (by omega);rw[bt,e16,af,BP (by omega) (aAE (n+1)) (.inr rfl) (by omega),af,BP (by omega) (aAE n) (.inl rfl) (by omega),af];generalize LC:St.set s2 s.next (.cells (L.take (i*k)++(T++Z.drop k)) e true)=s3;have m3:s3.mem.get s.next=some (.cells (L.take (i*k)++(T++Z.drop k)) e true):=by rw[<-LC];exact ao _ _ _
 have o3:∀q,q≠s.next->s3.mem.get q=s.mem.get q:=fun q hq=>by rw[<-LC,al _ _ _ _ hq];exact o2 q hq
 refine Dc (m:=n-i) (t:=L.drop (i*k)) (by omega) (by omega) (by omega) ?_ ?_ m3 (D':=L.take (i*k)++(T++L.drop (i*k))) (.inl ?_) ?_
 ·rw[vz (n:=n-i) ((o3 b (by omega)).trans hb) (.inl rfl) (by omega) (by omega),aAF,aAK (by rw[aAX];omega)]
 ·unfold aV at ho⊢;rw[aCO]at ho⊢;exact fun x hx=>ho x (aBv hx)
 ·have hAT:(L.take (i*k)++T).length=0+(i+1)*k:=by rw[aAG,hA,hT];omega
  have hd:List.drop (L.drop (i*k)).length (Z.drop k)=[]:=aBj (by rw[aAX,aAX];omega);rw[<-aBn,tW (T:=L.drop (i*k)) hAT (by rw[aAX,aAX];omega),hd,aBz,aBn]
 refine⟨trivial,trivial,rfl, ?_,ao _ _ _,fun q hq=> ?_⟩
 ·rw[qU,<-LC,qU,n2]
 ·rw[al _ _ _ _ hq];exact o3 q hq
theorem aaI {k e bytes f1 f2 n i b vb:Nat}{z L T:List CV}{s:St}(jZ:∀args s x s',SR args s=some (.ok x s')->∀Q,Q x s'->R1 f1 args s Q)(hk:0<k)(sv:k<=4)(hb:s.mem.get b=some (.cells L e true))(hv:s.mem.get vb=some (.cells T e false))(gL:b≠vb)(hL:L.length=n*k)(hT:T.length=k)(hi:i<n)(hn:n<=1000000)(ho:aV L=true)(Gl:aV T=true):
 Kr R1 k e bytes z f1 f2 (.slice b 0 n (n+1) k) (I i) (.slice vb 0 1 1 0) s fun x s'=>x= .slice b 0 (n+1) (n+1) k/\s'.next=s.next/\s'.mem.get b=some (.cells (L.take (i*k)++(T++L.drop (i*k))) e true)/\∀q,q≠b->s'.mem.get q=s.mem.get q:=by
 unfold Kr;have e1:bh .slice (.slice vb 0 1 1 0) s= .ok (I ((1:Nat):Int)) s:=rfl;have e2:aj .eql (some .int) true (I ((1:Nat):Int)) (.int .i64 0) s= .ok (.bool false) s:=rfl;have e3:bh .slice (.slice b 0 n (n+1) k) s= .ok (I n) s:=rfl;have e4:aj .eql (some .int) false (I i) (I n) s= .ok (.bool false) s:=by rw[aw,cz,aAB (by omega)]
 have e5:∀(a c:Nat) s,a<=2000000->c<=2000000->aj .add none false (I a) (I c) s= .ok (I ((a+c:Nat):Int)) s:=fun a c s h1 h2=>by rw[aw,cE,bz (by omega)];congr 2
 have e6:bh .cap (.slice b 0 n (n+1) k) s= .ok (.gN (n+1)) s:=by
  have:bh .cap (.slice b 0 n (n+1) k) s=bu (Nat.beq k 0) (xC .i64 s (n+1)) (.ok (.gN (n+1)) s):=rfl;rw[this,aO,aAH (by rw[aBi];omega)]
 have e7:aj .gtr none false (I ((n+1:Nat):Int)) (.gN (n+1)) s= .ok (.bool false) s:=by
  have:aj .gtr none false (I ((n+1:Nat):Int)) (.gN (n+1)) s=bu (decide (((n+1:Nat):Int)<((n+1:Nat):Int))) .bad (.ok (.bool false) s):=rfl;rw[this,aO,aAH (by simp)]
 have E8:i*k<=n*k:=aBu k (by omega);have Bf:(n+1)*k=n*k+k:=by rw[aBI];omega
 have E9:(i+1)*k=i*k+k:=by rw[aBI];omega
 have sW:(n-i)*k=n*k-i*k:=Nat.sub_mul _ _ _;have abd:(n+1-i)*k=n*k+k-i*k:=by rw[Nat.sub_mul,Bf]
 have apz:(n+1-(i+1))*k=n*k-i*k:=by rw[<-sW];congr 1;omega
 have akU:(i+1)*k<=n*k:=aBu k (by omega);rw[BP (by omega) (by omega) (.inr rfl) (by omega),af,e1,af,e2,af,ag,aAH (by decide),e3,af,e4,af,ag,aAH (by decide),e5 n 1 s (by omega) (by omega),af,e6,af,e7,af,ag,aAH (by decide)];rw[af,ZY (by omega) (by omega) (.inr rfl) (by omega),af,e5 i 1 s (by omega) (by omega),af,BP (by omega) (aAE _) (.inr rfl) (by omega),af];refine jZ _ _ (.bool false) s ?_ _ ?_
 ·unfold SR;simp only[hv,hb];rw[aAI ⟨gL.symm,by have:0<n*k:=Nat.mul_pos (by omega) hk;omega⟩]
 rw[dm,af,ag,aAI (show(!false)=true from rfl),bt,e5 i 1 s (by omega) (by omega),af,BP (by omega) (aAE _) (.inr rfl) (by omega),af,BP (by omega) (aAE _) (.inr rfl) (by omega),af];have hA:(L.take (i*k)).length=i*k:=by rw[aAN];omega
 refine Dc (m:=n-i) (t:=L.drop (i*k)) (by omega) (by omega) (by omega) ?_ ?_ hb (D':=L.take ((i+1)*k)++L.drop (i*k)) (.inr ⟨?_, ?_⟩) ?_
 ·rw[vz (n:=n-i) hb (.inr (by omega)) (by omega) (by omega),aAF,aAK (by rw[aAX];omega)]
 ·unfold aV at ho⊢;rw[aCO]at ho⊢;exact fun x hx=>ho x (aBv hx)
 ·unfold dQ;rw[aAH (by rw[aAX];omega)]
 ·unfold Ar;rw[aAF,aAI ⟨by omega,by rw[aAX];omega,by rw[aAX];omega⟩]
 generalize LC:St.set s b (.cells (L.take ((i+1)*k)++L.drop (i*k)) e true)=s3;have m3:s3.mem.get b=some (.cells (L.take ((i+1)*k)++L.drop (i*k)) e true):=by rw[<-LC];exact ao _ _ _
 have o3:∀q,q≠b->s3.mem.get q=s.mem.get q:=fun q hq=>by rw[<-LC,al _ _ _ _ hq]
 refine⟨trivial,trivial, ?_⟩;rw[BP (by omega) (aAE _) (.inr rfl) (by omega),af];refine Dc (m:=1) (t:=T) (by omega) (by omega) (by omega) ?_ Gl m3 (D':=L.take (i*k)++(T++L.drop (i*k))) (.inl ?_) ?_
 ·rw[vz (n:=1) ((o3 vb (fun e=>gL e.symm)).trans hv) (.inl rfl) (by omega) (by omega),aBg,aAK (by omega)]
 ·have e:L.take ((i+1)*k)=L.take (i*k)++(L.drop (i*k)).take k:=by rw[E9,List.take_add]
  rw[e,aBn,aAF,tW hA (by simp only[aAG,aAN,aAX];omega),hT,aCW (by rw[aAN,aAX];omega)]
 refine⟨rfl, ?_,ao _ _ _,fun q hq=> ?_⟩
 ·rw[qU,<-LC,qU]
 ·rw[al _ _ _ _ hq];exact o3 q hq
end
section
variable {P:Program} {lvs:Nat->Nat->Option (List Nat)} {I:xg}
theorem ot.Vt (hm:P.follows .mixedOrders=true)(hI:nf P I){f:Nat}{args:List CV}{st:St}{Q:CV->St->Prop}(hn:I f args st=none)(h:ot P lvs I f args st Q):∃v st',(gM P f=true/\Dq P f args st v st')/\Q v st':=by
 obtain⟨v,st',⟨N,hN⟩,hq⟩:=h;have h1:=hN (N+1) (by omega);unfold RF at h1;simp only[zZ,hn]at h1;exact⟨v,st',vo (yd (nq hm) hI N) (nq hm) h1,hq⟩
end
def Yn (f e k:Nat):Prop:=∀(n i b vb:Nat) (L T:List CV) (s:St),s.mem.get b=some (.cells L e true)->s.mem.get vb=some (.cells T e false)->b<s.next->vb<s.next->L.length=n*k->T.length=k->i<n->n<=1000000->aV L=true->aV T=true->
 R1 f [.slice b 0 n n 0,Lim.I i, .slice vb 0 1 1 0] s fun x s'=>x= .slice s.next 0 (n+1) (n+1) k/\s'.next=s.next+1/\s'.mem.get s.next=some (.cells (L.take (i*k)++(T++L.drop (i*k))) e true)/\∀q,q≠s.next->s'.mem.get q=s.mem.get q
def Ym (f e k:Nat):Prop:=∀(n i b vb:Nat) (L T:List CV) (s:St),s.mem.get b=some (.cells L e true)->s.mem.get vb=some (.cells T e false)->b≠vb->L.length=n*k->T.length=k->i<n->n<=1000000->aV L=true->aV T=true->
 R1 f [.slice b 0 n (n+1) k,Lim.I i, .slice vb 0 1 1 0] s fun x s'=>x= .slice b 0 (n+1) (n+1) k/\s'.next=s.next/\s'.mem.get b=some (.cells (L.take (i*k)++(T++L.drop (i*k))) e true)/\∀q,q≠b->s'.mem.get q=s.mem.get q
open Classical in
theorem PT.Sa (b vb q:Nat)(x y:Option qJ):((PT.nil.put b x).put vb y).get q=if q=vb then y else if q=b then x else none:=by
 rw[PT.eO,PT.eO,PT.get_nil]
open Classical in
theorem yK {f e k:Nat}(hm:P0.follows .mixedOrders=true)(hI1:nf P0 I1)(im:∀args s,I1 f args s=none)(qx:gM P0 f=true)(hA:Yn f e k)(hB:Ym f e k){args:List CV}{st:St}{v:CV}{st':St}(h:mg e k args st=some (.ok v st')):qi P0 f args st v st':=by
 unfold mg at h
 split at h
 ·rename_i b n0 n grow i vb
  split at h
  ·rename_i L ty T tv mb mv
   split at h
   ·rename_i hc;obtain⟨rfl,rfl,hg,kW,hbv,rfl,rfl,hL,Ku,Gl,hT,hn6⟩:=hc;cases h;refine .inl ⟨qx, ?_⟩;intro ρ w args' hw ha;obtain⟨s',t',e1,hs,Dz⟩:=ha.inv;obtain⟨i',ZQ,e2,fv,RY⟩:=Dz.inv;obtain⟨x',t3',e3,Ak,ha4⟩:=RY.inv;obtain⟨r,sz,dp,eX,rfl,hr,q1,q2,q3,q4⟩:=hs.eH;obtain⟨rv,szv,atF,ayp,rfl,hrv,_⟩:=Ak.eH;have Bf:1<=n:=by omega
    have ho:dp=0:=q1 (by omega);subst ho;obtain⟨q5,_⟩:=q4 (by omega);have sY:b<st.next:=hw.fresh b _ hr;have hvl:vb<st.next:=hw.fresh vb _ hrv;have Dy:b≠st.next:=by omega
    have Rp:∀q,(St.mk ((PT.nil.put b (st.mem.get b)).put vb (st.mem.get vb)) st.next).mem.get q=if q=vb then st.mem.get vb else if q=b then st.mem.get b else none:=fun q=>PT.Sa b vb q _ _
    generalize hsd:(St.mk ((PT.nil.put b (st.mem.get b)).put vb (st.mem.get vb)) st.next)=sm at Rp;have HA:sm.next=st.next:=by rw[<-hsd]
    have smb:sm.mem.get b=some (.cells L tv true):=by rw[Rp,aAH hbv,aAI rfl,mb]
    have smv:sm.mem.get vb=some (.cells T tv false):=by rw[Rp,aAI rfl,mv]
    have sW:∀q x,ρ q=some x->sm.mem.get q=st.mem.get q\/sm.mem.get q=none:=fun q x _=>by
     rw[Rp]
     by_cases e1:q=vb
     ·subst e1;rw[aAI rfl];exact .inl rfl
     ·rw[aAH e1]
      by_cases e2:q=b
      ·subst e2;rw[aAI rfl];exact .inl rfl
      ·rw[aAH e2];exact .inr rfl
    have hws:WR ρ sm w:=hw.sub sW HA
    by_cases Ff:eX=n
    ·
      subst Ff;obtain⟨vA,xT,⟨_,Vw⟩,rfl,a2,a3,a4⟩:=ot.Vt hm hI1 (im _ _) (hA eX i b vb L T sm smb smv (by omega) (by omega) hL hT kW hn6 Ku Gl);have tr:VR ρ (.slice b 0 eX eX 0) (.slice (some ⟨r,0,none⟩) eX eX):= .slice _ _ _ _ r sz hr;refine(Vw ρ w args' hws (by rw[e1];exact eu.cons tr Dz)).mono ?_;rintro ee w' ⟨v',ρ',rfl,hv,HS⟩;rw[HA]at hv a2 a3 a4;refine⟨v',ρ',rfl,hv, ?_⟩
      have iE:bf ρ st w ρ' ⟨(st.mem.put b (xT.mem.get b)).put st.next (some (.cells (L.take (i*grow)++(T++L.drop (i*grow))) tv true)),st.next+1⟩ w':=by
       refine bf.frame (s:=sm) hw HA sW HS a2.symm fun q x hx=> ?_;show((st.mem.put b (xT.mem.get b)).put st.next _).get q=_\/_;rw[PT.eO,PT.eO]
       by_cases f1:q=st.next
       ·subst f1;rw[aAI rfl];exact .inl a3.symm
       ·rw[aAH f1]
        by_cases f2:q=b
        ·subst f2;rw[aAI rfl];exact .inl rfl
        ·rw[aAH f2]
         by_cases f3:q=vb
         ·subst f3;left;rw[a4 q f1,smv,mv]
         ·right;refine⟨?_,by rw[Rp,aAH f3,aAH f2],rfl⟩;cases hq:ρ q with
          |some y=>exact⟨y,rfl⟩
          |none=>
           have hlt:=HS.wr.fresh q x hx;rw[a2]at hlt;have:=HS.Jt q (by omega) hq;rw[this]at hx;cases hx
      refine(iE.trans (bf.drop iE.wr b)).qS (fun q x hx=> ?_) rfl;show((st.mem.put b none).put st.next _).get q=(((st.mem.put b (xT.mem.get b)).put st.next _).put b none).get q;rw[PT.eO,PT.eO,PT.eO,PT.eO,PT.eO]
      by_cases f1:q=st.next
      ·subst f1;rw[aAI rfl,aAI rfl,aAH (fun e=>Dy e.symm)]
      ·rw[aAH f1,aAH f1]
       by_cases f2:q=b
       ·rw[aAI f2,aAI f2]
       ·rw[aAH f2,aAH f2,aAH f2]
    ·
      obtain⟨vB,ZS,⟨_,okB⟩,rfl,b2,b3,b4⟩:=ot.Vt hm hI1 (im _ _) (hB n i b vb L T sm smb smv hbv hL hT kW hn6 Ku Gl);have tr:VR ρ (.slice b 0 n (n+1) grow) (.slice (some ⟨r,0,none⟩) n eX):= .nk _ _ 0 _ _ eX grow r sz hr (by omega) (by omega) (by omega) (fun _=>rfl) (by simpa using q5);refine(okB ρ w args' hws (by rw[e1];exact eu.cons tr Dz)).mono ?_;rintro ee w' ⟨v',ρ',rfl,hv,HS⟩;have zN:=HS.ext _ _ hr;obtain⟨r2,sz2,aix,aea,rfl,Be,p1,p2,p3,p4⟩:=hv.eH;rw[zN]at Be;cases Be;have ho2:aix=0:=p1 (by omega);subst ho2;obtain⟨p5,_⟩:=p4 (by omega)
      have iE:bf ρ st w ρ' ⟨st.mem.put b (ZS.mem.get b),st.next⟩ w':=by
       refine bf.frame (s:=sm) hw HA sW HS (by show st.next=_;rw[b2,HA]) fun q x hx=> ?_;show(st.mem.put b (ZS.mem.get b)).get q=_\/_;rw[PT.eO]
       by_cases f2:q=b
       ·subst f2;rw[aAI rfl];exact .inl rfl
       ·rw[aAH f2]
        by_cases f3:q=vb
        ·subst f3;left;rw[b4 q f2,smv,mv]
        ·right;refine⟨?_,by rw[Rp,aAH f3,aAH f2],rfl⟩;cases hq:ρ q with
         |some y=>exact⟨y,rfl⟩
         |none=>
          have hlt:=HS.wr.fresh q x hx;rw[b2,HA]at hlt;have:=HS.Jt q (by omega) hq;rw[this]at hx;cases hx
      generalize hR:L.take (i*grow)++(T++L.drop (i*grow))=RB at*
      have hmB:(St.mk (st.mem.put b (ZS.mem.get b)) st.next).mem.get b=some (.cells RB tv true):=by
       show(st.mem.put b (ZS.mem.get b)).get b=_;rw[PT.cI,b3]
      obtain⟨o,ho1,ho2⟩:=iE.wr.at' b _ r sz hmB zN
      have hle:ρ'.le (ρ'.set st.next (r,sz)):=fun q x hx=>by
       have:=iE.wr.fresh q x hx;rw[Ren.dt _ _ _ _ (fun e=>by rw[e]at this;exact absurd this (Nat.lt_irrefl _))];exact hx
      have PN:BR (ρ'.set st.next (r,sz)) (.cells RB tv true) o sz:=BR.mono hle ho2;have hmv:=bf.move iE.wr hmB zN ho1 PN (fun _ _=>rfl) rfl rfl rfl;refine⟨_,ρ'.set st.next (r,sz),rfl, ?_,(iE.trans hmv).qS (fun q x hx=> ?_) rfl⟩
      ·exact .nk _ _ 0 _ _ aea grow r sz (Ren.ey _ _ _) (by omega) (aAE _) (by show n+1<=aea;omega) (fun _=>rfl) (by simpa using p5)
      ·show((st.mem.put b none).put st.next _).get q=(((st.mem.put b (ZS.mem.get b)).put b none).put st.next _).get q;rw[PT.eO,PT.eO,PT.eO,PT.eO,PT.eO]
       by_cases f1:q=st.next
       ·rw[aAI f1,aAI f1]
       ·rw[aAH f1,aAH f1]
        by_cases f2:q=b
        ·rw[aAI f2,aAI f2]
        ·rw[aAH f2,aAH f2,aAH f2]
   ·cases h
  ·cases h
 ·cases h
