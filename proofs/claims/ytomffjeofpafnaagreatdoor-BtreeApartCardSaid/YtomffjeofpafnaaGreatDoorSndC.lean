import Derived.Test.YtomffjeofpafnaaGreatDoorSndB
import Derived.Test.YtomffjeofpafnaaGreatDoorWa
import Derived.Lib.Overlaps
import Derived.Laws.Externs
namespace Lim
open Go
noncomputable section
set_option maxRecDepth 100000
open Classical in
def T0 (args:List CV)(st:St):Option OR:=
 match args with
 |[.slice bx _ _ _ _, .slice by' _ _ _ _]=>(match st.mem.get bx,st.mem.get by' with
  |some (.cells _ _ false),some (.cells s _ _)=>if bx≠by'/\1<=s.length then some (.ok (.bool false) st)else none
  |_,_=>none)
 |_=>none
def I1:xx:=fun f args st=>bC (Nat.beq f 102) (T0 args st) (bC (Nat.beq f 181) (T0 args st) none)
structure YO (P:Program)(f:Nat):Prop where
 out:∃(tS tR e:TypeId) (size:Nat),P.underlying tS=some (.slice e)/\(∀w,(Go.sizeOf e).run P w= .ok size w)/\
  ∀(args:Array Value) (w:World),(callFunc f args).run P w=((Extern.SlicesOverlaps.overlaps #[tS,tS] #[tR] args).run P w).andThen fun v w'=> .ok (.value v) w'
section
variable {P:Program} {f:Nat} {st st':St} {v:CV}
theorem Bp (hf:YO P f){args:List CV}(h:T0 args st=some (.ok v st')):qz P f args st v st':=by
 obtain⟨tS,tR,e,size,h1,h2,h3⟩:=hf.out;unfold T0 at h
 split at h
 ·rename_i bx ox lx cx gx by' oy ly cy gy
  split at h
  ·rename_i s1 t1 s2 t2 g2 m1 m2
   split at h
   ·rename_i hc;cases h;refine .inr ⟨rfl,fun ρ w args' hw ha=> ?_⟩;obtain⟨x',t',e1,hx,DS⟩:=ha.inv;obtain⟨y',t2',e2,hy,S0⟩:=DS.inv;have e3:t2'=[]:=by have:=S0.len;simpa using this.symm
    subst e3;subst e2;have e4:args'= #[x',y']:=by rw[<-aCw (xs:=args'),e1]
    subst e4;obtain⟨r1,z1,o1,k1,rfl,UA,_⟩:=hx.eF;obtain⟨r2,z2,o2,k2,rfl,Aj,_⟩:=hy.eF;obtain⟨c1,lo1,FC,a1,a2,a3,a4,a5⟩:=hw.row m1 UA;obtain⟨c2,yW,ur,b1,b2,b3,b4,b5⟩:=hw.row m2 Aj;have hfz:=hw.VS m1 UA a1 rfl;have hrr:r1≠r2:=fun e=>hc.1 (hw.inj bx by' _ _ r1 z1 z2 m1 m2 UA (by rw[e];exact Aj));have hs:=hc.2;refine⟨.bool false, ?_, .bool false⟩
    rw[h3,Lib.run_overlaps_apart w tS tR e h1 size h2 ⟨r1,o1,none⟩ ⟨r2,o2,none⟩ lx k1 ly k2 hrr t1 t2 c1.size c2.size (by simp[World.shape?,a1]) (by simp[World.shape?,b1]) (by omega)
     (by simp only[World.frozen?,a1];have:=hfz o1;simp;omega) (by simp only[World.frozen?,a1];have:=hfz c1.size;simp;omega)]
    rfl
   ·cases h
  ·cases h
 ·cases h
end
section
variable {st:St}
theorem Cp {k b off len cap g l:Nat}(h:l<=len)(hc:len<=cap)(hg:g=0\/g=k)(hlt:l<cap)(s:St):aN k (.slice b off len cap g) (some (I l)) none s= .ok (.slice b (off+l*k) (len-l) (cap-l) g) s:=by
 unfold aN;have e:mS (some (I l)) none len cap=some (l,len):=by rw[ye,aBb h]
 simp only[aM,aBy,e,dE,aBp,aBB,aBS];rw[aBb hc,aAZ (by omega),aBb hg]
 rfl
theorem aat {k b off len cap g h:Nat}(hh:h<=cap)(hc:len<=cap)(hg:g=0\/g=k)(hlt:0<cap)(s:St):aN k (.slice b off len cap g) none (some (I h)) s= .ok (.slice b off h cap g) s:=by
 unfold aN;have e:mS none (some (I h)) len cap=some (0,h):=by rw[sR,aBb hh]
 simp only[aM,aBy,e,dE,aBp,aBB,aBS];rw[aBb hc,aAZ (by omega),aBb hg];simp
def KV (C:aY)(k e bytes:Nat)(z:List CV)(f1 f2:Nat)(a0 a1 a2:CV)(st:St)(Q:CV->St->Prop):Prop:=
 (us (aN k a0 (some a1) none st) fun x1=>
 us (bo .slice a2 st) fun x2=>
 us (aj .eql (some .int) true x2 (.int .i64 0) st) fun x3=>
 aB x3 (
 Q a0 st) (
 us (bo .slice a0 st) fun x4=>
 us (aj .eql (some .int) false a1 x4 st) fun x5=>
 aB x5 (
 upon (bQ e k bytes a0 (dg .slice k z a2 st) st) fun x6 s1=>
 Q x6 s1) (
 us (aj .add (none) false x4 x2 st) fun x7=>
 us (bo .cap a0 st) fun x8=>
 us (aj .gtr (none) false x7 x8 st) fun x9=>
 aB x9 (
 us (aN k a0 none (some a1) st) fun dx=>
 us (aj .add (none) false x4 x2 st) fun dz=>
 us (aj .sub (none) false dz a1 st) fun dI=>
 upon (bQ e k bytes dx (dg .zeros k z dI st) st) fun dw s2=>
 us (aN k dw (some a1) none s2) fun eS=>
 upon (gC false k eS a2 s2) fun eR s3=>
 cn (
 us (aj .add (none) false a1 x2 s3) fun eM=>
 us (aN k dw (some eM) none s3) fun eX=>
 us (aN k a0 (some a1) none s3) fun eD=>
 upon (gC false k eX eD s3) fun eH s4=>
 (True)/\(True)/\
 Q dw s4)) (
 us (aj .add (none) false x4 x2 st) fun eW=>
 us (aN k a0 none (some eW) st) fun eg=>
 us (aj .add (none) false a1 x2 st) fun ft=>
 us (aN k eg (some ft) none st) fun fW=>
 C f1 [a2,fW] st fun gf s5=>
 us (mo .not gf s5) fun gP=>
 aB gP (
 cn (
 us (aj .add (none) false a1 x2 s5) fun iE=>
 us (aN k eg (some iE) none s5) fun iT=>
 us (aN k eg (some a1) none s5) fun ie=>
 upon (gC false k iT ie s5) fun jw s6=>
 (True)/\(True)/\
 us (aN k eg (some a1) none s6) fun jl=>
 upon (gC false k jl a2 s6) fun j7 s7=>
 Q eg s7)) (
 us (aN k eg (some x4) none s5) fun jB=>
 upon (gC false k jB a2 s5) fun kL s8=>
 us (aN k eg (some a1) none s8) fun jM=>
 C f2 [jM,x2] s8 fun jX s9=>
 Q eg s9)))))
theorem Uo (C:aY)(a0 a1 a2:CV)(st:St)(Q:CV->St->Prop):aP P0 C (lvs 51) 51 [a0,a1,a2] st Q=KV C 4 109 48 [(.str []),(.str []),(.int .i64 0),(.int .i64 0)] 102 103 a0 a1 a2 st Q:=by rw[w51];rfl
theorem Ou (C:aY)(a0 a1 a2:CV)(st:St)(Q:CV->St->Prop):aP P0 C (lvs 144) 144 [a0,a1,a2] st Q=KV C 1 3 8 [(.int .i64 0)] 181 182 a0 a1 a2 st Q:=by rw[aab];rfl
theorem DC {k b off len cap g m bs os ls cs gs:Nat}{D:List CV}{ty:Nat}{gd:Bool}{s:St}{t:List CV}(hm:m=min ls len)(K0:0<m)(hc:0<cap)(hs:dH k m (.slice bs os ls cs gs) s=some t)(ho:aX t=true)(hb:s.mem.get b=some (.cells D ty gd)){K:CV->St->Prop}{D':List CV}
 (hw:dR D off t=some D'\/(dR D off t=none/\AQ D off t (off+cap*g)=some D')) (hK:K (I m) (St.set s b (.cells D' ty gd))):upon (gC false k (.slice b off len cap g) (.slice bs os ls cs gs) s) K:=by
 unfold gC;have e0:EX (.slice bs os ls cs gs)=some ls:=rfl;simp only[e0,<-hm];have e1:cellsOf false k m (.slice bs os ls cs gs) s=some t:=hs;rw[e1];simp only[aM,aBB,aBp,aBS,aBy];rw[aAZ (by omega),aBb ⟨ho, .inr hc⟩,hb];rcases hw with h|⟨h1,h2⟩
 ·simp only[h];exact hK
 ·simp only[h1,h2];exact hK
theorem vM {k n b off len cap g:Nat}{L:List CV}{ty:Nat}{gd:Bool}{s:St}(hb:s.mem.get b=some (.cells L ty gd))(hg:g=0\/n<=len)(hn:0<n)(hl:off+n*k<=L.length):dH k n (.slice b off len cap g) s=some ((L.drop off).take (n*k)):=by
 rw[lz,aAZ (by omega),aBb hg,hb];unfold gX;dsimp only;rw[aBb hl]
abbrev R1:=oJ P0 lvs I1
theorem uf {A B T:List CV}{off:Nat}(h:A.length=off)(hb:T.length<=B.length):dR (A++B) off T=some (A++(T++B.drop T.length)):=by
 subst h;unfold dR;rw[aBb (by rw[aAY];omega),aCm rfl,<-aDk,aDn rfl]
theorem Ev (m k:Nat)(z:List CV)(h:z.length=k):(cO m z).length=m*k:=by
 unfold cO;simp[h]
theorem abo {k e bytes f1 f2 n i b vb:Nat}{z L T:List CV}{s:St}(hk:0<k)(qK:k<=4)(hby:bytes<=48)(hz:z.length=k)(hoz:aX z=true)(hb:s.mem.get b=some (.cells L e true))(hv:s.mem.get vb=some (.cells T e false))(FH:b<s.next)(hvn:vb<s.next)(hL:L.length=n*k)(hT:T.length=k)(hi:i<n)(hn:n<=1000000)(ho:aX L=true)(GI:aX T=true):
 KV R1 k e bytes z f1 f2 (.slice b 0 n n 0) (I i) (.slice vb 0 1 1 0) s fun x s'=>x= .slice s.next 0 (n+1) (n+1) k/\s'.next=s.next+1/\s'.mem.get s.next=some (.cells (L.take (i*k)++(T++L.drop (i*k))) e true)/\∀q,q≠s.next->s'.mem.get q=s.mem.get q:=by
 unfold KV;have e1:bo .slice (.slice vb 0 1 1 0) s= .ok (I ((1:Nat):Int)) s:=rfl;have e2:aj .eql (some .int) true (I ((1:Nat):Int)) (.int .i64 0) s= .ok (.bool false) s:=rfl;have e3:bo .slice (.slice b 0 n n 0) s= .ok (I n) s:=rfl;have e4:aj .eql (some .int) false (I i) (I n) s= .ok (.bool false) s:=by rw[av,cB,aAW (by omega)]
 have e5:∀(a c:Nat) s,a<=2000000->c<=2000000->aj .add none false (I a) (I c) s= .ok (I ((a+c:Nat):Int)) s:=fun a c s h1 h2=>by rw[av,cN,bD (by omega)];congr 2
 have e6:bo .cap (.slice b 0 n n 0) s= .ok (I n) s:=rfl;have e7:aj .gtr none false (I ((n+1:Nat):Int)) (I n) s= .ok (.bool true) s:=by rw[av,dj,aBc (by omega)]
 have e8:aj .sub none false (I ((n+1:Nat):Int)) (I i) s= .ok (I ((n+1-i:Nat):Int)) s:=by rw[av,dJ,bD (by omega)];congr 2;omega
 rw[Cp (by omega) (aAU n) (.inl rfl) (by omega),af,e1,af,e2,af,ag,aAZ (by decide),e3,af,e4,af,ag,aAZ (by decide),e5 n 1 s (by omega) (by omega),af,e6,af,e7,af,ag,aBb rfl];rw[aat (by omega) (aAU n) (.inl rfl) (by omega),af,af,e8,af];have FB:i*k<=n*k:=aBM k (by omega);have Dk:(n+1)*k=n*k+k:=by rw[aBZ];omega
 have FC:(i+1)*k=i*k+k:=by rw[aBZ];omega
 have te:(n-i)*k=n*k-i*k:=Nat.sub_mul _ _ _;have abJ:(n+1-i)*k=n*k+k-i*k:=by rw[Nat.sub_mul,Dk]
 have alq:(i+1)*k<=n*k:=aBM k (by omega)
 have AL:dg .zeros k z (I ((n+1-i:Nat):Int)) s=some (n+1-i,cO (n+1-i) z):=by
  have e:dg .zeros k z (I ((n+1-i:Nat):Int)) s=bC (Nat.ble (n+1-i) 1099511627776) (some (n+1-i,cO (n+1-i) z)) none:=rfl;rw[e,aM,aBb (by rw[aBy];omega)]
 have hZ:=Ev (n+1-i) k z hz;generalize hZe:cO (n+1-i) z=Z at AL hZ
 have Pc:bQ e k bytes (.slice b 0 i n 0) (some (n+1-i,Z)) s= .ok (.slice s.next 0 (n+1) (n+1) k) ⟨s.mem.put s.next (some (.cells (L.take (i*k)++Z) e true)),s.next+1⟩:=by
  unfold bQ;have e9:gX L 0 (i*k)=some (L.take (i*k)):=by unfold gX;rw[aBb (by omega),aBx]
  have PR:Nat.add i (n+1-i)=n+1:=by show i+(n+1-i)=n+1;omega
  have ZS:(n+1)*bytes<=(1000001)*48:=aDC (by omega) hby;simp only[aM,aBB,dE,PR,hb,e9,aBp,aBy];rw[aAZ (by omega),aAZ (by omega),aBb ⟨hk,by show(n+1)*bytes<=_;omega,by omega⟩,aBb trivial]
 rw[AL,Pc,aT];generalize L9:(⟨s.mem.put s.next (some (.cells (L.take (i*k)++Z) e true)),s.next+1⟩:St)=s2;have m2:s2.mem.get s.next=some (.cells (L.take (i*k)++Z) e true):=by rw[<-L9];exact PT.cP _ _ _
 have o2:∀q,q≠s.next->s2.mem.get q=s.mem.get q:=fun q hq=>by rw[<-L9];exact PT.cZ _ _ _ _ hq
 have n2:s2.next=s.next+1:=by rw[<-L9]
 have hA:(L.take (i*k)).length=i*k:=by rw[aBh];omega
 rw[Cp (by omega) (aAU (n+1)) (.inr rfl) (by omega),af];refine DC (m:=1) (t:=T) (by omega) (by omega) (by omega) ?_ GI m2 (D':=L.take (i*k)++(T++Z.drop k)) (.inl ?_) ?_
 ·rw[vM (n:=1) ((o2 vb (by omega)).trans hv) (.inl rfl) (by omega) (by omega),aBx,aBa (by omega)]
 ·rw[aAT,uf hA (by omega),hT]
 have e16:=e5 i 1 (St.set s2 s.next (.cells (L.take (i*k)++(T++Z.drop k)) e true)) (by omega) (by omega);rw[bG,e16,af,Cp (by omega) (aAU (n+1)) (.inr rfl) (by omega),af,Cp (by omega) (aAU n) (.inl rfl) (by omega),af];generalize Uw:St.set s2 s.next (.cells (L.take (i*k)++(T++Z.drop k)) e true)=s3;have m3:s3.mem.get s.next=some (.cells (L.take (i*k)++(T++Z.drop k)) e true):=by rw[<-Uw];exact ao _ _ _
 have o3:∀q,q≠s.next->s3.mem.get q=s.mem.get q:=fun q hq=>by rw[<-Uw,ak _ _ _ _ hq];exact o2 q hq
 refine DC (m:=n-i) (t:=L.drop (i*k)) (by omega) (by omega) (by omega) ?_ ?_ m3 (D':=L.take (i*k)++(T++L.drop (i*k))) (.inl ?_) ?_
 ·rw[vM (n:=n-i) ((o3 b (by omega)).trans hb) (.inl rfl) (by omega) (by omega),aAT,aBa (by rw[aBo];omega)]
 ·unfold aX at ho⊢;rw[List.all_eq_true]at ho⊢;exact fun x hx=>ho x (aBG hx)
 ·have hAT:(L.take (i*k)++T).length=0+(i+1)*k:=by rw[aAY,hA,hT];omega
  have hd:List.drop (L.drop (i*k)).length (Z.drop k)=[]:=aBC (by rw[aBo,aBo];omega);rw[<-aBE,uf (T:=L.drop (i*k)) hAT (by rw[aBo,aBo];omega),hd,aBQ,aBE]
 refine⟨trivial,trivial,rfl, ?_,ao _ _ _,fun q hq=> ?_⟩
 ·rw[rh,<-Uw,rh,n2]
 ·rw[ak _ _ _ _ hq];exact o3 q hq
theorem abn {k e bytes f1 f2 n i b vb:Nat}{z L T:List CV}{s:St}(kg:∀args s x s',T0 args s=some (.ok x s')->∀Q,Q x s'->R1 f1 args s Q)(hk:0<k)(qK:k<=4)(hb:s.mem.get b=some (.cells L e true))(hv:s.mem.get vb=some (.cells T e false))(gT:b≠vb)(hL:L.length=n*k)(hT:T.length=k)(hi:i<n)(hn:n<=1000000)(ho:aX L=true)(GI:aX T=true):
 KV R1 k e bytes z f1 f2 (.slice b 0 n (n+1) k) (I i) (.slice vb 0 1 1 0) s fun x s'=>x= .slice b 0 (n+1) (n+1) k/\s'.next=s.next/\s'.mem.get b=some (.cells (L.take (i*k)++(T++L.drop (i*k))) e true)/\∀q,q≠b->s'.mem.get q=s.mem.get q:=by
 unfold KV;have e1:bo .slice (.slice vb 0 1 1 0) s= .ok (I ((1:Nat):Int)) s:=rfl;have e2:aj .eql (some .int) true (I ((1:Nat):Int)) (.int .i64 0) s= .ok (.bool false) s:=rfl;have e3:bo .slice (.slice b 0 n (n+1) k) s= .ok (I n) s:=rfl;have e4:aj .eql (some .int) false (I i) (I n) s= .ok (.bool false) s:=by rw[av,cB,aAW (by omega)]
 have e5:∀(a c:Nat) s,a<=2000000->c<=2000000->aj .add none false (I a) (I c) s= .ok (I ((a+c:Nat):Int)) s:=fun a c s h1 h2=>by rw[av,cN,bD (by omega)];congr 2
 have e6:bo .cap (.slice b 0 n (n+1) k) s= .ok (.gO (n+1)) s:=by
  have:bo .cap (.slice b 0 n (n+1) k) s=bC (Nat.beq k 0) (ya .i64 s (n+1)) (.ok (.gO (n+1)) s):=rfl;rw[this,aM,aAZ (by rw[aBB];omega)]
 have e7:aj .gtr none false (I ((n+1:Nat):Int)) (.gO (n+1)) s= .ok (.bool false) s:=by
  have:aj .gtr none false (I ((n+1:Nat):Int)) (.gO (n+1)) s=bC (decide (((n+1:Nat):Int)<((n+1:Nat):Int))) .bad (.ok (.bool false) s):=rfl;rw[this,aM,aAZ (by simp)]
 have FB:i*k<=n*k:=aBM k (by omega);have Dk:(n+1)*k=n*k+k:=by rw[aBZ];omega
 have FC:(i+1)*k=i*k+k:=by rw[aBZ];omega
 have te:(n-i)*k=n*k-i*k:=Nat.sub_mul _ _ _;have abJ:(n+1-i)*k=n*k+k-i*k:=by rw[Nat.sub_mul,Dk]
 have apW:(n+1-(i+1))*k=n*k-i*k:=by rw[<-te];congr 1;omega
 have alq:(i+1)*k<=n*k:=aBM k (by omega);rw[Cp (by omega) (by omega) (.inr rfl) (by omega),af,e1,af,e2,af,ag,aAZ (by decide),e3,af,e4,af,ag,aAZ (by decide),e5 n 1 s (by omega) (by omega),af,e6,af,e7,af,ag,aAZ (by decide)];rw[af,aat (by omega) (by omega) (.inr rfl) (by omega),af,e5 i 1 s (by omega) (by omega),af,Cp (by omega) (aAU _) (.inr rfl) (by omega),af];refine kg _ _ (.bool false) s ?_ _ ?_
 ·unfold T0;simp only[hv,hb];rw[aBb ⟨gT.symm,by have:0<n*k:=Nat.mul_pos (by omega) hk;omega⟩]
 rw[du,af,ag,aBb (show(!false)=true from rfl),bG,e5 i 1 s (by omega) (by omega),af,Cp (by omega) (aAU _) (.inr rfl) (by omega),af,Cp (by omega) (aAU _) (.inr rfl) (by omega),af];have hA:(L.take (i*k)).length=i*k:=by rw[aBh];omega
 refine DC (m:=n-i) (t:=L.drop (i*k)) (by omega) (by omega) (by omega) ?_ ?_ hb (D':=L.take ((i+1)*k)++L.drop (i*k)) (.inr ⟨?_, ?_⟩) ?_
 ·rw[vM (n:=n-i) hb (.inr (by omega)) (by omega) (by omega),aAT,aBa (by rw[aBo];omega)]
 ·unfold aX at ho⊢;rw[List.all_eq_true]at ho⊢;exact fun x hx=>ho x (aBG hx)
 ·unfold dR;rw[aAZ (by rw[aBo];omega)]
 ·unfold AQ;rw[aAT,aBb ⟨by omega,by rw[aBo];omega,by rw[aBo];omega⟩]
 generalize Uw:St.set s b (.cells (L.take ((i+1)*k)++L.drop (i*k)) e true)=s3;have m3:s3.mem.get b=some (.cells (L.take ((i+1)*k)++L.drop (i*k)) e true):=by rw[<-Uw];exact ao _ _ _
 have o3:∀q,q≠b->s3.mem.get q=s.mem.get q:=fun q hq=>by rw[<-Uw,ak _ _ _ _ hq]
 refine⟨trivial,trivial, ?_⟩;rw[Cp (by omega) (aAU _) (.inr rfl) (by omega),af];refine DC (m:=1) (t:=T) (by omega) (by omega) (by omega) ?_ GI m3 (D':=L.take (i*k)++(T++L.drop (i*k))) (.inl ?_) ?_
 ·rw[vM (n:=1) ((o3 vb (fun e=>gT e.symm)).trans hv) (.inl rfl) (by omega) (by omega),aBx,aBa (by omega)]
 ·have e:L.take ((i+1)*k)=L.take (i*k)++(L.drop (i*k)).take k:=by rw[FC,List.take_add]
  rw[e,aBE,aAT,uf hA (by simp only[aAY,aBh,aBo];omega),hT,aDn (by rw[aBh,aBo];omega)]
 refine⟨rfl, ?_,ao _ _ _,fun q hq=> ?_⟩
 ·rw[rh,<-Uw,rh]
 ·rw[ak _ _ _ _ hq];exact o3 q hq
end
section
variable {P:Program} {lvs:Nat->Nat->Option (List Nat)} {I:xx}
theorem oJ.V2 (hm:P.follows .mixedOrders=true)(hI:mZ P I){f:Nat}{args:List CV}{st:St}{Q:CV->St->Prop}(hn:I f args st=none)(h:oJ P lvs I f args st Q):∃v st',(gN P f=true/\DN P f args st v st')/\Q v st':=by
 obtain⟨v,st',⟨N,hN⟩,hq⟩:=h;have h1:=hN (N+1) (by omega);unfold RF at h1;simp only[Ax,hn]at h1;exact⟨v,st',vG (yC (nm hm) hI N) (nm hm) h1,hq⟩
end
def YT (f e k:Nat):Prop:=∀(n i b vb:Nat) (L T:List CV) (s:St),s.mem.get b=some (.cells L e true)->s.mem.get vb=some (.cells T e false)->b<s.next->vb<s.next->L.length=n*k->T.length=k->i<n->n<=1000000->aX L=true->aX T=true->
 R1 f [.slice b 0 n n 0,Lim.I i, .slice vb 0 1 1 0] s fun x s'=>x= .slice s.next 0 (n+1) (n+1) k/\s'.next=s.next+1/\s'.mem.get s.next=some (.cells (L.take (i*k)++(T++L.drop (i*k))) e true)/\∀q,q≠s.next->s'.mem.get q=s.mem.get q
def YS (f e k:Nat):Prop:=∀(n i b vb:Nat) (L T:List CV) (s:St),s.mem.get b=some (.cells L e true)->s.mem.get vb=some (.cells T e false)->b≠vb->L.length=n*k->T.length=k->i<n->n<=1000000->aX L=true->aX T=true->
 R1 f [.slice b 0 n (n+1) k,Lim.I i, .slice vb 0 1 1 0] s fun x s'=>x= .slice b 0 (n+1) (n+1) k/\s'.next=s.next/\s'.mem.get b=some (.cells (L.take (i*k)++(T++L.drop (i*k))) e true)/\∀q,q≠b->s'.mem.get q=s.mem.get q
open Classical in
theorem PT.Th (b vb q:Nat)(x y:Option qS):((PT.nil.put b x).put vb y).get q=if q=vb then y else if q=b then x else none:=by
 rw[PT.eO,PT.eO,PT.get_nil]
open Classical in
theorem zh {f e k:Nat}(hm:P0.follows .mixedOrders=true)(hI1:mZ P0 I1)(iq:∀args s,I1 f args s=none)(oF:gN P0 f=true)(hA:YT f e k)(hB:YS f e k){args:List CV}{st:St}{v:CV}{st':St}(h:l4 e k args st=some (.ok v st')):qz P0 f args st v st':=by
 unfold l4 at h
 split at h
 ·rename_i b n0 n grow i vb
  split at h
  ·rename_i L ty T tv mb mv
   split at h
   ·rename_i hc;obtain⟨rfl,rfl,hg,jx,hbv,rfl,rfl,hL,KY,GI,hT,hn6⟩:=hc;cases h;refine .inl ⟨oF, ?_⟩;intro ρ w args' hw ha;obtain⟨s',t',e1,hs,DS⟩:=ha.inv;obtain⟨i',t2',e2,fw,S0⟩:=DS.inv;obtain⟨x',t3',e3,AJ,ha4⟩:=S0.inv;obtain⟨r,sz,df,eZ,rfl,hr,q1,q2,q3,q4⟩:=hs.eF;obtain⟨rv,szv,atP,ayE,rfl,hrv,_⟩:=AJ.eF;have Dk:1<=n:=by omega
    have ho:df=0:=q1 (by omega);subst ho;obtain⟨q5,_⟩:=q4 (by omega);have tk:b<st.next:=hw.fresh b _ hr;have Sm:vb<st.next:=hw.fresh vb _ hrv;have FH:b≠st.next:=by omega
    have Sq:∀q,(St.mk ((PT.nil.put b (st.mem.get b)).put vb (st.mem.get vb)) st.next).mem.get q=if q=vb then st.mem.get vb else if q=b then st.mem.get b else none:=fun q=>PT.Th b vb q _ _
    generalize hsd:(St.mk ((PT.nil.put b (st.mem.get b)).put vb (st.mem.get vb)) st.next)=sm at Sq;have HT:sm.next=st.next:=by rw[<-hsd]
    have smb:sm.mem.get b=some (.cells L tv true):=by rw[Sq,aAZ hbv,aBb rfl,mb]
    have smv:sm.mem.get vb=some (.cells T tv false):=by rw[Sq,aBb rfl,mv]
    have te:∀q x,ρ q=some x->sm.mem.get q=st.mem.get q\/sm.mem.get q=none:=fun q x _=>by
     rw[Sq]
     by_cases e1:q=vb
     ·subst e1;rw[aBb rfl];exact .inl rfl
     ·rw[aAZ e1]
      by_cases e2:q=b
      ·subst e2;rw[aBb rfl];exact .inl rfl
      ·rw[aAZ e2];exact .inr rfl
    have hws:WR ρ sm w:=hw.sub te HT
    by_cases FF:eZ=n
    ·
      subst FF;obtain⟨vA,yp,⟨_,V5⟩,rfl,a2,a3,a4⟩:=oJ.V2 hm hI1 (iq _ _) (hA eZ i b vb L T sm smb smv (by omega) (by omega) hL hT jx hn6 KY GI);have tD:VR ρ (.slice b 0 eZ eZ 0) (.slice (some ⟨r,0,none⟩) eZ eZ):= .slice _ _ _ _ r sz hr;refine(V5 ρ w args' hws (by rw[e1];exact eu.cons tD DS)).mono ?_;rintro ee w' ⟨v',ρ',rfl,hv,Io⟩;rw[HT]at hv a2 a3 a4;refine⟨v',ρ',rfl,hv, ?_⟩
      have jy:bf ρ st w ρ' ⟨(st.mem.put b (yp.mem.get b)).put st.next (some (.cells (L.take (i*grow)++(T++L.drop (i*grow))) tv true)),st.next+1⟩ w':=by
       refine bf.frame (s:=sm) hw HT te Io a2.symm fun q x hx=> ?_;show((st.mem.put b (yp.mem.get b)).put st.next _).get q=_\/_;rw[PT.eO,PT.eO]
       by_cases f1:q=st.next
       ·subst f1;rw[aBb rfl];exact .inl a3.symm
       ·rw[aAZ f1]
        by_cases f2:q=b
        ·subst f2;rw[aBb rfl];exact .inl rfl
        ·rw[aAZ f2]
         by_cases f3:q=vb
         ·subst f3;left;rw[a4 q f1,smv,mv]
         ·right;refine⟨?_,by rw[Sq,aAZ f3,aAZ f2],rfl⟩;cases hq:ρ q with
          |some y=>exact⟨y,rfl⟩
          |none=>
           have hlt:=Io.wr.fresh q x hx;rw[a2]at hlt;have:=Io.JP q (by omega) hq;rw[this]at hx;cases hx
      refine(jy.trans (bf.drop jy.wr b)).re (fun q x hx=> ?_) rfl;show((st.mem.put b none).put st.next _).get q=(((st.mem.put b (yp.mem.get b)).put st.next _).put b none).get q;rw[PT.eO,PT.eO,PT.eO,PT.eO,PT.eO]
      by_cases f1:q=st.next
      ·subst f1;rw[aBb rfl,aBb rfl,aAZ (fun e=>FH e.symm)]
      ·rw[aAZ f1,aAZ f1]
       by_cases f2:q=b
       ·rw[aBb f2,aBb f2]
       ·rw[aAZ f2,aAZ f2,aAZ f2]
    ·
      obtain⟨vB,stB,⟨_,okB⟩,rfl,b2,b3,b4⟩:=oJ.V2 hm hI1 (iq _ _) (hB n i b vb L T sm smb smv hbv hL hT jx hn6 KY GI);have tD:VR ρ (.slice b 0 n (n+1) grow) (.slice (some ⟨r,0,none⟩) n eZ):= .nj _ _ 0 _ _ eZ grow r sz hr (by omega) (by omega) (by omega) (fun _=>rfl) (by simpa using q5);refine(okB ρ w args' hws (by rw[e1];exact eu.cons tD DS)).mono ?_;rintro ee w' ⟨v',ρ',rfl,hv,Io⟩;have Ak:=Io.ext _ _ hr;obtain⟨r2,sz2,aiR,aeH,rfl,Aj,p1,p2,p3,p4⟩:=hv.eF;rw[Ak]at Aj;cases Aj;have ho2:aiR=0:=p1 (by omega);subst ho2;obtain⟨p5,_⟩:=p4 (by omega)
      have jy:bf ρ st w ρ' ⟨st.mem.put b (stB.mem.get b),st.next⟩ w':=by
       refine bf.frame (s:=sm) hw HT te Io (by show st.next=_;rw[b2,HT]) fun q x hx=> ?_;show(st.mem.put b (stB.mem.get b)).get q=_\/_;rw[PT.eO]
       by_cases f2:q=b
       ·subst f2;rw[aBb rfl];exact .inl rfl
       ·rw[aAZ f2]
        by_cases f3:q=vb
        ·subst f3;left;rw[b4 q f2,smv,mv]
        ·right;refine⟨?_,by rw[Sq,aAZ f3,aAZ f2],rfl⟩;cases hq:ρ q with
         |some y=>exact⟨y,rfl⟩
         |none=>
          have hlt:=Io.wr.fresh q x hx;rw[b2,HT]at hlt;have:=Io.JP q (by omega) hq;rw[this]at hx;cases hx
      generalize hR:L.take (i*grow)++(T++L.drop (i*grow))=RB at*
      have hmB:(St.mk (st.mem.put b (stB.mem.get b)) st.next).mem.get b=some (.cells RB tv true):=by
       show(st.mem.put b (stB.mem.get b)).get b=_;rw[PT.cP,b3]
      obtain⟨o,ho1,ho2⟩:=jy.wr.at' b _ r sz hmB Ak
      have hle:ρ'.le (ρ'.set st.next (r,sz)):=fun q x hx=>by
       have:=jy.wr.fresh q x hx;rw[Ren.dp _ _ _ _ (fun e=>by rw[e]at this;exact absurd this (Nat.lt_irrefl _))];exact hx
      have QW:BR (ρ'.set st.next (r,sz)) (.cells RB tv true) o sz:=BR.mono hle ho2;have hmv:=bf.move jy.wr hmB Ak ho1 QW (fun _ _=>rfl) rfl rfl rfl;refine⟨_,ρ'.set st.next (r,sz),rfl, ?_,(jy.trans hmv).re (fun q x hx=> ?_) rfl⟩
      ·exact .nj _ _ 0 _ _ aeH grow r sz (Ren.eA _ _ _) (by omega) (aAU _) (by show n+1<=aeH;omega) (fun _=>rfl) (by simpa using p5)
      ·show((st.mem.put b none).put st.next _).get q=(((st.mem.put b (stB.mem.get b)).put b none).put st.next _).get q;rw[PT.eO,PT.eO,PT.eO,PT.eO,PT.eO]
       by_cases f1:q=st.next
       ·rw[aBb f1,aBb f1]
       ·rw[aAZ f1,aAZ f1]
        by_cases f2:q=b
        ·rw[aBb f2,aBb f2]
        ·rw[aAZ f2,aAZ f2,aAZ f2]
   ·cases h
  ·cases h
 ·cases h
