import Derived.Test.YtnahbemmgcjojaaGreatDoorGr23
import Derived.Test.YtnahbemmgcjojaaGreatDoorGr05
import Derived.Test.YtnahbemmgcjojaaGreatDoorGr18
import Derived.Test.YtnahbemmgcjojaaGreatDoorGr21
import Derived.Test.YtnahbemmgcjojaaGreatDoorGr22
namespace Lim
open Go
noncomputable section
set_option maxRecDepth 100000
section
variable {st st':St}
theorem GD (L:List cU):∀x∈L.map ik,x.length=2:=by
 intro x hx;obtain⟨c,_,rfl⟩:=agJ.1 hx;rfl
end
section
variable {st st':St}
theorem LI (fr to:dS)(p:cU):ua fr to p=(decide (nE fr p.1)&&(decide (to=[])||decide (jq p.1 to))):=by
 unfold ua nE
 by_cases h:jq p.1 fr<;>simp[h]
end
section
variable {τ:Nat} {π:PI} {st st':St} {L Lk:List cU} {T N fr:Nat}
theorem nT.zH (h:nT τ π st L Lk T N fr):∀b∈own τ π,b<st.next:=by
 obtain⟨⟨G,Gk,ht,hL,hk,Jf,IM,yd⟩,hc,hl⟩:=h;intro b hb;obtain⟨r,h1,h2,h3⟩:=hk.log;unfold own at hb;rw[h1]at hb;rcases age.1 hb with h|h
 ·rw[h];exact ht.lt
 ·rcases agz.1 h with h|h
  ·have h:b=r:=by simpa using h
   omega
  ·exact ht.pg.lt b h
theorem nT.off {X:List Nat}(h:nT τ π st L Lk T N fr)(hk:Kp X st st')(hx:∀b∈own τ π,b∉X):nT τ π st' L Lk T N fr:=by
 have hlt:=h.zH;have Qp:=fun b hb=>hk.keep b (hlt b hb) (hx b hb);obtain⟨⟨G,Gk,ht,hL,CF,Jf,IM,yd⟩,hc,hl⟩:=h;obtain⟨ty,g,hg⟩:=ht.get;obtain⟨r,h1,h2,h3⟩:=CF.log;refine⟨⟨G,Gk,⟨ht.pg.keep hk fun b hb=>hx b (o7 hb),ago ht.lt hk.next,ht.not,⟨ty,g,(hk.keep τ ht.lt (hx τ (by simp[own]))).trans hg⟩,hk.fresh ht.fr⟩,hL,CF.keep hk fun r' e=>hx r' (by unfold own;rw[e];simp),Jf,IM,yd⟩,hc,hl⟩
end
section
variable {τ:Nat} {π:PI} {st st':St} {L Lk:List cU} {T N fr:Nat}
theorem Made.oE {x:CV}{ty:Nat}{l:List CV}{s s':St}(h:Made 2 ty l s x s'){X:List Nat}(hX:∀q∈X,q<s.next):Kp [] s s'/\Sl s' X x 2 l:=by
 obtain⟨F,h1,h2,h3⟩:=h;exact⟨h1,h2.sl fun b hb=>⟨fun hh=>by have:=hX b hh;have:=(h3 b hb).1;omega,(h3 b hb).2⟩⟩
end
section
variable {τ:Nat} {π:PI} {st st':St} {L Lk:List cU} {T N fr c:Nat}
theorem gG.VW {Gk:GM}(h:gG π st Gk T):Gk.fc=[]:=by
 obtain⟨⟨base,last,P,Ls,r,so,_⟩,_⟩:=h;exact so.rep.fc.symm
theorem M0 {π:PI}{Gk:GM}(hp:Pg π st Gk)(hf:dw st)(hk:gG π st Gk T)(hL:jj Gk Lk)(hc:Calm π.D)(hl:π.D.ar.length=N):R 57 [.ptr π.p 0] st fun v st'=>∃τ,v= .ptr τ 0/\st.next<=τ/\Kp [] st st'/\sZ 0 τ π st' Lk Lk T N Gk.sD:=by
 refine(Gl hp hf).mono ?_;rintro v s1 ⟨rfl,k1,t⟩;exact⟨_,rfl,aga _,k1,⟨Gk,Gk,t,hL,hk.still k1,hL,rfl,rfl,by rw[hk.VW];exact aga _⟩,hc,hl⟩
end
theorem M3 {τ:Nat}{π:PI}{st:St}{L Lk:List cU}{T N fr:Nat}(h:nT τ π st L Lk T N fr):R 47 [.ptr π.a 0] st fun v st'=>v=I N/\st'=st:=by
 obtain⟨⟨G,Gk,ht,hL,hk,Jf,IM,rfl⟩,hc,hl⟩:=h;obtain⟨M,h1,h2,h3,_⟩:=ht.pg;rw[<-hl];exact qb h3
section
variable {st st':St}
theorem Gj {τ:Nat}{π:PI}{L Lk:List cU}{T N fr:Nat}(h:nT τ π st L Lk T N fr)(a b:dS):R 75 [.ptr τ 0, .str a, .str b] st fun y st'=>∃x,y= .tuple [x,I 0]/\Kp [] st st'/\Sl st' [] x 2 (fT (L.filter (ua a b))):=by
 obtain⟨⟨G,Gk,ht,hL,_⟩,_⟩:=h;refine(Dx ht hL a b).mono ?_;rintro y s ⟨x,rfl,hx⟩;obtain⟨k,hs⟩:=hx.oE (X:=[]) (by simp);exact⟨x,rfl,k,hs⟩
end
abbrev Nm:=Int×dS
structure MK where
 sp:Int
 key:dS
 val:List UInt8
 gone:Bool
def MK.nm (c:MK):Nm:=(c.sp,c.key)
def yJ (p:Nm):Prop:=(0<=p.1/\p.1<256)/\p.2.length<=47
def MK.ok (c:MK):Prop:=yJ c.nm/\c.val.length<=8192/\(c.gone=true->c.val=[])
instance (p:Nm):Decidable (yJ p):=by unfold yJ;infer_instance
instance (c:MK):Decidable c.ok:=by unfold MK.ok;infer_instance
def FV (p:Nm):dS:=UInt8.ofNat p.1.toNat::p.2
theorem Z9 (C:aN)(a:CV)(st:St)(Q:CV->St->Prop):aH P0 C (lvs 13) 13 [a] st Q=(C 28 [a] st fun d b=>us (aB d 0 b) fun f=>us (aB d 1 b) fun g=>C 29 [a,f,g] b fun e c=>us (aB e 0 c) fun h=>us (aB e 1 c) fun i=>Q (.tuple [h,i]) c):=by kernel_rfl
theorem ZN (C:aN)(f g w q:CV)(st:St)(Q:CV->St->Prop):aH P0 C (lvs 38) 38 [f,g,w,q] st Q=(us (bf [(I 0),(.str [])] [(0,1,g),(1,1,w)] st) fun K=>us (bf [(I 0),(.str [])] [(0,1,g),(1,1,q)] st) fun L=>upon (dd 183 [(I 0),(.str [])] st) fun h M=>upon (dd 183 [(I 0),(.str [])] M) fun r N=>upon (aT 2 h K N) fun _ O=>upon (aT 2 r L O) fun _ l=>us (ai .eql (some .ptr) true f .aC l) fun P=>aD P (Q (.tuple [.aa,(I 2)]) l) (us (aP 2 h l) fun S=>C 73 [S] l fun T i=>us (fA .not T i) fun m=>us (aS (ag false m) i (aP 2 r i)) fun U=>cb (ag false m) i (fun k=>C 73 [U] i k) fun V d=>us (aS (ag false m) d (fA .not V d)) fun W=>us (aK m (.bool true) W d) fun X=>aD X (Q (.tuple [.aa,(I 1)]) d) (us (aP 2 r d) fun Y=>C 74 [Y] d fun Z b=>cN (fun s j=>cd (us (cz (ak 0 s) j) fun a0=>us (al 0 a0 j) fun x=>us (aw x j) fun y=>us (aP 2 (ak 1 s) j) fun a1=>C 74 [a1] j fun a2 z=>C 75 [y,a2,(ak 2 s)] z fun A e=>us (aB A 0 e) fun B=>us (aB A 1 e) fun D=>(((us (aw x z) fun v=>v=y)/\True)/\(True)/\True)/\(True)/\us (ai .neq (some .int) true D (I 0) e) fun a3=>aD a3 (Q (.tuple [.aa,D]) e) (cN (fun n a4=>cf (fun a o a5=>us (ai .lss (none) false (ak 3 a) (ak 2 a) o) fun a6=>aD a6 (jh 2 2 (ak 1 a) (ak 3 a) o fun a7=>upon (dd 188 [(.str []),(.str [])] o) fun t a8=>upon (aT 2 t a7 a8) fun _ c=>cd (us (al 0 t (St.skip c)) fun E=>us (aw E (St.skip c)) fun F=>us (fK F (some (I 1)) none (St.skip c)) fun a9=>us (al 1 t (St.skip c)) fun G=>us (aw G (St.skip c)) fun H=>
 us (bf [(.str []),(.str [])] [(0,1,a9),(1,1,H)] (St.skip c)) fun b0=>upon (dW c.next 96 1 (cM 1 [(.str []),(.str [])]) [(0,2,b0)] (St.skip c)) fun b1 p=>upon (cy 96 2 32 (ak 0 a) (dJ .slice 2 [(.str []),(.str [])] b1 p) p) fun b2 J=>(((us (aw E p) fun v=>v=F)/\True)/\((us (aw G p) fun v=>v=H)/\True)/\True)/\((True)/\True)/\us (ai .add (none) true (ak 3 a) (I 1) J) fun b3=>a5 [b2,(ak 1 a),(ak 2 a),b3] J)) (Q (.tuple [(ak 0 a),(I 0)]) o)) [(ak 0 n),(ak 1 n),(ak 2 n),(ak 3 n)] a4) fun b4=>us (bO .slice B e) fun b5=>b4 [.aa,B,b5,(I 0)] e))) fun u=>us (ai .eql (some .str) true q (.str []) b) fun b6=>aD b6 (us (ai .add (none) true g (I 1) b) fun b7=>us (ai .lss (none) true b7 (I 256) b) fun b8=>aD b8 (us (ai .add (none) true g (I 1) b) fun b9=>us (bf [(I 0),(.str [])] [(0,1,b9),(1,1,(.str []))] b) fun c0=>C 74 [c0] b fun c1 c2=>u [f,h,c1] c2) (u [f,h,(.str [])] b)) (u [f,h,Z] b)))):=by kernel_rfl
theorem Z8 (C:aN)(a:CV)(st:St)(Q:CV->St->Prop):aH P0 C (lvs 14) 14 [a] st Q=(C 30 [a] st fun d b=>us (aB d 0 b) fun f=>us (aB d 1 b) fun g=>C 29 [a,f,g] b fun e c=>us (aB e 0 c) fun h=>us (aB e 1 c) fun i=>Q (.tuple [h,i]) c):=by kernel_rfl
theorem Wh (C:aN)(c d a:CV)(st:St)(Q:CV->St->Prop):aH P0 C (lvs 29) 29 [c,d,a] st Q=(us (ai .neq (some .int) true a (I 0) st) fun e=>aD e (Q (.tuple [.aC,a]) st) (C 57 [d] st fun f g=>C 47 [c] g fun h b=>us (ai .quo (none) true h (I 8) b) fun i=>us (bf [.aC,(I 0)] [(0,1,f),(1,1,i)] b) fun j=>upon (eO 162 j b) fun k l=>Q (.tuple [k,(I 0)]) l)):=by kernel_rfl
theorem Zh (C:aN)(e:CV)(st:St)(Q:CV->St->Prop):aH P0 C (lvs 73) 73 [e] st Q=(upon (eO 183 e st) fun c a=>fl 0 c a fun f=>us (ai .geq (none) true f (I 0) a) fun d=>eu (ag true d) 0 c a fun g=>us (aS (ag true d) a (ai .lss (none) true g (I 256) a)) fun h=>us (aK d h (.bool false) a) fun b=>eu (ag true b) 1 c a fun i=>us (aS (ag true b) a (bO .str i a)) fun j=>us (aS (ag true b) a (ai .leq (none) true j (I 47) a)) fun k=>us (aK b k (.bool false) a) fun l=>Q l a):=by kernel_rfl
theorem Zg (C:aN)(c:CV)(st:St)(Q:CV->St->Prop):aH P0 C (lvs 74) 74 [c] st Q=(upon (eO 183 c st) fun d b=>fl 0 d b fun e=>us (bQ (.toInt .u8) e b) fun f=>upon (bI 5 1 (cM 1 [(.int .u8 0)]) [(0,1,f)] b) fun g a=>us (bQ .strOf g a) fun h=>fl 1 d a fun i=>us (ai .add (none) false h i a) fun j=>Q j a):=by kernel_rfl
def Nu (p:Nm):CV:= .agg [I p.1, .str p.2]
section
variable {st st':St}
theorem Iw (p:Nm):R 73 [Nu p] st fun v s=>v= .bool (decide (yJ p))/\Kp [] st s:=by
 refine bp ?_;rw[Zh,br];refine⟨rfl, ?_⟩;unfold Nu;rw[ba];have k1:Kp [] st (St.new st (.cells [I p.1, .str p.2] 183 false)):=(Kp.refl [] st).new _;have g1:(St.new st (.cells [I p.1, .str p.2] 183 false)).mem.get st.next=some (.cells [I p.1, .str p.2] 183 false):=aG _ _;generalize St.new st (.cells [I p.1, .str p.2] 183 false)=s1 at*;have e3:ai .leq none true (I p.2.length) (.int .i64 47) s1= .ok (.bool (decide (p.2.length<=47))) s1:=by rw[aA,il];congr 2;simp only[ahf];omega
 unfold yJ;simp only[fl,eu,af,ae,av,g1,ao,afZ,afX,au,aA,gJ,aE,ags]
 by_cases h1:0<=p.1
 ·simp only[agi h1,aM,ae,av,g1,ao,afX,au,aA,bK,aF,ags,aE]
  by_cases h2:p.1<256
  ·simp only[agi h2,aM,ae,av,g1,ao,agb,afX,au,xJ,e3,ags];exact⟨by simp[h1,h2],k1⟩
  ·simp only[agc h2,bT,ae,afY,agn];exact⟨by simp[h2],k1⟩
 ·simp only[agc h1,bT,ae,aF,afY,agn,aE];exact⟨by simp[h1],k1⟩
theorem ze {p:Nm}(h:yJ p):R 74 [Nu p] st fun v s=>v= .str (FV p)/\Kp [] st s:=by
 refine bp ?_;rw[Zg,br];refine⟨rfl, ?_⟩;unfold Nu;rw[ba];have k1:Kp [] st (St.new st (.cells [I p.1, .str p.2] 183 false)):=(Kp.refl [] st).new _;have g1:(St.new st (.cells [I p.1, .str p.2] 183 false)).mem.get st.next=some (.cells [I p.1, .str p.2] 183 false):=aG _ _;generalize hs1:St.new st (.cells [I p.1, .str p.2] 183 false)=s1 at*;have n1:s1.next=st.next+1:=by rw[<-hs1];rfl
 obtain⟨⟨h1,h2⟩,h3⟩:=h
 have hb:bQ (.toInt .u8) (I p.1) s1= .ok (bo (UInt8.ofNat p.1.toNat)) s1:=by
  have:=C5 p.1.toNat .i64 s1;rw[Int.toNat_of_nonneg h1,ahv (by omega)]at this;exact this
 simp only[fl,af,ae,av,g1,ao,afZ,afX,au,hb];rw[Fp (k:=1) rfl rfl rfl,bj];have k2:Kp [] s1 (St.new s1 (.cells [bo (UInt8.ofNat p.1.toNat)] 5 false)):=(Kp.refl [] s1).new _;have g2:(St.new s1 (.cells [bo (UInt8.ofNat p.1.toNat)] 5 false)).mem.get s1.next=some (.cells [bo (UInt8.ofNat p.1.toNat)] 5 false):=aG _ _;have g3:(St.new s1 (.cells [bo (UInt8.ofNat p.1.toNat)] 5 false)).mem.get st.next=_:=(k2.keep st.next (by omega) (by simp)).trans g1;have sl:Sl (St.new s1 (.cells [bo (UInt8.ofNat p.1.toNat)] 5 false)) [] (.slice s1.next 0 1 1 0) 1 (aj [UInt8.ofNat p.1.toNat]):= .inr ⟨s1.next,0,1,1,0,rfl,rfl,⟨aga _, .inl rfl⟩, .inr ⟨by simp,by simp,_,_,_,g2,by simp,rfl⟩⟩;have e:CV.bL (bo (UInt8.ofNat p.1.toNat))=[bo (UInt8.ofNat p.1.toNat)]:=rfl;rw[e];generalize St.new s1 (.cells [bo (UInt8.ofNat p.1.toNat)] 5 false)=s2 at*;rw[sl.str,ae,g3,ao];simp only[agb,afX,au]
 have ea:ai .add none false (.str [UInt8.ofNat p.1.toNat]) (.str p.2) s2= .ok (.str (FV p)) s2:=by
  rw[fV];unfold mE;rw[agl (by simp;omega)];rfl
 rw[ea,ae];exact⟨rfl,k1.trans k2 (by simp)⟩
end
structure kX (κ τ:Nat)(π:PI)(st:St)(L Lk:List cU)(T N fr:Nat):Prop where
 tr:nT τ π st L Lk T N fr
 get:st.mem.get κ=some (.cells [.ptr τ 0,I ((N/8:Nat):Int)] 162 false)
 lt:κ<st.next
 not:κ∉own τ π
section
variable {κ τ:Nat} {π:PI} {st st':St} {L Lk:List cU} {T N fr:Nat}
theorem kX.off {X:List Nat}(h:kX κ τ π st L Lk T N fr)(hk:Kp X st st')(hx:∀b∈κ::own τ π,b∉X):kX κ τ π st' L Lk T N fr:=
 ⟨h.tr.off hk fun b hb=>hx b (by simp[hb]),(hk.keep κ h.lt (hx κ (by simp))).trans h.get,ago h.lt hk.next,h.not⟩
theorem kX.still (h:kX κ τ π st L Lk T N fr)(hk:Kp [] st st'):kX κ τ π st' L Lk T N fr:=h.off hk (by simp)
theorem kX.Wl (h:kX κ τ π st L Lk T N fr){K:CV->Prop}(hK:K (.ptr τ 0)):us (aw (.ptr κ 0) st) K:=by
 rw[av,h.get,ao];exact hK
end
section
variable {κ τ:Nat} {π:PI} {st st':St} {L Lk:List cU} {T N fr:Nat}
def WT (τ N:Nat):mc:= .cells [.ptr τ 0,I ((N/8:Nat):Int)] 162 false
end
section
variable {κ τ:Nat} {π:PI} {st st':St} {L Lk:List cU} {T N fr:Nat}
def qD (sp:Int)(to:dS):dS:=if to=[]then (if sp+1<256 then FV (sp+1,[])else [])else FV (sp,to)
def wB (p:cU):cU:=(p.1.drop 1,p.2)
def Dy (L:List cU)(sp:Int)(fm to:dS):List cU:=(L.filter (ua (FV (sp,fm)) (qD sp to))).map wB
theorem JY {sp:Int}{fm to:dS}{p:cU}(h:ua (FV (sp,fm)) to p=true):1<=p.1.length:=by
 rw[LI]at h;simp only[agp,ahB]at h;cases hp:p.1 with
 |cons a l=>simp
 |nil=>
  rw[hp]at h;have:=wc h.1 (GZ _);unfold FV at this;cases this
set_option maxHeartbeats 1000000 in
theorem GB (h:kX κ τ π st L Lk T N fr){sp:Int}{fm to:dS}(hp:yJ (sp,fm))(hq:yJ (sp,to))(hl:L.length<=1000000):R 38 [.ptr κ 0,I sp, .str fm, .str to] st fun y s=>∃x,y= .tuple [x,I 0]/\Kp [] st s/\Sl s [] x 2 (fT (Dy L sp fm to)):=by
 refine bp ?_;rw[ZN];have yR:bf [.int .i64 0, .str []] [(0,1,I sp),(1,1, .str fm)] st= .ok (.agg [I sp, .str fm]) st:=rfl;have hb2:bf [.int .i64 0, .str []] [(0,1,I sp),(1,1, .str to)] st= .ok (.agg [I sp, .str to]) st:=rfl;rw[yR,ae,hb2,ae,cn,bj,cn,bj];have k1:Kp [] st (St.new st (.cells [.int .i64 0, .str []] 183 false)):=(Kp.refl [] st).new _;have g1:(St.new st (.cells [.int .i64 0, .str []] 183 false)).mem.get st.next=some (.cells [.int .i64 0, .str []] 183 false):=aG _ _;have n1:(St.new st (.cells [.int .i64 0, .str []] 183 false)).next=st.next+1:=rfl;generalize St.new st (.cells [.int .i64 0, .str []] 183 false)=s1 at*;have k2:Kp [] s1 (St.new s1 (.cells [.int .i64 0, .str []] 183 false)):=(Kp.refl [] s1).new _;have g2:(St.new s1 (.cells [.int .i64 0, .str []] 183 false)).mem.get s1.next=some (.cells [.int .i64 0, .str []] 183 false):=aG _ _;have n2:(St.new s1 (.cells [.int .i64 0, .str []] 183 false)).next=s1.next+1:=rfl;generalize St.new s1 (.cells [.int .i64 0, .str []] 183 false)=s2 at*;have Jl:=(k2.keep st.next (by omega) (by simp)).trans g1;rw[aQ,Jl,bg,ba,show bB [.int .i64 0, .str []] 0 [I sp, .str fm]=[I sp, .str fm]from rfl];refine⟨⟨rfl,rfl,by simp⟩, ?_⟩;have k3:Kp [] st (St.set s2 st.next (.cells [I sp, .str fm] 183 false)):=(k1.trans k2 (by simp)).set _ (.inr (aga _)) (by omega);have g3:(St.set s2 st.next (.cells [I sp, .str fm] 183 false)).mem.get st.next=some (.cells [I sp, .str fm] 183 false):=az _ _ _;have VL:(St.set s2 st.next (.cells [I sp, .str fm] 183 false)).mem.get s1.next=_:=(aq _ _ _ _ (by omega)).trans g2;have n3:(St.set s2 st.next (.cells [I sp, .str fm] 183 false)).next=s2.next:=rfl;generalize St.set s2 st.next (.cells [I sp, .str fm] 183 false)=s3 at*;rw[aQ,VL,bg,ba,show bB [.int .i64 0, .str []] 0 [I sp, .str to]=[I sp, .str to]from rfl];refine⟨⟨rfl,rfl,by simp⟩, ?_⟩;have k4:Kp [] st (St.set s3 s1.next (.cells [I sp, .str to] 183 false)):=k3.set _ (.inr (by omega)) (by omega)
 have g4:(St.set s3 s1.next (.cells [I sp, .str to] 183 false)).mem.get s1.next=some (.cells [I sp, .str to] 183 false):=az _ _ _;have Jk:(St.set s3 s1.next (.cells [I sp, .str to] 183 false)).mem.get st.next=_:=(aq _ _ _ _ (by omega)).trans g3;have n4:(St.set s3 s1.next (.cells [I sp, .str to] 183 false)).next=s3.next:=rfl;generalize St.set s3 s1.next (.cells [I sp, .str to] 183 false)=s4 at*;have h4:=h.still k4;rw[bD,ae,ah,agf (by decide),aR (n:=2) Jk rfl,ae];refine(Iw (sp,fm)).mono ?_;rintro _ s5 ⟨rfl,k5⟩;have g5:=(k5.keep s1.next (by omega) (by simp)).trans g4;have g35:=(k5.keep st.next (by omega) (by simp)).trans Jk;have n5:=k5.next;rw[agi hp,bt,ae,aE];simp only[agm,afY,agn,agj,aM,bF];rw[aR (n:=2) g5 rfl,ae];refine(Iw (sp,to)).mono ?_;rintro _ s6 ⟨rfl,k6⟩;have g6:=(k6.keep s1.next (by omega) (by simp)).trans g5;have g36:=(k6.keep st.next (by omega) (by simp)).trans g35;have n6:=k6.next;rw[agi hq,bt,ae,aF,agf (by decide),ae,ah,agf (by decide),aR (n:=2) g6 rfl,ae];refine(ze hq).mono ?_;rintro _ s7 ⟨rfl,k7⟩;have QE:=(k7.keep st.next (by omega) (by simp)).trans g36;have n7:=k7.next;have h7:=((h4.still k5).still k6).still k7;have K7:=((k4.trans k5 (by simp)).trans k6 (by simp)).trans k7 (by simp);refine pB (fun vs s=>vs=[.ptr κ 0, .ptr st.next 0, .str (qD sp to)]/\Kp [] s7 s) ?_ ?_
 ·intro oq KL;have e43:ai .eql (some .str) true (.str to) (.str []) s7= .ok (.bool (decide (to=[]))) s7:=by rw[fV,DI]
  rw[e43,ae,ah];obtain⟨⟨p1,p2⟩,p3⟩:=hp;dsimp only at p1 p2
  by_cases ht:to=[]
  ·have e44:ai .add none true (I sp) (.int .i64 1) s7= .ok (I (sp+1)) s7:=by rw[aA,cR,bN (by omega)]
   have e45:ai .lss none true (I (sp+1)) (.int .i64 256) s7= .ok (.bool (decide (sp+1<256))) s7:=by rw[aA,bK]
   rw[agi ht,agl rfl,e44,ae,e45,ae,ah]
   by_cases hs:sp+1<256
   ·have HH:bf [.int .i64 0, .str []] [(0,1,I (sp+1)),(1,1, .str [])] s7= .ok (Nu (sp+1,[])) s7:=rfl;rw[agi hs,agl rfl,ae,HH,ae];refine(ze (p:=(sp+1,[])) ⟨⟨by dsimp only;omega,hs⟩,by simp⟩).mono ?_;rintro _ s8 ⟨rfl,k8⟩;exact KL _ _ ⟨by unfold qD;rw[agl ht,agl hs],k8⟩
   ·rw[agc hs,agf (by decide)];exact KL _ _ ⟨by unfold qD;rw[agl ht,agf hs],Kp.refl _ _⟩
  ·rw[agc ht,agf (by decide)];exact KL _ _ ⟨by unfold qD;rw[agf ht],Kp.refl _ _⟩
 ·rintro _ s8 ⟨rfl,k8⟩;simp only[aI,aJ];have h8:=h7.still k8;have g8:=(k8.keep st.next (by omega) (by simp)).trans QE;rw[bG,aV,ae,af,ae];refine h8.Wl ?_;rw[aR (n:=2) g8 rfl,ae];refine(ze hp).mono ?_;rintro _ s9 ⟨rfl,k9⟩;have h9:=h8.still k9;refine(Gj h9.tr _ _).mono ?_;rintro _ cw ⟨dQ,rfl,kZ,LH⟩;have e0:ai .neq (some .int) true (I 0) (.int .i64 0) cw= .ok (.bool false) cw:=rfl;rw[ay,ae,aL,ay,ae];refine⟨⟨⟨h9.Wl rfl,trivial⟩,trivial,trivial⟩,trivial, ?_⟩;have K10:=((K7.trans k8 (by simp)).trans k9 (by simp)).trans kZ (by simp)
  have UW:dw cw:=by
   obtain⟨⟨G,Gk,ht,_⟩,_⟩:=(h9.still kZ).tr;exact ht.fr
  rw[e0,ae,ah,agf (by decide),bP];unfold Dy;have Ep:∀p∈L.filter (ua (FV (sp,fm)) (qD sp to)),1<=p.1.length:=fun p hp=>JY (List.mem_filter.1 hp).2;have hML:(L.filter (ua (FV (sp,fm)) (qD sp to))).length<=1000000:=aha (List.length_filter_le _ _) hl;generalize L.filter (ua (FV (sp,fm)) (qD sp to))=M at*;simp only[aI,aJ];rw[LH.len M.length (oh _) (by omega),ae];refine bA (fun fu vs s=>∃i x F,fu+i=M.length/\vs=[x,dQ,I M.length,I i]/\Kp [] cw s/\Own s x 2 96 (fT ((M.take i).map wB)) F/\∀b∈F,cw.next<=b/\b<s.next) ?_ (n:=M.length) ⟨0, .aa,[],rfl,rfl,Kp.refl _ _, .inl ⟨rfl,rfl,rfl⟩,by simp⟩;rintro fu vs s K ⟨i,x,F,hi,rfl,hk,own,hF⟩ next;simp only[aI,aJ];rw[de,ae,ah];have nk:=hk.next
  by_cases hc:i<M.length
  ·rw[agi hc,agl rfl];have cs:=LH.mono hk;refine cs.jh (L:=M.map ik) (by omega) (GD _) (i:=i) (by simpa using hc) _ ?_;rw[ahG];refine mL rfl rfl rfl ?_;have kA:Kp [] s (St.new s (.cells (ik M[i]) 188 false)):=(Kp.refl [] s).new _;have gA:(St.new s (.cells (ik M[i]) 188 false)).mem.get s.next=some (.cells (ik M[i]) 188 false):=aG _ _;have nA:(St.new s (.cells (ik M[i]) 188 false)).next=s.next+1:=rfl;have oA:Own (St.new s (.cells (ik M[i]) 188 false)) x 2 96 (fT ((M.take i).map wB)) F:=own.mono fun b hb=>aU _ _ _ (hF b hb).2;generalize St.new s (.cells (ik M[i]) 188 false)=sA at*;have kS:=(Kp.refl [] sA).skip;have hn:(St.skip sA).mem.get sA.next=none:=kA.fresh (hk.fresh UW) _ (aga _);have gS:(St.skip sA).mem.get s.next=some (.cells (ik M[i]) 188 false):=gA;have nS:(St.skip sA).next=sA.next+1:=rfl;have oS:Own (St.skip sA) x 2 96 (fT ((M.take i).map wB)) F:=oA.mono fun _ _=>rfl;generalize St.skip sA=sS at*;have Qf:=Ep _ (agx hc)
   have esl:fK (.str M[i].1) (some (.int .i64 1)) none sS= .ok (.str (M[i].1.drop 1)) sS:=by
    unfold fK;have:=wH 1 M[i].1.length M[i].1.length;rw[agl Qf]at this;dsimp only;rw[show(some (CV.int .i64 1))=some (I ((1:Nat):Int))from rfl,this];dsimp only;rw[agk (by rw[ahd];omega)]
   have l0:(ik M[i])[0]?=some (.str M[i].1):=rfl;have l1:(ik M[i])[1]?=some (.str M[i].2):=rfl;simp only[bG,af,ae,av,gS,ao,afZ,l0,l1,au,esl];have hb:bf [.str [], .str []] [(0,1, .str (M[i].1.drop 1)),(1,1, .str M[i].2)] sS= .ok (.agg (ik (wB M[i]))) sS:=rfl;rw[hb,ae];refine lT 32 oS (by omega) (fun q hq=>⟨by have:=(hF q hq).2;omega,by have:=(hF q hq).2;omega⟩) (by omega) hn rfl rfl rfl rfl (by rw[oh,agM,agy];omega) ?_;intro v' sB FB oB kB Yf;have gB:(St.set sS sA.next (.cells (CV.agg (ik (wB M[i]))).bL 96 false)).mem.get s.next=_:=(aq _ _ _ _ (by omega)).trans gS;rw[gB];simp only[ao,l0,l1,au];refine⟨⟨⟨trivial,trivial⟩,⟨trivial,trivial⟩,trivial⟩,⟨trivial,trivial⟩, ?_⟩
   have eap:fT ((M.take i).map wB)++(CV.agg (ik (wB M[i]))).bL=fT ((M.take (i+1)).map wB):=by
    rw[agI hc,ahp,nO];rfl
   rw[eap]at oB;rw[gW i (by omega),ae];refine next (fu-1) _ _ (by omega) ⟨i+1,v',FB,by omega,rfl,((hk.trans kA (by simp)).trans kS (by simp)).trans kB fun q hq=> .inr ?_,oB,fun q hq=>⟨?_,(Yf q hq).2⟩⟩
   ·rcases age.1 hq with h|h
    ·omega
    ·exact(hF q h).1
   ·rcases(Yf q hq).1 with h|h
    ·exact(hF q h).1
    ·omega
  ·rw[agc hc,agf (by decide)];rw[agk (by omega)]at own;exact⟨x,rfl,K10.trans hk (by simp),own.sl fun b hb=>⟨by simp,(hF b hb).2⟩⟩
end
section
variable {κ τ:Nat} {π:PI} {st st':St} {L Lk:List cU} {T N fr:Nat}
def yL (κ τ:Nat)(π:PI)(s:St)(Lk:List cU)(T N fr:Nat):Prop:=sZ 0 τ π s Lk Lk T N fr/\s.mem.get κ=some (WT τ N)/\κ<s.next/\κ∉own τ π
theorem yL.ji {s:St}(h:yL κ τ π s Lk T N fr):kX κ τ π s Lk Lk T N fr:=⟨h.1.t2,h.2.1,h.2.2.1,h.2.2.2⟩
theorem DQ {Gk:GM}(hp:Pg π st Gk)(hf:dw st)(hk:gG π st Gk T)(hL:jj Gk Lk)(hc:Calm π.D)(hl:π.D.ar.length=N)(hN:N<=100000):
 R 29 [.ptr π.a 0, .ptr π.p 0,I 0] st fun y s=>∃κ τ,y= .tuple [.ptr κ 0,I 0]/\Kp [] st s/\st.next<=κ/\st.next<=τ/\yL κ τ π s Lk T N Gk.sD:=by
 refine bp ?_;rw[Wh];have e0:ai .neq (some .int) true (I 0) (.int .i64 0) st= .ok (.bool false) st:=rfl;rw[e0,ae,ah,agf (by decide)];refine(M0 hp hf hk hL hc hl).mono ?_;rintro _ s1 ⟨τ,rfl,h1,k1,t1⟩;refine(M3 t1.t2).same ?_
 have eq:ai .quo none true (I N) (.int .i64 8) s1= .ok (I ((N/8:Nat):Int)) s1:=by
  have e1:ai .quo none true (I N) (.int .i64 8) s1= .ok (I (IntKind.i64.wrap (Int.tdiv (N:Int) 8))) s1:=rfl;have e2:Int.tdiv (N:Int) 8=((N/8:Nat):Int):=rfl;rw[e1,e2,bN (by omega)]
 have hb:bf [.aC, .int .i64 0] [(0,1, .ptr τ 0),(1,1,I ((N/8:Nat):Int))] s1= .ok (.agg [.ptr τ 0,I ((N/8:Nat):Int)]) s1:=rfl;rw[eq,ae,hb,ae,br];refine⟨rfl, ?_⟩;rw[ba];have k2:Kp [] s1 (St.new s1 (WT τ N)):=(Kp.refl [] s1).new _;have n1:=k1.next;exact⟨s1.next,τ,rfl,k1.trans k2 (by simp),by omega,h1,t1.still k2,aG _ _,Nat.lt_succ_self _,fun hh=>by have:=t1.t2.zH _ hh;omega⟩
theorem Ff {a n:Nat}{F:List Nat}(h1:64<=n)(h2:n<=8000)(hd:cV st a F (lS (List.replicate n km)))(hf:dw st)(hFl:∀b∈F,b<st.next):
 R 13 [.ptr a 0] st fun y s=>∃κ τ π,y= .tuple [.ptr κ 0,I 0]/\π.a=a/\Kp F st s/\(∀b∈κ::own τ π,b∈F\/st.next<=b)/\yL κ τ π s [] 0 n (n-2-n/4)/\π.D.set=false:=by
 refine bp ?_;rw[Z9];have hl:(lS (List.replicate n km)).ar.length=n:=by show(List.replicate n km).length=n;simp
 have hz:∀i,i<(lS (List.replicate n km)).ar.length->(lS (List.replicate n km)).cur i=km:=fun i hi=>by
  rw[hl]at hi;unfold aW.cur;rw[show(lS (List.replicate n km)).waits=[]from rfl,oo];show(List.replicate n km).getD i []=km;simp[ahl,hi]
 refine(Cf hd hf ⟨rfl⟩ rfl rfl (by omega) hz).mono ?_;rintro _ s2 ⟨π,rfl,rfl,hp,hk,k2,oy,Hu,hc,hlen,⟨r,Up,hr⟩,iA⟩;rw[hl]at hp hk;rw[ay,ae,aL,ay,ae];refine(DQ hp (k2.fresh hf) hk (MW _ (by omega) (by omega)) hc (hlen.trans hl) (by omega)).mono ?_;rintro _ s3 ⟨κ,τ,rfl,k3,hκ,hτ,kv⟩;rw[ay,ae,aL,ay,ae];have n2:=k2.next;refine⟨κ,τ,π,rfl,rfl,k2.trans k3 (by simp),fun b hb=> ?_, ?_,iA⟩
 rotate_left
 ·have e:(PJ (n-1-n/4)).sD=n-2-n/4:=by unfold GM.sD PJ;simp;omega
  rw[e]at kv;exact kv
 rcases age.1 hb with h|h
 ·right;omega
 ·unfold own at h;rw[Up]at h;rcases age.1 h with h|h
  ·right;omega
  ·rcases agz.1 h with h|h
   ·have h:b=r:=by simpa using h
    right;omega
   ·exact oy b h
def FG (a:Nat)(F:List Nat)(Lk:List cU)(T N:Nat)(set:Bool)(st:St)(y:CV)(s:St):Prop:=∃κ' τ' π' fr',y= .tuple [.ptr κ' 0,I 0]/\π'.a=a/\Kp F st s/\(∀b∈κ'::own τ' π',b∈F\/st.next<=b)/\yL κ' τ' π' s Lk T N fr'/\π'.D.set=set
theorem GN {a:Nat}{F:List Nat}{set:Bool}{P:St->Prop}(h:R 30 [.ptr a 0] st fun v s=>Ae a F Lk T N set st v s\/(v= .tuple [.aC,I 20]/\P s))(hN:N<=100000):R 14 [.ptr a 0] st fun y s=>FG a F Lk T N set st y s\/(y= .tuple [.aC,I 20]/\P s):=by
 refine bp ?_;rw[Z8];refine h.mono ?_;rintro _ s6 (⟨π6,Gk,rfl,Yu,hp6,hf6,UE,hL6,hc6,Ox,k6,O3,⟨r6,Ut,TD⟩,NX⟩|⟨rfl,hP⟩)
 ·rw[ay,ae,aL,ay,ae,<-Yu];refine(DQ hp6 hf6 UE hL6 hc6 Ox hN).mono ?_;rintro _ s3 ⟨κ',τ',rfl,k3,hκ,hτ,kv⟩;rw[ay,ae,aL,ay,ae];have n6:=k6.next;refine .inl ⟨κ',τ',π6,_,rfl,rfl,by rw[Yu]at*;exact k6.trans k3 (by simp),fun b hb=> ?_,kv,NX⟩;rcases age.1 hb with h|h
  ·right;omega
  ·unfold own at h;rw[Ut]at h;rcases age.1 h with h|h
   ·right;omega
   ·rcases agz.1 h with h|h
    ·have h:b=r6:=by simpa using h
     right;omega
    ·exact O3 b h
 ·rw[ay,ae,aL,ay,ae];refine bp ?_;rw[Wh];have e0:ai .neq (some .int) true (I 20) (.int .i64 0) s6= .ok (.bool true) s6:=rfl;rw[e0,ae,ah,agl rfl,ay,ae,aL,ay,ae];exact .inr ⟨rfl,hP⟩
end
section
variable {st st' s:St} {a b κ τ k:Nat} {π:PI} {p:SetM} {id:Int} {T N fr:Nat}
theorem zq (h:kX κ τ π st [] [] T N fr){sp:Int}(hs:0<=sp/\sp<256){fm to:List UInt8}(h1:fm.length<=47)(h2:to.length<=47):R 38 [.ptr κ 0,I sp, .str fm, .str to] st fun y s=>∃x,y= .tuple [x,I 0]/\Kp [] st s/\Sl s [] x 2 []:=by
 refine(GB h ⟨hs,h1⟩ ⟨hs,h2⟩ (by simp)).mono ?_;rintro y s ⟨x,rfl,k,hx⟩;exact⟨x,rfl,k,hx⟩
def ta (st:St)(kp κ:Nat)(p:SetM)(id:Int)(a b:Nat):Prop:=kp<st.next/\∃m c,st.mem.get kp=some (.cells (fH κ p id m (.ptr c 0)) 112 false)/\ud st c a b
theorem ta.still {kp:Nat}(h:ta st kp κ p id a b)(hk:Kp [] st st'):ta st' kp κ p id a b:=by
 obtain⟨h1,m,c,h2,h3⟩:=h;exact⟨ago h1 hk.next,m,c,(hk.keep kp h1 (by simp)).trans h2,h3.still hk⟩
set_option maxHeartbeats 1000000 in
theorem Kf (h:kX κ τ π st [] [] T N fr)(hg:FL p)(hi:1<=id/\id<=p.bH)(ha:p.dZ=(a:Int))(hb:p.bH=(b:Int))(tf:1<=a/\a<=4)(ig:1<=b/\b<=5):
 R 24 [.ptr κ 0,I id, .agg (eL p)] st fun y s=>∃kp,y= .tuple [.ptr kp 0,I 0]/\Kp [] st s/\ta s kp κ p id a b:=by
 refine bp ?_;rw[ZY,br];refine⟨rfl, ?_⟩;rw[ba,bD,ae,ah,agf (by decide)];generalize hs1:St.new st (.cells (eL p) 23 false)=s1;obtain⟨k1,g1,n1⟩:=da hs1;rw[aR (n:=13) g1 rfl,ae];refine(Nx hg hi).mono ?_;rintro _ s2 ⟨rfl,k2⟩;have n2:=k2.next;have g2:=(k2.keep st.next (by omega) (by simp)).trans g1;rw[bt,ae,ah,agm,agf (by decide)];refine(zq ((h.still k1).still k2) (sp:=1) (by omega) (by simp) (by simp)).mono ?_;rintro _ s3 ⟨x,rfl,k3,hx⟩;have n3:=k3.next;have g3:=(k3.keep st.next (by omega) (by simp)).trans g2;have en:∀s,ai .neq (some .int) true (I 0) (.int .i64 0) s= .ok (.bool false) s:=fun s=>rfl;have kx:bf ([.aC]++List.replicate 14 (.int .i64 0)++[.aC, .aC,(.int .i64 0),(.int .i64 0),(.bool false)]) [(0,1, .ptr κ 0),(1,13, .agg (eL p)),(14,1,I id)] s3= .ok (.agg (fH κ p id .aC .aC)) s3:=rfl;rw[ay,ae,aL,ay,ae,en,ae,ah,agf (by decide),aR (n:=13) g3 rfl,ae,kx,ae,br];refine⟨rfl, ?_⟩;rw[ba];generalize N6:St.new s3 (.cells (fH κ p id .aC .aC) 112 false)=s4;obtain⟨k4,g4,n4⟩:=da N6;refine(J8 g4 (by omega) ha hb tf ig (hx.mono k4)).mono ?_;rintro _ s5 ⟨v,F,rfl,k5,own,hF⟩;have n5:=k5.next;have g5:=(k5.keep s3.next (by omega) (by simp)).trans g4;obtain⟨o1,z1⟩:=own.cv;rw[ay,ae,aL,ay,ae];refine mL rfl rfl (nY o1) ?_;generalize sn:St.new s5 (.cells (ck p id v (eM a b)) 121 false)=s7;obtain⟨k7,g7,n7⟩:=da sn;have Yn:=(k7.keep s3.next (by omega) (by simp)).trans g5;have JT:Own s7 v 1 3 (cP b) F:=own.mono fun q hq=>k7.keep q (hF q hq).2 (by simp)
 have f9:∀K:CV->Prop,K (.str (eM a b))->fl 9 (.ptr s5.next 0) s7 K:=fun K hK=>by
  unfold fl;rw[af,ae,av,g7,ao];exact hK
 refine f9 _ ?_;refine(LC Yn (by omega) ha hb tf ig).mono ?_;rintro _ s8 ⟨c,pp,d,rfl,k8,hC,hc,Hu,wx⟩;have n8:=k8.next;have g8:=(k8.keep s5.next (by omega) (by simp)).trans g7;have g58:=(k8.keep s3.next (by omega) (by simp)).trans Yn;have SF:Own s8 v 1 3 (cP b) F:=JT.mono fun q hq=>k8.keep q (by have:=hF q hq;omega) (by simp);rw[ay,ae,aL,ay,ae,bt,ae];simp only[aE,agm,afY,agn,agj,aM,ae,bt,aF,ah];rw[aR (n:=11) g8 rfl,ae];refine(JQ hg hi hb ig SF (fun q hq=>by have:=hF q hq;omega)).mono ?_;rintro _ s9 ⟨m,rfl,k9⟩;have n9:=k9.next;have g9:=(k9.keep s5.next (by omega) (by simp)).trans g8;have g59:=(k9.keep s3.next (by omega) (by simp)).trans g58;have hC9:=hC.keep k9 (by simp);rw[ay,ae,aL,ay,ae,en,ae,ah,agf (by decide),bG];have f6:(ck p id v (eM a b))[6]?=some (I 0):=rfl;simp only[aV,af,ae,av,g9,ao,afZ,f6,au];have K9:Kp [] st s9:=((((((k1.trans k2).trans k3).trans k4).trans k5).trans k7).trans k8).trans k9;rw[aQ,g59,bg];refine⟨⟨rfl,rfl,by show 15+1<=20;omega⟩, ?_⟩;have e1:bB (fH κ p id .aC .aC) 15 (CV.ptr m 0).bL=fH κ p id (.ptr m 0) .aC:=rfl;rw[e1];generalize P7:St.set s9 s3.next (.cells (fH κ p id (.ptr m 0) .aC) 112 false)=sA;have gA:sA.mem.get s3.next=some (.cells (fH κ p id (.ptr m 0) .aC) 112 false):=by rw[<-P7];exact az _ _ _
 have Ym:sA.mem.get s5.next=some (.cells (ck p id v (eM a b)) 121 false):=by rw[<-P7];exact(aq _ _ _ _ (by omega)).trans g9
 have nA:sA.next=s9.next:=by rw[<-P7];rfl
 have kA:Kp [s3.next] s9 sA:=by rw[<-P7];exact(Kp.refl _ _).set _ (by simp) (by omega)
 rw[aQ,gA,bg];refine⟨⟨rfl,rfl,by show 16+1<=20;omega⟩, ?_⟩;have e2:bB (fH κ p id (.ptr m 0) .aC) 16 (CV.ptr c 0).bL=fH κ p id (.ptr m 0) (.ptr c 0):=rfl;rw[e2];generalize P6:St.set sA s3.next (.cells (fH κ p id (.ptr m 0) (.ptr c 0)) 112 false)=sB;have gB:sB.mem.get s3.next=some (.cells (fH κ p id (.ptr m 0) (.ptr c 0)) 112 false):=by rw[<-P6];exact az _ _ _
 have gB':sB.mem.get s5.next=some (.cells (ck p id v (eM a b)) 121 false):=by rw[<-P6];exact(aq _ _ _ _ (by omega)).trans Ym
 have nB:sB.next=sA.next:=by rw[<-P6];rfl
 have kB:Kp [s3.next] sA sB:=by rw[<-P6];exact(Kp.refl _ _).set _ (by simp) (by omega)
 rw[aQ,gB,bg];refine⟨⟨rfl,rfl,by show 17+1<=20;omega⟩, ?_⟩;have e3:bB (fH κ p id (.ptr m 0) (.ptr c 0)) 17 (I 0).bL=fH κ p id (.ptr m 0) (.ptr c 0):=rfl;rw[e3];generalize Tw:St.set sB s3.next (.cells (fH κ p id (.ptr m 0) (.ptr c 0)) 112 false)=sC;have gC:sC.mem.get s3.next=some (.cells (fH κ p id (.ptr m 0) (.ptr c 0)) 112 false):=by rw[<-Tw];exact az _ _ _
 have nC:sC.next=sB.next:=by rw[<-Tw];rfl
 have kC:Kp [s3.next] sB sC:=by rw[<-Tw];exact(Kp.refl _ _).set _ (by simp) (by omega)
 simp only[av,Ym,gB',ao,f6,au];have NI:Kp [s3.next] s9 sC:=(kA.trans kB fun q hq=> .inl hq).trans kC fun q hq=> .inl hq;refine⟨⟨⟨trivial,trivial,trivial⟩,trivial⟩,trivial,s3.next,rfl,K9.trans NI fun q hq=> .inr (by simp at hq;omega),by omega, .ptr m 0,c,gC, ?_⟩;exact(hC9.keep NI (by simp;omega)).Sm
end
theorem ZX (C:aN)(a0 a1 a2:CV)(st:St)(Q:CV->St->Prop):aH P0 C (lvs 25) 25 [a0,a1,a2] st Q=
 (us (ai .lss (none) true a0 (.int .i64 1) st) fun x1=>
 us (aS (ag false x1) st (.ok a0 st)) fun x2=>
 us (aS (ag false x1) st (ai .gtr (none) true x2 (.int .i64 5) st)) fun x3=>
 us (aK x1 (.bool true) x3 st) fun x4=>
 us (aS (ag false x4) st (.ok a1 st)) fun x5=>
 us (aS (ag false x4) st (ai .lss (none) true x5 (.int .i64 1) st)) fun x6=>
 us (aK x4 (.bool true) x6 st) fun x7=>
 us (aS (ag false x7) st (.ok a1 st)) fun x8=>
 us (aS (ag false x7) st (ai .gtr (none) true x8 (.int .i64 100000) st)) fun x9=>
 us (aK x7 (.bool true) x9 st) fun cA=>
 us (aS (ag false cA) st (.ok a2 st)) fun cF=>
 us (aS (ag false cA) st (ai .lss (none) true cF (.int .i64 0) st)) fun cO=>
 us (aK cA (.bool true) cO st) fun cI=>
 aD cI (
 Q (.tuple [.aC,(.int .i64 1)]) st) (
 upon (jD 3 8 [(.int .i64 0)] a0 a0 st) fun dq s1=>
 us (bf [(.int .i64 0), .aa] [(0,1,a1),(1,1,dq)] s1) fun dx=>
 upon (eO 129 dx s1) fun cX s2=>
 C 42 [cX,a2] s2 fun dp s3=>
 Q (.tuple [cX,(.int .i64 0)]) s3)):=by kernel_rfl
theorem ZJ (C:aN)(a0 a1:CV)(st:St)(Q:CV->St->Prop):aH P0 C (lvs 42) 42 [a0,a1] st Q=
 (us (ai .eql (some .ptr) true a0 .aC st) fun x1=>
 us (aS (ag false x1) st (.ok a1 st)) fun x2=>
 us (aS (ag false x1) st (ai .lss (none) true x2 (.int .i64 0) st)) fun x3=>
 us (aK x1 (.bool true) x3 st) fun x4=>
 aD x4 (
 Q .undef st) (
 cN (fun v4 s1=>
 cf (fun v6 s2 k7=>
 us (ai .lss (none) false (ak 3 v6) (ak 2 v6) s2) fun x9=>
 aD x9 (
 eN 1 (ak 0 v6) s2 fun cA=>
 BU 1 1 cA (ak 3 v6) (ak 1 v6) s2 fun s3=>
 us (ai .add (none) true (ak 3 v6) (.int .i64 1) s3) fun cF=>
 k7 [(ak 0 v6),(ak 1 v6),(ak 2 v6),cF] s3) (
 Q .undef s2)) [(ak 0 v4),(ak 1 v4),(ak 2 v4),(ak 3 v4)] s1) fun k5=>
 eN 1 a0 st fun cO=>
 us (bO .slice cO st) fun cI=>
 k5 [a0,a1,cI,(.int .i64 0)] st)):=by kernel_rfl
theorem ZW (C:aN)(a0 a1 a2:CV)(st:St)(Q:CV->St->Prop):aH P0 C (lvs 26) 26 [a0,a1,a2] st Q=
 (us (ai .eql (some .ptr) true a0 .aC st) fun x1=>
 aD x1 (
 Q (.tuple [.aC,(.int .i64 2)]) st) (
 us (ai .lss (none) true a1 (.int .i64 1) st) fun x2=>
 us (aS (ag false x2) st (.ok a1 st)) fun x3=>
 us (aS (ag false x2) st (ai .gtr (none) true x3 (.int .i64 5) st)) fun x4=>
 us (aK x2 (.bool true) x4 st) fun x5=>
 us (aS (ag false x5) st (.ok a2 st)) fun x6=>
 us (aS (ag false x5) st (ai .lss (none) true x6 (.int .i64 0) st)) fun x7=>
 us (aK x5 (.bool true) x7 st) fun x8=>
 us (aS (ag false x8) st (.ok a2 st)) fun x9=>
 us (aS (ag false x8) st (ai .geq (none) true x9 (.int .i64 4) st)) fun cA=>
 us (aK x8 (.bool true) cA st) fun cF=>
 aD cF (
 Q (.tuple [.aC,(.int .i64 1)]) st) (
 us (ai .add (none) true (.int .i64 8) a2 st) fun cO=>
 us (bf [(.int .i64 0),(.int .i64 0),(.int .u8 0),(.int .i64 0),(.int .i64 0),(.int .i64 0)] [(2,1,(.int .u8 1))] st) fun cI=>
 us (bf [.aC,(.int .i64 0),(.int .i64 0),(.int .i64 0),(.int .i64 0),(.int .u8 0),(.int .i64 0),(.int .i64 0),(.int .i64 0),(.int .i64 0)] [(0,1,a0),(1,1,a1),(2,1,cO),(3,6,cI)] st) fun dq=>
 upon (eO 105 dq st) fun dx s1=>
 C 44 [dx] s1 fun cX s2=>
 C 43 [cX] s2 fun dp s3=>
 us (ai .neq (some .int) true dp (.int .i64 0) s3) fun db=>
 aD db (
 Q (.tuple [.aC,dp]) s3) (
 Q (.tuple [dx,(.int .i64 0)]) s3)))):=by kernel_rfl
theorem ZI (C:aN)(a0:CV)(st:St)(Q:CV->St->Prop):aH P0 C (lvs 43) 43 [a0] st Q=
 (upon (dd 26 [(.int .i64 0)] st) fun x1 s1=>
 upon (aT 1 x1 (.int .i64 0) s1) fun _ s2=>
 us (lG 214 x1 s2) fun x2=>
 C 87 [a0,x2] s2 fun x3 s3=>
 us (aw x1 s3) fun x4=>
 Q x4 s3):=by kernel_rfl
theorem ZH (C:aN)(a0:CV)(st:St)(Q:CV->St->Prop):aH P0 C (lvs 44) 44 [a0] st Q=
 (cd (
 us (cz a0 st) fun x1=>
 us (al 0 x1 st) fun x2=>
 us (aw x2 st) fun x3=>
 us (cz a0 st) fun x4=>
 us (al 2 x4 st) fun x5=>
 us (aw x5 st) fun x6=>
 C 38 [x3,x6,(.str []),(.str [])] st fun x7 s1=>
 us (aB x7 0 s1) fun x8=>
 us (aB x7 1 s1) fun x9=>
 ((True)/\(True)/\True)/\(True)/\
 us (ai .neq (some .int) true x9 (.int .i64 0) s1) fun cA=>
 aD cA (
 us (lG 26 x9 s1) fun cF=>
 Q cF s1) (
 us (bO .slice x8 s1) fun cO=>
 us (ai .eql (some .int) true cO (.int .i64 0) s1) fun cI=>
 cN (fun kY s2=>
 cf (fun oG s3 xW=>
 us (ai .lss (none) false (ak 4 oG) (ak 3 oG) s3) fun db=>
 aD db (
 jh 2 2 (ak 2 oG) (ak 4 oG) s3 fun dm=>
 upon (dd 96 [(.str []),(.str [])] s3) fun dB s4=>
 upon (aT 2 dB dm s4) fun _ s5=>
 fl 0 dB s5 fun dV=>
 us (ai .eql (some .str) true dV (.str [115]) s5) fun dU=>
 aD dU (
 fl 1 dB s5 fun dQ=>
 upon (bQ (.bytesOf 5) dQ s5) fun fp s6=>
 C 64 [fp] s6 fun ew s7=>
 C 65 [ew,(.int .i64 5)] s7 fun fk s8=>
 C 65 [ew,(.int .i64 2147483647)] s8 fun fM s9=>
 C 65 [ew,(.int .i64 2147483647)] s9 fun fD cw=>
 C 65 [ew,(.int .i64 5)] cw fun gq cB=>
 us (bQ (.toInt .u8) gq cB) fun fE=>
 us (bf [(.int .i64 0),(.int .i64 0),(.int .u8 0),(.int .i64 0),(.int .i64 0),(.int .i64 0)] [(0,1,fM),(1,1,fD),(2,1,fE)] cB) fun gI=>
 kh 6 3 (ak 0 oG) gI cB fun eJ=>
 cd (
 us (cz (ak 0 oG) eJ) fun iu=>
 us (al 3 iu eJ) fun gX=>
 us (al 0 gX eJ) fun gz=>
 us (aw gz eJ) fun iy=>
 C 65 [ew,(.int .i64 5)] eJ fun jc eD=>
 C 65 [ew,(.int .i64 5)] eD fun iC ep=>
 us (bf [(.int .i64 0),(.int .i64 0),(.int .i64 0)] [(0,1,iy),(1,1,jc),(2,1,iC)] ep) fun je=>
 us (cz (ak 0 oG) ep) fun kg=>
 us (al 3 kg ep) fun kG=>
 us (al 3 kG ep) fun kD=>
 upon (aT 3 kD je ep) fun kf jl=>
 (((us (aw gz eD) fun v=>v=iy)/\(us (aw gz ep) fun v=>v=iy)/\True)/\True)/\(True)/\
 C 65 [ew,(.int .i64 2147483647)] jl fun m7 iw=>
 kh 1 9 (ak 0 oG) m7 iw fun jS=>
 C 68 [ew] jS fun oF iv=>
 us (aS (ag true oF) iv (.ok fk iv)) fun qp=>
 us (aS (ag true oF) iv (.ok (ak 0 oG) iv)) fun m6=>
 fB (ag true oF) 1 m6 iv fun nD=>
 us (aS (ag true oF) iv (ai .eql (some .int) false qp nD iv)) fun qo=>
 us (aK oF qo (.bool false) iv) fun oJ=>
 us (aS (ag true oJ) iv (.ok (ak 0 oG) iv)) fun qn=>
 us (aS (ag true oJ) iv (cz qn iv)) fun kF=>
 us (aS (ag true oJ) iv (al 3 kF iv)) fun tp=>
 eu (ag true oJ) 2 tp iv fun tn=>
 us (aS (ag true oJ) iv (ai .geq (none) true tn (.int .u8 1) iv)) fun qZ=>
 us (aK oJ qZ (.bool false) iv) fun tm=>
 us (ai .add (none) true (ak 4 oG) (.int .i64 1) iv) fun qm=>
 xW [(ak 0 oG),tm,(ak 2 oG),(ak 3 oG),qm] iv)) (
 fl 0 dB s5 fun me=>
 us (ai .neq (some .str) true me (.str []) s5) fun nJ=>
 eu (ag true nJ) 0 dB s5 fun mj=>
 us (aS (ag true nJ) s5 (jv mj (.int .i64 0) s5)) fun qY=>
 us (aS (ag true nJ) s5 (ai .eql (some .int) true qY (.int .u8 112) s5)) fun ve=>
 us (aK nJ ve (.bool false) s5) fun ru=>
 eu (ag true ru) 0 dB s5 fun wO=>
 us (aS (ag true ru) s5 (bO .str wO s5)) fun kE=>
 us (aS (ag true ru) s5 (ai .gtr (none) true kE (.int .i64 5) s5)) fun qX=>
 us (aK ru qX (.bool false) s5) fun vd=>
 aD vd (
 us (ai .add (none) true (ak 4 oG) (.int .i64 1) s5) fun wX=>
 xW [(ak 0 oG),(ak 1 oG),(ak 2 oG),(ak 3 oG),wX] s5) (
 fl 0 dB s5 fun yV=>
 us (ai .neq (some .str) true yV (.str []) s5) fun tl=>
 eu (ag true tl) 0 dB s5 fun Ag=>
 us (aS (ag true tl) s5 (jv Ag (.int .i64 0) s5)) fun yU=>
 us (aS (ag true tl) s5 (ai .eql (some .int) true yU (.int .u8 108) s5)) fun CP=>
 us (aK tl CP (.bool false) s5) fun JE=>
 aD JE (
 fl 0 dB s5 fun MM=>
 fl 1 dB s5 fun L0=>
 C 32 [MM,L0] s5 fun JD qP=>
 us (aB JD 0 qP) fun JC=>
 us (aB JD 1 qP) fun Io=>
 upon (dd 101 [(.int .i64 0),(.int .i64 0),(.int .u8 0),(.bool false),(.str [])] qP) fun ML Dq=>
 upon (aT 5 ML JC Dq) fun _ Dp=>
 us (fA .not Io Dp) fun QR=>
 aD QR (
 us (lG 26 (.int .i64 4) Dp) fun QQ=>
 Q QQ Dp) (
 us (ai .add (none) true (ak 4 oG) (.int .i64 1) Dp) fun QP=>
 xW [(ak 0 oG),(ak 1 oG),(ak 2 oG),(ak 3 oG),QP] Dp)) (
 us (lG 26 (.int .i64 4) s5) fun QO=>
 Q QO s5)))) (
 us (fA .not (ak 1 oG) s3) fun QN=>
 aD QN (
 us (lG 26 (.int .i64 4) s3) fun JB=>
 Q JB s3) (
 Q .cK s3))) [(ak 0 kY),(ak 1 kY),(ak 2 kY),(ak 3 kY),(ak 4 kY)] s2) fun yO=>
 us (bO .slice x8 s1) fun QM=>
 yO [a0,cI,x8,QM,(.int .i64 0)] s1))):=by kernel_rfl
theorem Y4 (C:aN)(a0 a1:CV)(st:St)(Q:CV->St->Prop):aH P0 C (lvs 87) 87 [a0,a1] st Q=
 (us (ai .eql (some .iface) true a0 .cK st) fun x1=>
 aD x1 (
 Q (.bool false) st) (
 cN (fun v1 s1=>
 C 132 [(ak 1 v1)] s1 fun x4 s2=>
 upon (dd 279 [.aC, .aC,(.int .u64 0)] s2) fun x5 s3=>
 upon (aT 3 x5 x4 s3) fun _ s4=>
 us (aP 3 x5 s4) fun x6=>
 C 133 [x6] s4 fun x7 s5=>
 cN (fun v7 s6=>
 (False)) fun k8=>
 (False)) fun k2=>
 us (ai .eql (some .iface) true a1 .cK st) fun cA=>
 aD cA (
 us (lG 9 (.str [101,114,114,111,114,115,58,32,116,97,114,103,101,116,32,99,97,110,110,111,116,32,98,101,32,110,105,108]) st) fun cF=>
 (False)) (
 k2 [a0,a1] st))):=by kernel_rfl
theorem ZV (C:aN)(a0 a1 a2 a3 a4 a5:CV)(st:St)(Q:CV->St->Prop):aH P0 C (lvs 27) 27 [a0,a1,a2,a3,a4,a5] st Q=
 (upon (eO 23 a3 st) fun x1 s1=>
 us (ai .eql (some .ptr) true a0 .aC s1) fun x2=>
 aD x2 (
 Q (.tuple [.aC,(.int .i64 2)]) s1) (
 C 45 [a1,(.int .i64 1),(.int .i64 5)] s1 fun x3 s2=>
 us (fA .not x3 s2) fun x4=>
 us (aS (ag false x4) s2 (.ok a2 s2)) fun x5=>
 cb (ag false x4) s2 (fun k=>C 45 [x5,(.int .i64 0),(.int .i64 3)] s2 k) fun x6 s3=>
 us (aS (ag false x4) s3 (fA .not x6 s3)) fun x7=>
 us (aK x4 (.bool true) x7 s3) fun x8=>
 eu (ag false x8) 5 x1 s3 fun x9=>
 cb (ag false x8) s3 (fun k=>C 45 [x9,(.int .i64 1),(.int .i64 1000)] s3 k) fun cA s4=>
 us (aS (ag false x8) s4 (fA .not cA s4)) fun cF=>
 us (aK x8 (.bool true) cF s4) fun cO=>
 eu (ag false cO) 6 x1 s4 fun cI=>
 cb (ag false cO) s4 (fun k=>C 45 [cI,(.int .i64 1),(.int .i64 4)] s4 k) fun dq s5=>
 us (aS (ag false cO) s5 (fA .not dq s5)) fun dx=>
 us (aK cO (.bool true) dx s5) fun cX=>
 eu (ag false cX) 10 x1 s5 fun dp=>
 cb (ag false cX) s5 (fun k=>C 45 [dp,(.int .i64 1),(.int .i64 1000)] s5 k) fun db s6=>
 us (aS (ag false cX) s6 (fA .not db s6)) fun dm=>
 us (aK cX (.bool true) dm s6) fun dB=>
 aD dB (
 Q (.tuple [.aC,(.int .i64 1)]) s6) (
 fl 6 x1 s6 fun dV=>
 fl 5 x1 s6 fun dU=>
 us (ai .mul (none) false dV dU s6) fun dQ=>
 us (ai .add (none) true dQ (.int .i64 1) s6) fun fp=>
 C 46 [a4,fp,a5] s6 fun ew s7=>
 us (aB ew 0 s7) fun fk=>
 us (aB ew 1 s7) fun fM=>
 us (ai .neq (some .int) true fM (.int .i64 0) s7) fun fD=>
 aD fD (
 Q (.tuple [.aC,fM]) s7) (
 fl 10 x1 s7 fun gq=>
 us (bf [.aC, .aC,(.int .i64 0),(.int .i64 0),(.int .i64 0), .aa, .aa] [(0,1,a0),(1,1,fk),(2,1,a1),(3,1,a2),(4,1,gq)] s7) fun fE=>
 upon (eO 109 fE s7) fun gI s8=>
 Q (.tuple [gI,(.int .i64 0)]) s8)))):=by kernel_rfl
theorem ZG (C:aN)(a0 a1 a2:CV)(st:St)(Q:CV->St->Prop):aH P0 C (lvs 45) 45 [a0,a1,a2] st Q=
 (us (ai .geq (none) false a0 a1 st) fun x1=>
 us (aS (ag true x1) st (.ok a0 st)) fun x2=>
 us (aS (ag true x1) st (.ok a2 st)) fun x3=>
 us (aS (ag true x1) st (ai .leq (none) false x2 x3 st)) fun x4=>
 us (aK x1 x4 (.bool false) st) fun x5=>
 Q x5 st):=by kernel_rfl
theorem ZF (C:aN)(a0 a1 a2:CV)(st:St)(Q:CV->St->Prop):aH P0 C (lvs 46) 46 [a0,a1,a2] st Q=
 (us (ai .lss (none) true a0 (.int .i64 1) st) fun x1=>
 us (aS (ag false x1) st (.ok a0 st)) fun x2=>
 us (aS (ag false x1) st (ai .gtr (none) true x2 (.int .i64 2047) st)) fun x3=>
 us (aK x1 (.bool true) x3 st) fun x4=>
 us (aS (ag false x4) st (.ok a1 st)) fun x5=>
 us (aS (ag false x4) st (ai .lss (none) true x5 (.int .i64 1) st)) fun x6=>
 us (aK x4 (.bool true) x6 st) fun x7=>
 us (aS (ag false x7) st (.ok a1 st)) fun x8=>
 us (aS (ag false x7) st (ai .gtr (none) true x8 (.int .i64 2147483647) st)) fun x9=>
 us (aK x7 (.bool true) x9 st) fun cA=>
 us (aS (ag false cA) st (.ok a2 st)) fun cF=>
 cb (ag false cA) st (fun k=>C 88 [cF] st k) fun cO s1=>
 us (aS (ag false cA) s1 (fA .not cO s1)) fun cI=>
 us (aK cA (.bool true) cI s1) fun dq=>
 aD dq (
 Q (.tuple [.aC,(.int .i64 1)]) s1) (
 us (ai .mul (none) true a0 (.int .i64 1048576) s1) fun dx=>
 us (ai .mul (none) true a0 (.int .i64 1048576) s1) fun cX=>
 us (ai .add (none) true cX (.int .i64 1048576) s1) fun dp=>
 us (ai .sub (none) true dp (.int .i64 1) s1) fun db=>
 us (bf [(.int .i64 0),(.int .i64 0),(.int .i64 0),(.int .i64 0), .cD, .cD] [(0,1,a1),(1,1,a2),(2,1,dx),(3,1,db)] s1) fun dm=>
 upon (eO 219 dm s1) fun dB s2=>
 C 89 [dB] s2 fun dV s3=>
 Q (.tuple [dB,(.int .i64 0)]) s3)):=by kernel_rfl
theorem Y3 (C:aN)(a0:CV)(st:St)(Q:CV->St->Prop):aH P0 C (lvs 88) 88 [a0] st Q=
 (us (ai .geq (none) true a0 (.int .i64 0) st) fun x1=>
 us (aS (ag true x1) st (.ok a0 st)) fun x2=>
 us (aS (ag true x1) st (ai .leq (none) true x2 (.int .i64 2147483647) st)) fun x3=>
 us (aK x1 x3 (.bool false) st) fun x4=>
 Q x4 st):=by kernel_rfl
theorem Y2 (C:aN)(a0:CV)(st:St)(Q:CV->St->Prop):aH P0 C (lvs 89) 89 [a0] st Q=
 (us (ai .neq (some .ptr) true a0 .aC st) fun x1=>
 aD x1 (
 upon (fU none st) fun x2 s1=>
 upon (fU none s1) fun x3 s2=>
 kh 1 4 a0 x2 s2 fun s3=>
 kh 1 5 a0 x3 s3 fun s4=>
 Q .undef s4) (
 Q .undef st)):=by kernel_rfl
theorem Zo (C:aN)(a0 a1:CV)(st:St)(Q:CV->St->Prop):aH P0 C (lvs 63) 63 [a0,a1] st Q=
 (cd (
 upon (dW st.next 5 1 (cM 1 [(.int .u8 0)]) [(0,1,a0)] (St.skip st)) fun x1 s1=>
 us (bQ .strOf x1 s1) fun x2=>
 C 104 [a1] s1 fun x3 s2=>
 us (ai .add (none) false x2 x3 s2) fun x4=>
 (((us (bQ .strOf x1 s1) fun v=>v=x2)/\(us (bQ .strOf x1 s2) fun v=>v=x2)/\True)/\True)/\(((PT.get s2.mem st.next=PT.get s1.mem st.next)/\True)/\True)/\
 Q x4 s2)):=by kernel_rfl
theorem Sd (C:aN)(a0:CV)(st:St)(Q:CV->St->Prop):aH P0 C (lvs 104) 104 [a0] st Q=
 (us (ai .shr (none) true a0 (.int .u64 24) st) fun x1=>
 us (bQ (.toInt .u8) x1 st) fun x2=>
 us (ai .shr (none) true a0 (.int .u64 16) st) fun x3=>
 us (bQ (.toInt .u8) x3 st) fun x4=>
 us (ai .shr (none) true a0 (.int .u64 8) st) fun x5=>
 us (bQ (.toInt .u8) x5 st) fun x6=>
 us (bQ (.toInt .u8) a0 st) fun x7=>
 upon (bI 5 4 (cM 4 [(.int .u8 0)]) [(0,1,x2),(1,1,x4),(2,1,x6),(3,1,x7)] st) fun x8 s1=>
 us (bQ .strOf x8 s1) fun x9=>
 Q x9 s1):=by kernel_rfl
theorem ZS (C:aN)(a0 a1:CV)(st:St)(Q:CV->St->Prop):aH P0 C (lvs 31) 31 [a0,a1] st Q=
 (us (ai .eql (some .ptr) true a0 .aC st) fun x1=>
 aD x1 (
 Q (.tuple [.aa,(.int .i64 2)]) st) (
 cd (
 us (cz a0 st) fun x2=>
 us (al 0 x2 st) fun x3=>
 us (aw x3 st) fun x4=>
 us (cz a0 st) fun x5=>
 us (al 2 x5 st) fun x6=>
 us (aw x6 st) fun x7=>
 us (cz a0 st) fun x8=>
 us (al 9 x8 st) fun x9=>
 us (aw x9 st) fun cA=>
 C 63 [a1,cA] st fun cF s1=>
 us (cz a0 s1) fun cO=>
 us (al 9 cO s1) fun cI=>
 us (aw cI s1) fun dq=>
 us (ai .add (none) true dq (.int .i64 1) s1) fun dx=>
 C 63 [a1,dx] s1 fun cX s2=>
 C 38 [x4,x7,cF,cX] s2 fun dp s3=>
 us (aB dp 0 s3) fun db=>
 us (aB dp 1 s3) fun dm=>
 (((us (aw x3 s1) fun v=>v=x4)/\(us (aw x3 s2) fun v=>v=x4)/\True)/\((us (aw x6 s1) fun v=>v=x7)/\(us (aw x6 s2) fun v=>v=x7)/\True)/\(True)/\((us (aw cI st) fun v=>v=dq)/\True)/\True)/\(True)/\
 Q (.tuple [db,dm]) s3))):=by kernel_rfl
theorem Z6 (C:aN)(a0:CV)(st:St)(Q:CV->St->Prop):aH P0 C (lvs 16) 16 [a0] st Q=
 (C 31 [a0,(.int .u8 112)] st fun x1 s1=>
 us (aB x1 0 s1) fun x2=>
 us (aB x1 1 s1) fun x3=>
 cN (fun v3 s2=>
 cf (fun v5 s3 k6=>
 us (ai .lss (none) false (ak 4 v5) (ak 3 v5) s3) fun x8=>
 aD x8 (
 jh 2 2 (ak 2 v5) (ak 4 v5) s3 fun x9=>
 upon (dd 96 [(.str []),(.str [])] s3) fun cA s4=>
 upon (aT 2 cA x9 s4) fun _ s5=>
 cd (
 us (al 0 cA (St.skip s5)) fun cF=>
 us (aw cF (St.skip s5)) fun cO=>
 us (fK cO (some (.int .i64 5)) none (St.skip s5)) fun cI=>
 us (al 1 cA (St.skip s5)) fun dq=>
 us (aw dq (St.skip s5)) fun dx=>
 us (bf [(.str []),(.str [])] [(0,1,cI),(1,1,dx)] (St.skip s5)) fun cX=>
 upon (dW s5.next 97 1 (cM 1 [(.str []),(.str [])]) [(0,2,cX)] (St.skip s5)) fun dp s6=>
 upon (cy 97 2 32 (ak 1 v5) (dJ .slice 2 [(.str []),(.str [])] dp s6) s6) fun db s7=>
 (((us (aw cF s6) fun v=>v=cO)/\True)/\((us (aw dq s6) fun v=>v=dx)/\True)/\True)/\((True)/\True)/\
 us (ai .add (none) true (ak 4 v5) (.int .i64 1) s7) fun dm=>
 k6 [(ak 0 v5),db,(ak 2 v5),(ak 3 v5),dm] s7)) (
 Q (.tuple [(ak 1 v5),(ak 0 v5)]) s3)) [(ak 0 v3),(ak 1 v3),(ak 2 v3),(ak 3 v3),(ak 4 v3)] s2) fun k4=>
 us (bO .slice x2 s1) fun dB=>
 k4 [x3, .aa,x2,dB,(.int .i64 0)] s1):=by kernel_rfl
theorem Z5 (C:aN)(a0:CV)(st:St)(Q:CV->St->Prop):aH P0 C (lvs 17) 17 [a0] st Q=
 (C 31 [a0,(.int .u8 108)] st fun x1 s1=>
 us (aB x1 0 s1) fun x2=>
 us (aB x1 1 s1) fun x3=>
 cN (fun v3 s2=>
 cf (fun v5 s3 k6=>
 us (ai .lss (none) false (ak 4 v5) (ak 3 v5) s3) fun x8=>
 aD x8 (
 jh 2 2 (ak 2 v5) (ak 4 v5) s3 fun x9=>
 upon (dd 96 [(.str []),(.str [])] s3) fun cA s4=>
 upon (aT 2 cA x9 s4) fun _ s5=>
 fl 0 cA s5 fun cF=>
 fl 1 cA s5 fun cO=>
 C 32 [cF,cO] s5 fun cI s6=>
 us (aB cI 0 s6) fun dq=>
 us (aB cI 1 s6) fun dx=>
 upon (dd 101 [(.int .i64 0),(.int .i64 0),(.int .u8 0),(.bool false),(.str [])] s6) fun cX s7=>
 upon (aT 5 cX dq s7) fun _ s8=>
 us (aP 5 cX s8) fun dp=>
 upon (bI 101 1 (cM 1 [(.int .i64 0),(.int .i64 0),(.int .u8 0),(.bool false),(.str [])]) [(0,5,dp)] s8) fun db s9=>
 upon (cy 101 5 40 (ak 1 v5) (dJ .slice 5 [(.int .i64 0),(.int .i64 0),(.int .u8 0),(.bool false),(.str [])] db s9) s9) fun dm cw=>
 us (ai .add (none) true (ak 4 v5) (.int .i64 1) cw) fun dB=>
 k6 [(ak 0 v5),dm,(ak 2 v5),(ak 3 v5),dB] cw) (
 Q (.tuple [(ak 1 v5),(ak 0 v5)]) s3)) [(ak 0 v3),(ak 1 v3),(ak 2 v3),(ak 3 v3),(ak 4 v3)] s2) fun k4=>
 us (bO .slice x2 s1) fun dV=>
 k4 [x3, .aa,x2,dV,(.int .i64 0)] s1):=by kernel_rfl
theorem Z4 (C:aN)(a0:CV)(st:St)(Q:CV->St->Prop):aH P0 C (lvs 18) 18 [a0] st Q=
 (upon (dd 69 [(.int .i64 0),(.int .i64 0),(.int .u8 0),(.int .i64 0),(.int .i64 0),(.int .i64 0)] st) fun x1 s1=>
 us (ai .eql (some .ptr) true a0 .aC s1) fun x2=>
 aD x2 (
 us (bf [(.int .i64 0),(.int .i64 0),(.int .u8 0),(.int .i64 0),(.int .i64 0),(.int .i64 0)] [] s1) fun x3=>
 upon (aT 6 x1 x3 s1) fun _ s2=>
 us (aP 6 x1 s2) fun x4=>Q x4 s2) (
 tX 6 3 a0 s1 fun x5=>
 upon (aT 6 x1 x5 s1) fun _ s3=>
 us (aP 6 x1 s3) fun x6=>Q x6 s3)):=by kernel_rfl
theorem Z3 (C:aN)(a0 a1:CV)(st:St)(Q:CV->St->Prop):aH P0 C (lvs 19) 19 [a0,a1] st Q=
 (us (ai .eql (some .ptr) true a0 .aC st) fun x1=>
 aD x1 (
 Q .aa st) (
 eN 1 a0 st fun x2=>
 C 33 [x2,a1] st fun x3 s1=>
 Q x3 s1)):=by kernel_rfl
theorem Z2 (C:aN)(a0:CV)(st:St)(Q:CV->St->Prop):aH P0 C (lvs 20) 20 [a0] st Q=
 (us (ai .eql (some .ptr) true a0 .aC st) fun x1=>
 aD x1 (
 Q (.int .i64 0) st) (
 eN 5 a0 st fun x2=>
 us (bO .slice x2 st) fun x3=>
 Q x3 st)):=by kernel_rfl
section
variable {st st' s:St} {a b κ τ k n:Nat} {π:PI} {p:SetM} {id:Int} {T N fr:Nat}
theorem Nz (hb:1<=b/\b<=5)(s:St):∃L,jD 3 8 [.int .i64 0] (I b) (I b) s= .ok (.slice s.next 0 b b 0) (St.new s (.cells L 3 false))/\L.length=b:=by
 have h:b=1\/b=2\/b=3\/b=4\/b=5:=by omega
 rcases h with rfl|rfl|rfl|rfl|rfl<;>exact⟨_,rfl,rfl⟩
theorem Ih {w q:Nat}{x:CV}{L:List CV}(hw:st.mem.get w=some (.cells [x, .slice q 0 b b 0] 129 false))(hq:st.mem.get q=some (.cells L 3 false))(hL:L.length=b)(hlt:w<st.next/\q<st.next)(iJ:w≠q)(hb:b<=1000):R 42 [.ptr w 0,I 0] st fun y s=>Kp [q] st s:=by
 refine bp ?_;rw[ZJ,bD,ae,aE];have e0:ai .lss none true (I 0) (.int .i64 0) st= .ok (.bool false) st:=rfl;simp only[afY,agn,agj,aM,ae,e0,aF,ah];unfold eN;rw[bP];simp only[aV,ae,af,av,hw,ao,afZ,agb,afX,au,dE,aI,aJ];refine bA (fun fu vs s=>∃i L',fu+i=b/\vs=[.ptr w 0,I 0,I b,I i]/\Kp [q] st s/\s.mem.get q=some (.cells L' 3 false)/\L'.length=b) ?_ (n:=b) ⟨0,L,rfl,rfl,Kp.refl _ _,hq,hL⟩;rintro fu vs s K ⟨i,L',hi,rfl,kk,TJ,hL'⟩ next;simp only[aI,aJ];rw[de,ae,ah]
 by_cases hc:i<b
 ·rw[agi hc,agl rfl];have Hp:=(kk.keep w hlt.1 (by simp;exact iJ)).trans hw;simp only[aV,ae,af,av,Hp,ao,afZ,agb,afX,au];unfold BU;rw[du hc (.inl rfl),ae,aQ,TJ,bg];refine⟨⟨rfl,rfl,by omega⟩, ?_⟩;show us _ _;rw[gW i (by omega),ae];refine next (fu-1) _ _ (by omega) ⟨i+1,_,by omega,rfl,kk.set _ (.inl (by simp)) (ago hlt.2 kk.next),az _ _ _, ?_⟩;rw[mJ _ _ _ (by show 0+i*1+1<=_;omega)];exact hL'
 ·rw[agc hc,agf (by decide)];exact kk
theorem Fb {pat:Int}(hb:1<=b/\b<=5)(hp:1<=pat/\pat<=100000):R 25 [I b,I pat,I 0] st fun y s=>∃w,y= .tuple [.ptr w 0,I 0]/\Kp [] st s:=by
 refine bp ?_;rw[ZX];have e1:ai .lss none true (I b) (.int .i64 1) st= .ok (.bool false) st:=by rw[aA,bK,agc (by omega)]
 have e2:ai .gtr none true (I b) (.int .i64 5) st= .ok (.bool false) st:=by rw[aA,cC,agc (by omega)]
 have e3:ai .lss none true (I pat) (.int .i64 1) st= .ok (.bool false) st:=by rw[aA,bK,agc (by omega)]
 have e4:ai .gtr none true (I pat) (.int .i64 100000) st= .ok (.bool false) st:=by rw[aA,cC,agc (by omega)]
 have e5:ai .lss none true (I 0) (.int .i64 0) st= .ok (.bool false) st:=rfl;simp only[e1,e2,e3,e4,e5,ae,aE,afY,agn,agj,aM,aF,ah];obtain⟨L,hm,hL⟩:=Nz hb st;rw[hm,bj];generalize hs1:St.new st (.cells L 3 false)=s1;obtain⟨k1,g1,n1⟩:=da hs1;have kx:bf [.int .i64 0, .aa] [(0,1,I pat),(1,1, .slice st.next 0 b b 0)] s1= .ok (.agg [I pat, .slice st.next 0 b b 0]) s1:=rfl;rw[kx,ae,br];refine⟨rfl, ?_⟩;rw[ba];generalize ya:St.new s1 (.cells [I pat, .slice st.next 0 b b 0] 129 false)=s2;obtain⟨k2,g2,n2⟩:=da ya;refine(Ih g2 ((k2.keep st.next (by omega) (by simp)).trans g1) hL (by omega) (by omega) (by omega)).mono ?_;intro y s3 k3;exact⟨s1.next,rfl,(k1.trans k2).trans k3 fun q hq=> .inr (by simp at hq;omega)⟩
def ly (κ:Nat)(id:Int)(n:Nat):List CV:=[.ptr κ 0,I id,I ((8+n:Nat):Int),I 0,I 0, .int .u8 1,I 0,I 0,I 0,I 0]
def fR (st:St)(h κ:Nat)(id:Int)(n:Nat):Prop:=h<st.next/\st.mem.get h=some (.cells (ly κ id n) 105 false)
theorem fR.off {h:Nat}{X:List Nat}(hs:fR st h κ id n)(hk:Kp X st st')(hx:h∉X):fR st' h κ id n:=⟨ago hs.1 hk.next,(hk.keep h hs.1 hx).trans hs.2⟩
theorem fR.still {h:Nat}(hs:fR st h κ id n)(hk:Kp [] st st'):fR st' h κ id n:=⟨ago hs.1 hk.next,(hk.keep h hs.1 (by simp)).trans hs.2⟩
theorem V9 (x:CV)(st:St):R 87 [.cK,x] st fun y s=>y= .bool false/\s=st:=by
 refine bp ?_;rw[Y4];have e:ai .eql (some .iface) true .cK .cK st= .ok (.bool true) st:=rfl;rw[e,ae,ah,agl rfl];exact⟨rfl,rfl⟩
theorem JJ (st:St):R 43 [.cK] st fun y s=>y=I 0/\Kp [] st s:=by
 refine bp ?_;rw[ZI,cn,bj,aQ,aG,bg];refine⟨⟨rfl,rfl,by decide⟩, ?_⟩;have e:bB [CV.int .i64 0] 0 (CV.int .i64 0).bL=[I 0]:=rfl;rw[e];generalize ya:St.set (St.new st (.cells [.int .i64 0] 26 false)) st.next (.cells [I 0] 26 false)=s2;have g2:s2.mem.get st.next=some (.cells [I 0] 26 false):=by rw[<-ya];exact az _ _ _
 have k2:Kp [] st s2:=by rw[<-ya];exact((Kp.refl [] st).new _).set _ (.inr (aga _)) (Nat.lt_succ_self _)
 rw[show lG 214 (.ptr st.next 0) s2= .ok (.iface 214 (.ptr st.next 0)) s2 from rfl,ae];refine(V9 _ s2).same ?_;rw[av,g2,ao];exact⟨rfl,k2⟩
theorem J7 {h:Nat}(wT:kX κ τ π st [] [] T N fr)(hs:fR st h κ id n)(hn:n<4):R 44 [.ptr h 0] st fun y s=>y= .cK/\Kp [] st s:=by
 refine bp ?_;rw[ZH,bG];have f0:(ly κ id n)[0]?=some (.ptr κ 0):=rfl;have f2:(ly κ id n)[2]?=some (I ((8+n:Nat):Int)):=rfl;simp only[aV,ae,af,av,hs.2,ao,afZ,f0,f2,au];refine(zq wT (sp:=((8+n:Nat):Int)) (by omega) (by simp) (by simp)).mono ?_;rintro _ s1 ⟨x,rfl,k1,hx⟩;have en:ai .neq (some .int) true (I 0) (.int .i64 0) s1= .ok (.bool false) s1:=rfl;have len:∀s,bO .slice x s= .ok (I ((0:Nat):Int)) s:=fun s=>hx.len 0 rfl (by omega) s;have e0:ai .eql (some .int) true (I ((0:Nat):Int)) (.int .i64 0) s1= .ok (.bool true) s1:=rfl;rw[ay,ae,aL,ay,ae];refine⟨⟨trivial,trivial,trivial⟩,trivial, ?_⟩;rw[en,ae,ah,agf (by decide),len,ae,e0,ae,bP,ae];simp only[aI,aJ];refine ph ?_;simp only[aI,aJ];have e1:ai .lss none false (.int .i64 0) (I ((0:Nat):Int)) s1= .ok (.bool false) s1:=rfl;rw[e1,ae,ah,agf (by decide),bt,ae,ah,agm,agf (by decide)];exact⟨trivial,k1⟩
theorem Gr (wT:kX κ τ π st [] [] T N fr)(hi:1<=id/\id<=5)(hn:n<4):R 26 [.ptr κ 0,I id,I n] st fun y s=>∃h,y= .tuple [.ptr h 0,I 0]/\Kp [] st s/\fR s h κ id n/\st.next<=h:=by
 refine bp ?_;rw[ZW,bD,ae,ah,agf (by decide)];have e1:ai .lss none true (I id) (.int .i64 1) st= .ok (.bool false) st:=by rw[aA,bK,agc (by omega)]
 have e2:ai .gtr none true (I id) (.int .i64 5) st= .ok (.bool false) st:=by rw[aA,cC,agc (by omega)]
 have e3:ai .lss none true (I n) (.int .i64 0) st= .ok (.bool false) st:=by rw[aA,bK,agc (by omega)]
 have e4:ai .geq none true (I n) (.int .i64 4) st= .ok (.bool false) st:=by rw[aA,gJ,agc (by omega)]
 have e5:ai .add none true (.int .i64 8) (I n) st= .ok (I ((8+n:Nat):Int)) st:=by rw[aA,cR,bN (by omega)];congr 2
 simp only[e1,e2,e3,e4,ae,aE,afY,agn,agj,aM,aF,ah];have yR:bf [.int .i64 0, .int .i64 0, .int .u8 0, .int .i64 0, .int .i64 0, .int .i64 0] [(2,1, .int .u8 1)] st= .ok (.agg [I 0,I 0, .int .u8 1,I 0,I 0,I 0]) st:=rfl;have hb2:bf [.aC, .int .i64 0, .int .i64 0, .int .i64 0, .int .i64 0, .int .u8 0, .int .i64 0, .int .i64 0, .int .i64 0, .int .i64 0] [(0,1, .ptr κ 0),(1,1,I id),(2,1,I ((8+n:Nat):Int)),(3,6, .agg [I 0,I 0, .int .u8 1,I 0,I 0,I 0])] st= .ok (.agg (ly κ id n)) st:=rfl;rw[e5,ae,yR,ae,hb2,ae,br];refine⟨rfl, ?_⟩;rw[ba];generalize hs1:St.new st (.cells (ly κ id n) 105 false)=s1;obtain⟨k1,g1,n1⟩:=da hs1;have hS:fR s1 st.next κ id n:=⟨by omega,g1⟩;refine(J7 (wT.still k1) hS hn).mono ?_;rintro _ s2 ⟨rfl,k2⟩;refine(JJ s2).mono ?_;rintro _ s3 ⟨rfl,k3⟩;have en:ai .neq (some .int) true (I 0) (.int .i64 0) s3= .ok (.bool false) s3:=rfl;rw[en,ae,ah,agf (by decide)];exact⟨st.next,rfl,(k1.trans k2).trans k3,(hS.still k2).still k3,aga _⟩
end
section
variable {st st' s:St} {a b κ τ k n:Nat} {π:PI} {p:SetM} {id cH:Int} {T N fr:Nat}
def nv (st:St)(t mb:Nat):Prop:=t<st.next/\mb<st.next/\(∃L,st.mem.get t=some (.cells L 219 false)/\L[4]?=some (.map mb))/\st.mem.get mb=some (.map [] 0)
theorem nv.off {t mb:Nat}{X:List Nat}(h:nv st t mb)(hk:Kp X st st')(h1:t∉X)(h2:mb∉X):nv st' t mb:=by
 obtain⟨l1,l2,⟨L,h3,h4⟩,h5⟩:=h;exact⟨ago l1 hk.next,ago l2 hk.next,⟨L,(hk.keep t l1 h1).trans h3,h4⟩,(hk.keep mb l2 h2).trans h5⟩
theorem J0 {x y:Int}(h: -9223372036854775808<=x*y/\x*y<=9223372036854775807)(c:Bool)(s:St):ai .mul none c (I x) (I y) s= .ok (I (x*y)) s:=by rw[aA,jE,bN h]
theorem Hf {hold:Int}(hl:1<=cH/\cH<=2047)(hh:1<=hold/\hold<=2147483647):R 46 [I cH,I hold,I 0] st fun y s=>∃t mb,y= .tuple [.ptr t 0,I 0]/\Kp [] st s/\nv s t mb/\st.next<=t/\st.next<=mb:=by
 refine bp ?_;rw[ZF];have e1:ai .lss none true (I cH) (.int .i64 1) st= .ok (.bool false) st:=by rw[aA,bK,agc (by omega)]
 have e2:ai .gtr none true (I cH) (.int .i64 2047) st= .ok (.bool false) st:=by rw[aA,cC,agc (by omega)]
 have e3:ai .lss none true (I hold) (.int .i64 1) st= .ok (.bool false) st:=by rw[aA,bK,agc (by omega)]
 have e4:ai .gtr none true (I hold) (.int .i64 2147483647) st= .ok (.bool false) st:=by rw[aA,cC,agc (by omega)]
 simp only[e1,e2,e3,e4,ae,aE,afY,agn,agj,aM,aF,ah,bF]
 have c88:R 88 [I 0] st fun y s=>y= .bool true/\s=st:=by
  refine bp ?_;rw[Y3];exact⟨rfl,rfl⟩
 refine c88.same ?_;rw[bt,ae,ah,agm,agf (by decide)];have m1:ai .mul none true (I cH) (.int .i64 1048576) st= .ok (I (cH*1048576)) st:=J0 (by omega) _ _;have m2:ai .add none true (I (cH*1048576)) (.int .i64 1048576) st= .ok (I (cH*1048576+1048576)) st:=by rw[aA,cR,bN (by omega)]
 have m3:ai .sub none true (I (cH*1048576+1048576)) (.int .i64 1) st= .ok (I (cH*1048576+1048576-1)) st:=by rw[aA,fF,bN (by omega)]
 have kx:bf [.int .i64 0, .int .i64 0, .int .i64 0, .int .i64 0, .cD, .cD] [(0,1,I hold),(1,1,I 0),(2,1,I (cH*1048576)),(3,1,I (cH*1048576+1048576-1))] st= .ok (.agg [I hold,I 0,I (cH*1048576),I (cH*1048576+1048576-1), .cD, .cD]) st:=rfl;rw[m1,ae,ae,m2,ae,m3,ae,kx,ae,br];refine⟨rfl, ?_⟩;rw[ba];generalize ya:St.new st (.cells [I hold,I 0,I (cH*1048576),I (cH*1048576+1048576-1), .cD, .cD] 219 false)=s2;obtain⟨k2,g2,n2⟩:=da ya
 have key:R 89 [.ptr st.next 0] s2 fun y s=>Kp [st.next] s2 s/\nv s st.next s2.next:=by
  refine bp ?_;rw[Y2];have en:ai .neq (some .ptr) true (.ptr st.next 0) .aC s2= .ok (.bool true) s2:=rfl;rw[en,ae,ah,agl rfl,ft,bj];generalize Em:St.new s2 (.map [] 0)=s3;obtain⟨k3,g3,n3⟩:=da Em;rw[ft,bj];generalize N6:St.new s3 (.map [] 0)=s4;obtain⟨k4,g4,n4⟩:=da N6;have gT:=((k3.trans k4).keep st.next (by omega) (by simp)).trans g2;have gM:=(k4.keep s2.next (by omega) (by simp)).trans g3;unfold kh;rw[aV,ae,af,ae,aQ,gT,bg];refine⟨⟨rfl,rfl,by simp⟩, ?_⟩;have e:bB [I hold,I 0,I (cH*1048576),I (cH*1048576+1048576-1), .cD, .cD] (0+4) (CV.map s2.next).bL=[I hold,I 0,I (cH*1048576),I (cH*1048576+1048576-1), .map s2.next, .cD]:=rfl;rw[e];generalize Hs:St.set s4 st.next (.cells [I hold,I 0,I (cH*1048576),I (cH*1048576+1048576-1), .map s2.next, .cD] 219 false)=s5;have g5:s5.mem.get st.next=some (.cells [I hold,I 0,I (cH*1048576),I (cH*1048576+1048576-1), .map s2.next, .cD] 219 false):=by rw[<-Hs];exact az _ _ _
  have VF:s5.mem.get s2.next=some (.map [] 0):=by rw[<-Hs];exact(aq _ _ _ _ (by omega)).trans gM
  have n5:s5.next=s4.next:=by rw[<-Hs];rfl
  have k5:Kp [st.next] s2 s5:=by rw[<-Hs];exact((k3.trans k4).mono (by simp)).set _ (.inl (by simp)) (by omega)
  show us _ _;rw[aV,ae,af,ae,aQ,g5,bg];refine⟨⟨rfl,rfl,by simp⟩, ?_⟩;refine⟨k5.set _ (.inl (by simp)) (by omega), ?_, ?_,⟨_,az _ _ _,rfl⟩,(aq _ _ _ _ (by omega)).trans VF⟩
  ·show st.next<s5.next;omega
  ·show s2.next<s5.next;omega
 refine key.mono ?_;rintro _ s3 ⟨k3,hT⟩;exact⟨st.next,s2.next,rfl,k2.trans k3 fun q hq=> .inr (by simp at hq;omega),hT,by omega,by omega⟩
theorem za (x y z:Int)(st:St):R 45 [I x,I y,I z] st fun r s=>r= .bool (nG x y z)/\s=st:=by
 refine bp ?_;rw[ZG];unfold nG
 by_cases h:y<=x
 ·simp only[aA,gJ,ae,agi h,aE,ags,aM,il,aF,Bool.true_and];exact⟨trivial,trivial⟩
 ·simp only[aA,gJ,ae,agc h,aE,ags,bT,aF,Bool.false_and,afY,agn];exact⟨trivial,trivial⟩
theorem JK {B o:Nat}{L:List CV}{t:TypeId}{g:Bool}(hB:s.mem.get B=some (.cells L t g)){x lo hi:Int}(ho:L[o]?=some (I x))(hx:lo<=x/\x<=hi){K:CV->St->Prop}(hK:K (.bool false) s):
 eu (ag false (.bool false)) o (.ptr B 0) s fun fk=>cb (ag false (.bool false)) s (fun k=>R 45 [fk,I lo,I hi] s k) fun fD s5=>us (aS (ag false (.bool false)) s5 (fA .not fD s5)) fun gq=>us (aK (.bool false) (.bool true) gq s5) fun y=>K y s5:=by
 unfold eu;simp only[aE,afY,agn,agj,aM,af,ae,av,hB,ao,afZ,ho,au,bF];refine(za x lo hi s).same ?_;rw[fP.2 hx,bt,ae,aF,agf (by decide),ae];exact hK
def lV (st:St)(o t mb:Nat):Prop:=o<st.next/\(∃L,st.mem.get o=some (.cells L 109 false)/\L[1]?=some (.ptr t 0)/\L[5]?=some .aa)/\nv st t mb
theorem lV.off {o t mb:Nat}{X:List Nat}(h:lV st o t mb)(hk:Kp X st st')(h1:o∉X)(h2:t∉X)(h3:mb∉X):lV st' o t mb:=by
 obtain⟨l,⟨L,g1,g2,g3⟩,h4⟩:=h;exact⟨ago l hk.next,⟨L,(hk.keep o l h1).trans g1,g2,g3⟩,h4.off hk h2 h3⟩
theorem GH {h:Nat}(hg:FL p)(hi:1<=id/\id<=5)(hn:n<4)(hl:1<=cH/\cH<=2047):R 27 [.ptr h 0,I id,I n, .agg (eL p),I cH,I 0] st fun y s=>∃o t mb,y= .tuple [.ptr o 0,I 0]/\Kp [] st s/\lV s o t mb/\st.next<=o/\st.next<=t/\st.next<=mb:=by
 refine bp ?_;rw[ZV,br];refine⟨rfl, ?_⟩;rw[ba,bD,ae,ah,agf (by decide)];generalize hs1:St.new st (.cells (eL p) 23 false)=s1;obtain⟨k1,g1,n1⟩:=da hs1;refine(za id 1 5 s1).same ?_;rw[fP.2 hi,bt,ae,agm];simp only[aE,afY,agn,agj,aM,ae,bF];refine(za (n:Int) 0 3 s1).same ?_;rw[fP.2 ⟨by omega,by omega⟩,bt,ae,aF,agf (by decide),ae,agm];obtain⟨hs,Cz,hse,hle,ED,hel,Vf⟩:=hg;refine JK g1 (o:=5) (x:=p.j0) rfl hle ?_;refine JK g1 (o:=6) (x:=p.iD) rfl ED ?_;refine JK g1 (o:=10) (x:=p.ja) rfl Vf ?_;rw[ah,agf (by decide)];have f5:(eL p)[5]?=some (I p.j0):=rfl;have f6:(eL p)[6]?=some (I p.iD):=rfl;have f10:(eL p)[10]?=some (I p.ja):=rfl
 have hm:1<=p.iD*p.j0/\p.iD*p.j0<=4000:=by
  have h:p.iD=1\/p.iD=2\/p.iD=3\/p.iD=4:=by omega
  rcases h with h|h|h|h<;>rw[h]<;>omega
 unfold fl;simp only[af,ae,av,g1,ao,afZ,f5,f6,au];have e2:ai .add none true (I (p.iD*p.j0)) (.int .i64 1) s1= .ok (I (p.iD*p.j0+1)) s1:=by rw[aA,cR,bN (by omega)]
 rw[J0 (by omega),ae,e2,ae];refine(Hf hl ⟨by omega,by omega⟩).mono ?_;rintro _ s7 ⟨t,mb,rfl,k7,hT,ht1,sq⟩;have g7:=(k7.keep st.next (by omega) (by simp)).trans g1;have en:ai .neq (some .int) true (I 0) (.int .i64 0) s7= .ok (.bool false) s7:=rfl;rw[ay,ae,aL,ay,ae,en,ae,ah,agf (by decide)];simp only[af,ae,av,g7,ao,afZ,f10,au];have kx:bf [.aC, .aC, .int .i64 0, .int .i64 0, .int .i64 0, .aa, .aa] [(0,1, .ptr h 0),(1,1, .ptr t 0),(2,1,I id),(3,1,I n),(4,1,I p.ja)] s7= .ok (.agg [.ptr h 0, .ptr t 0,I id,I n,I p.ja, .aa, .aa]) s7:=rfl;rw[kx,ae,br];refine⟨rfl, ?_⟩;rw[ba];generalize Tx:St.new s7 (.cells [.ptr h 0, .ptr t 0,I id,I n,I p.ja, .aa, .aa] 109 false)=s8;obtain⟨k8,g8,n8⟩:=da Tx;have n7:=k7.next;exact⟨s7.next,t,mb,rfl,(k1.trans k7).trans k8,⟨by omega,⟨_,g8,rfl,rfl⟩,hT.off k8 (by simp) (by simp)⟩,by omega,by omega,by omega⟩
end
theorem Wi (C:aN)(a0 a1 a2 a3 a4:CV)(st:St)(Q:CV->St->Prop):aH P0 C (lvs 12) 12 [a0,a1,a2,a3,a4] st Q=
 (upon (eO 23 a1 st) fun x1 s1=>
 us (ai .eql (some .ptr) true a2 .aC s1) fun x2=>
 aD x2 (
 Q (.tuple [.aC,(.int .i64 2)]) s1) (
 us (aP 13 x1 s1) fun x3=>
 C 4 [x3] s1 fun x4 s2=>
 us (fA .not x4 s2) fun x5=>
 us (aS (ag false x5) s2 (.ok a0 s2)) fun x6=>
 us (aS (ag false x5) s2 (ai .lss (none) true x6 (.int .i64 1) s2)) fun x7=>
 us (aK x5 (.bool true) x7 s2) fun x8=>
 us (aS (ag false x8) s2 (.ok a0 s2)) fun x9=>
 eu (ag false x8) 0 x1 s2 fun cA=>
 us (aS (ag false x8) s2 (ai .gtr (none) false x9 cA s2)) fun cF=>
 us (aK x8 (.bool true) cF s2) fun cO=>
 us (aS (ag false cO) s2 (.ok a3 s2)) fun cI=>
 us (aS (ag false cO) s2 (ai .lss (none) true cI (.int .i64 1) s2)) fun dq=>
 us (aK cO (.bool true) dq s2) fun dx=>
 us (aS (ag false dx) s2 (.ok a3 s2)) fun cX=>
 us (aS (ag false dx) s2 (ai .gtr (none) true cX (.int .i64 2047) s2)) fun dp=>
 us (aK dx (.bool true) dp s2) fun db=>
 aD db (
 Q (.tuple [.aC,(.int .i64 1)]) s2) (
 eG C a4 [a2] s2 fun dm s3=>
 us (aB dm 0 s3) fun dB=>
 us (aB dm 1 s3) fun dV=>
 us (ai .neq (some .int) true dV (.int .i64 0) s3) fun dU=>
 aD dU (
 Q (.tuple [.aC,dV]) s3) (
 us (aP 13 x1 s3) fun dQ=>
 C 24 [dB,a0,dQ] s3 fun fp s4=>
 us (aB fp 0 s4) fun ew=>
 us (aB fp 1 s4) fun fk=>
 us (ai .neq (some .int) true fk (.int .i64 0) s4) fun fM=>
 aD fM (
 Q (.tuple [.aC,fk]) s4) (
 fl 0 x1 s4 fun fD=>
 fl 9 x1 s4 fun gq=>
 us (ai .mul (none) true (.int .i64 4) gq s4) fun fE=>
 C 25 [fD,fE,(.int .i64 0)] s4 fun gI s5=>
 us (aB gI 0 s5) fun iu=>
 us (aB gI 1 s5) fun gX=>
 us (ai .neq (some .int) true gX (.int .i64 0) s5) fun gz=>
 aD gz (
 Q (.tuple [.aC,gX]) s5) (
 cd (
 us (aP 13 x1 s5) fun iy=>
 us (al 3 x1 s5) fun jc=>
 us (aw jc s5) fun iC=>
 upon (jD 380 8 [.aC] iC iC s5) fun je s6=>
 us (bf (List.replicate 14 (.int .i64 0)++[.aC, .aC, .aa, .aa, .aa, .aC,(.int .i64 0),(.int .i64 0),(.bool false), .aa]) [(0,1,a0),(1,13,iy),(14,1,dB),(15,1,ew),(19,1,iu),(18,1,je)] s6) fun kg=>
 upon (eO 57 kg s6) fun kG s7=>
 (((us (aP 13 x1 s6) fun v=>v=iy)/\True)/\(True)/\True)/\(True)/\
 cN (fun tx s8=>
 cf (fun nX s9 SU=>
 us (ai .lss (none) false (ak 6 nX) (ak 5 nX) s9) fun qp=>
 aD qp (
 C 26 [(ak 3 nX),(ak 0 nX),(ak 6 nX)] s9 fun m6 cw=>
 us (aB m6 0 cw) fun nD=>
 us (aB m6 1 cw) fun qo=>
 us (ai .neq (some .int) true qo (.int .i64 0) cw) fun oJ=>
 aD oJ (
 Q (.tuple [.aC,qo]) cw) (
 us (aP 13 (ak 2 nX) cw) fun qn=>
 C 27 [nD,(ak 0 nX),(ak 6 nX),qn,(ak 1 nX),(.int .i64 0)] cw fun kF cB=>
 us (aB kF 0 cB) fun tp=>
 us (aB kF 1 cB) fun tn=>
 us (ai .neq (some .int) true tn (.int .i64 0) cB) fun qZ=>
 aD qZ (
 Q (.tuple [.aC,tn]) cB) (
 cd (
 us (cz (ak 4 nX) (St.skip (St.skip cB))) fun tm=>
 us (al 16 tm (St.skip (St.skip cB))) fun qm=>
 us (aw qm (St.skip (St.skip cB))) fun me=>
 upon (dW cB.next 59 1 (cM 1 [.aC]) [(0,1,nD)] (St.skip (St.skip cB))) fun nJ eJ=>
 upon (cy 59 1 8 me (dJ .slice 1 [.aC] nJ eJ) eJ) fun mj eD=>
 us (cz (ak 4 nX) eD) fun qY=>
 us (al 17 qY eD) fun ve=>
 us (aw ve eD) fun ru=>
 upon (dW (St.skip cB).next 72 1 (cM 1 [.aC]) [(0,1,tp)] eD) fun wO ep=>
 upon (cy 72 1 8 ru (dJ .slice 1 [.aC] wO ep) ep) fun kE jl=>
 us (cz (ak 4 nX) jl) fun qX=>
 us (al 16 qX jl) fun vd=>
 upon (aT 1 vd mj jl) fun wX iw=>
 us (cz (ak 4 nX) iw) fun yV=>
 us (al 17 yV iw) fun tl=>
 upon (aT 1 tl kE iw) fun Ag jS=>
 (((us (aw qm eJ) fun v=>v=me)/\True)/\((us (aw ve eJ) fun v=>v=ru)/\(us (aw ve ep) fun v=>v=ru)/\True)/\True)/\((True)/\((PT.get eJ.mem (St.skip cB).next=none)/\True)/\True)/\
 us (ai .add (none) true (ak 6 nX) (.int .i64 1) jS) fun yU=>
 SU [(ak 0 nX),(ak 1 nX),(ak 2 nX),(ak 3 nX),(ak 4 nX),(ak 5 nX),yU] jS)))) (
 Q (.tuple [(ak 4 nX),(.int .i64 0)]) s9)) [(ak 0 tx),(ak 1 tx),(ak 2 tx),(ak 3 tx),(ak 4 tx),(ak 5 tx),(ak 6 tx)] s8) fun SV=>
 fl 3 x1 s7 fun CP=>
 SV [a0,a3,x1,dB,kG,CP,(.int .i64 0)] s7))))))):=by kernel_rfl
theorem w6 (C:aN)(a0 a1 a2:CV)(st:St)(Q:CV->St->Prop):aH P0 C (lvs 6) 6 [a0,a1,a2] st Q=
 (upon (eO 23 a1 st) fun x1 s1=>
 us (aP 13 x1 s1) fun x2=>
 C 12 [a0,x2,a2,(.int .i64 1),(.func (.func 13) [] [])] s1 fun x3 s2=>
 us (aB x3 0 s2) fun x4=>
 us (aB x3 1 s2) fun x5=>
 Q (.tuple [x4,x5]) s2):=by kernel_rfl
theorem w7 (C:aN)(a0 a1 a2 a3:CV)(st:St)(Q:CV->St->Prop):aH P0 C (lvs 7) 7 [a0,a1,a2,a3] st Q=
 (upon (eO 23 a1 st) fun x1 s1=>
 us (aP 13 x1 s1) fun x2=>
 C 12 [a0,x2,a2,a3,(.func (.func 14) [] [])] s1 fun x3 s2=>
 us (aB x3 0 s2) fun x4=>
 us (aB x3 1 s2) fun x5=>
 Q (.tuple [x4,x5]) s2):=by kernel_rfl
theorem w8 (C:aN)(a0:CV)(st:St)(Q:CV->St->Prop):aH P0 C (lvs 8) 8 [a0] st Q=
 (us (ai .eql (some .ptr) true a0 .aC st) fun x1=>
 aD x1 (
 Q (.int .i64 0) st) (
 eN 21 a0 st fun x2=>
 Q x2 st)):=by kernel_rfl
theorem w9 (C:aN)(a0:CV)(st:St)(Q:CV->St->Prop):aH P0 C (lvs 9) 9 [a0] st Q=
 (C 15 [a0] st fun x1 s1=>
 us (fA .not x1 s1) fun x2=>
 aD x2 (
 Q .aa s1) (
 cN (fun v2 s2=>
 cf (fun v4 s3 k5=>
 us (ai .lss (none) false (ak 4 v4) (ak 3 v4) s3) fun x7=>
 aD x7 (
 idx 1 (ak 2 v4) (ak 4 v4) s3 fun x8=>
 C 16 [x8] s3 fun x9 s4=>
 us (aB x9 0 s4) fun cA=>
 us (aB x9 1 s4) fun cF=>
 C 17 [x8] s4 fun cO s5=>
 us (aB cO 0 s5) fun cI=>
 us (aB cO 1 s5) fun dq=>
 cd (
 C 18 [x8] (St.skip s5) fun dx s6=>
 us (cz (ak 0 v4) s6) fun cX=>
 us (al 17 cX s6) fun dp=>
 us (aw dp s6) fun db=>
 us (cm 1 db (ak 4 v4) s6) fun dm=>
 us (aw dm s6) fun dB=>
 us (cz (ak 0 v4) s6) fun dV=>
 us (al 21 dV s6) fun dU=>
 us (aw dU s6) fun dQ=>
 C 19 [dB,dQ] s6 fun fp s7=>
 us (cz (ak 0 v4) s7) fun ew=>
 us (al 17 ew s7) fun fk=>
 us (aw fk s7) fun fM=>
 us (cm 1 fM (ak 4 v4) s7) fun fD=>
 us (aw fD s7) fun gq=>
 C 20 [gq] s7 fun fE s8=>
 us (bf [(.int .i64 0),(.int .i64 0),(.int .u8 0),(.int .i64 0),(.int .i64 0),(.int .i64 0), .aa, .aa, .aa,(.int .i64 0)] [(0,6,dx),(6,1,cA),(7,1,cI),(8,1,fp),(9,1,fE)] s8) fun gI=>
 upon (dW s5.next 75 1 (cM 1 [(.int .i64 0),(.int .i64 0),(.int .u8 0),(.int .i64 0),(.int .i64 0),(.int .i64 0), .aa, .aa, .aa,(.int .i64 0)]) [(0,10,gI)] s8) fun iu s9=>
 upon (cy 75 10 128 (ak 1 v4) (dJ .slice 10 [(.int .i64 0),(.int .i64 0),(.int .u8 0),(.int .i64 0),(.int .i64 0),(.int .i64 0), .aa, .aa, .aa,(.int .i64 0)] iu s9) s9) fun gX cw=>
 (((us (aw dp (St.skip s5)) fun v=>v=db)/\(us (aw dp s6) fun v=>v=db)/\True)/\((us (aw dm (St.skip s5)) fun v=>v=dB)/\(us (aw dm s6) fun v=>v=dB)/\True)/\((us (aw dU (St.skip s5)) fun v=>v=dQ)/\(us (aw dU s6) fun v=>v=dQ)/\True)/\((us (aw fk (St.skip s5)) fun v=>v=fM)/\(us (aw fk s6) fun v=>v=fM)/\(us (aw fk s7) fun v=>v=fM)/\True)/\((us (aw fD (St.skip s5)) fun v=>v=gq)/\(us (aw fD s6) fun v=>v=gq)/\(us (aw fD s7) fun v=>v=gq)/\True)/\True)/\((True)/\True)/\
 us (ai .add (none) true (ak 4 v4) (.int .i64 1) cw) fun gz=>
 k5 [(ak 0 v4),gX,(ak 2 v4),(ak 3 v4),gz] cw)) (
 Q (ak 1 v4) s3)) [(ak 0 v2),(ak 1 v2),(ak 2 v2),(ak 3 v2),(ak 4 v2)] s2) fun k3=>
 eN 16 a0 s1 fun iy=>
 us (bO .slice iy s1) fun jc=>
 k3 [a0, .aa,iy,jc,(.int .i64 0)] s1)):=by kernel_rfl
theorem w10 (C:aN)(a0:CV)(st:St)(Q:CV->St->Prop):aH P0 C (lvs 10) 10 [a0] st Q=
 (C 15 [a0] st fun x1 s1=>
 us (fA .not x1 s1) fun x2=>
 aD x2 (
 Q .aa s1) (
 eN 15 a0 s1 fun x3=>
 C 21 [x3] s1 fun x4 s2=>
 C 22 [x4] s2 fun x5 s3=>
 Q x5 s3)):=by kernel_rfl
theorem Z7 (C:aN)(a0:CV)(st:St)(Q:CV->St->Prop):aH P0 C (lvs 15) 15 [a0] st Q=
 (us (ai .neq (some .ptr) true a0 .aC st) fun x1=>
 us (aS (ag true x1) st (.ok a0 st)) fun x2=>
 fB (ag true x1) 22 x2 st fun x3=>
 us (aS (ag true x1) st (fA .not x3 st)) fun x4=>
 us (aK x1 x4 (.bool false) st) fun x5=>
 Q x5 st):=by kernel_rfl
theorem Z1 (C:aN)(a0:CV)(st:St)(Q:CV->St->Prop):aH P0 C (lvs 21) 21 [a0] st Q=
 (C 34 [a0] st fun x1 s1=>
 us (fA .not x1 s1) fun x2=>
 aD x2 (
 Q .aC s1) (
 eN 16 a0 s1 fun x3=>
 C 35 [x3] s1 fun x4 s2=>
 Q x4 s2)):=by kernel_rfl
theorem ZR (C:aN)(a0:CV)(st:St)(Q:CV->St->Prop):aH P0 C (lvs 34) 34 [a0] st Q=
 (us (ai .neq (some .ptr) true a0 .aC st) fun x1=>
 us (aS (ag true x1) st (.ok a0 st)) fun x2=>
 fB (ag true x1) 19 x2 st fun x3=>
 us (aS (ag true x1) st (fA .not x3 st)) fun x4=>
 us (aK x1 x4 (.bool false) st) fun x5=>
 Q x5 st):=by kernel_rfl
theorem w3 (C:aN)(a0 a1 a2:CV)(st:St)(Q:CV->St->Prop):aH P0 C (lvs 3) 3 [a0,a1,a2] st Q=
 (upon (eO 23 a0 st) fun x1 s1=>
 us (aP 13 x1 s1) fun x2=>
 C 4 [x2] s1 fun x3 s2=>
 eu (ag true x3) 4 x1 s2 fun x4=>
 us (aS (ag true x3) s2 (ai .gtr (none) true x4 (.int .i64 6000) s2)) fun x5=>
 us (aK x3 x5 (.bool false) s2) fun x6=>
 aD x6 (
 Q (.bool true) s2) (
 C 5 [(.int .i64 3000)] s2 fun x7 s3=>
 us (aB x7 0 s3) fun x8=>
 us (aB x7 1 s3) fun x9=>
 cN (fun v9 s4=>
 us (ai .neq (some .int) true (ak 4 v9) (.int .i64 0) s4) fun cO=>
 aD cO (
 Q (.bool false) s4) (
 us (aP 13 (ak 2 v9) s4) fun cI=>
 C 4 [cI] s4 fun dq s5=>
 us (aS (ag true dq) s5 (.ok (ak 0 v9) s5)) fun dx=>
 us (aS (ag true dq) s5 (ai .geq (none) true dx (.int .i64 1) s5)) fun cX=>
 us (aK dq cX (.bool false) s5) fun dp=>
 us (aS (ag true dp) s5 (.ok (ak 0 v9) s5)) fun db=>
 eu (ag true dp) 0 (ak 2 v9) s5 fun dm=>
 us (aS (ag true dp) s5 (ai .leq (none) false db dm s5)) fun dB=>
 us (aK dp dB (.bool false) s5) fun dV=>
 us (aP 13 (ak 2 v9) s5) fun dU=>
 C 6 [(ak 0 v9),dU,(ak 3 v9)] s5 fun dQ s6=>
 us (aB dQ 0 s6) fun fp=>
 us (aB dQ 1 s6) fun ew=>
 us (ai .eql (some .int) true ew (.int .i64 0) s6) fun fk=>
 us (ai .neq (some .bool) false dV fk s6) fun fM=>
 us (aS (ag false fM) s6 (.ok dV s6)) fun fD=>
 us (aS (ag false fM) s6 (fA .not fD s6)) fun gq=>
 us (aS (ag false fM) s6 (.ok gq s6)) fun fE=>
 us (aS (ag true fE) s6 (.ok ew s6)) fun gI=>
 us (aS (ag true fE) s6 (ai .neq (some .int) true gI (.int .i64 1) s6)) fun iu=>
 us (aS (ag true fE) s6 (.ok iu s6)) fun gX=>
 us (aS (ag false gX) s6 (.ok fp s6)) fun gz=>
 us (aS (ag false gX) s6 (ai .neq (some .ptr) true gz .aC s6)) fun iy=>
 us (aS (ag true fE) s6 (aK gX (.bool true) iy s6)) fun jc=>
 us (aS (ag false fM) s6 (aK fE jc (.bool false) s6)) fun iC=>
 us (aK fM (.bool true) iC s6) fun je=>
 aD je (
 Q (.bool false) s6) (
 us (aP 13 (ak 2 v9) s6) fun kg=>
 C 7 [(ak 0 v9),kg,(ak 3 v9),(ak 1 v9)] s6 fun kG s7=>
 us (aB kG 0 s7) fun kD=>
 us (aB kG 1 s7) fun kf=>
 us (fA .not dV s7) fun m7=>
 us (aS (ag false m7) s7 (.ok (ak 1 v9) s7)) fun oF=>
 us (aS (ag false m7) s7 (ai .lss (none) true oF (.int .i64 1) s7)) fun qp=>
 us (aK m7 (.bool true) qp s7) fun m6=>
 us (aS (ag false m6) s7 (.ok (ak 1 v9) s7)) fun nD=>
 us (aS (ag false m6) s7 (ai .gtr (none) true nD (.int .i64 2047) s7)) fun qo=>
 us (aK m6 (.bool true) qo s7) fun oJ=>
 aD oJ (
 us (ai .eql (some .int) true kf (.int .i64 1) s7) fun qn=>
 us (aS (ag true qn) s7 (.ok kD s7)) fun kF=>
 us (aS (ag true qn) s7 (ai .eql (some .ptr) true kF .aC s7)) fun tp=>
 us (aK qn tp (.bool false) s7) fun tn=>
 Q tn s7) (
 cd (
 us (ai .eql (some .int) true kf (.int .i64 0) s7) fun qZ=>
 us (aS (ag true qZ) s7 (.ok kD s7)) fun tm=>
 cb (ag true qZ) s7 (fun k=>C 8 [tm] s7 k) fun qm s8=>
 us (aS (ag true qZ) s8 (ai .eql (some .int) true qm (.int .i64 0) s8)) fun me=>
 us (aK qZ me (.bool false) s8) fun nJ=>
 us (aS (ag true nJ) s8 (.ok kD s8)) fun mj=>
 cb (ag true nJ) s8 (fun k=>C 9 [mj] s8 k) fun qY s9=>
 us (aS (ag true nJ) s9 (bO .slice qY s9)) fun ve=>
 us (aS (ag true nJ) s9 (al 3 (ak 2 v9) s9)) fun ru=>
 us (aS (ag true nJ) s9 (aw ru s9)) fun wO=>
 us (aS (ag true nJ) s9 (ai .eql (some .int) false ve wO s9)) fun kE=>
 us (aK nJ kE (.bool false) s9) fun qX=>
 us (aS (ag true qX) s9 (.ok kD s9)) fun vd=>
 cb (ag true qX) s9 (fun k=>C 10 [vd] s9 k) fun wX cw=>
 us (aS (ag true qX) cw (bO .slice wX cw)) fun yV=>
 us (aS (ag true qX) cw (al 3 (ak 2 v9) cw)) fun tl=>
 us (aS (ag true qX) cw (aw tl cw)) fun Ag=>
 us (aS (ag true qX) cw (ai .eql (some .int) false yV Ag cw)) fun yU=>
 us (aK qX yU (.bool false) cw) fun CP=>
 (((us (aS (ag true nJ) s8 (aw ru s8)) fun v=>v=wO)/\True)/\((us (aS (ag true qX) s9 (aw tl s9)) fun v=>v=Ag)/\True)/\True)/\(True)/\
 Q CP cw))))) fun kZ=>
 us (aP 13 x1 s3) fun JE=>
 C 4 [JE] s3 fun MM cB=>
 aD MM (
 fl 4 x1 cB fun L0=>
 C 5 [L0] cB fun JD eJ=>
 us (aB JD 0 eJ) fun JC=>
 us (aB JD 1 eJ) fun Io=>
 kZ [a1,a2,x1,JC,Io] eJ) (
 kZ [a1,a2,x1,x8,x9] cB))):=by kernel_rfl
section
variable {st st' s:St} {a b κ τ k n:Nat} {π:PI} {p:SetM} {id cH:Int} {T N fr:Nat}
def ff (id:Int)(p:SetM)(κ kp:Nat)(re ows zi:CV)(w:Nat):List CV:=[I id]++eL p++[.ptr κ 0, .ptr kp 0,re,ows,zi, .ptr w 0,I 0,I 0, .bool false, .aa]
theorem Hc (ha:1<=a/\a<=4)(s:St):∃L,jD 380 8 [.aC] (I a) (I a) s= .ok (.slice s.next 0 a a 0) (St.new s (.cells L 380 false)):=by
 have h:a=1\/a=2\/a=3\/a=4:=by omega
 rcases h with rfl|rfl|rfl|rfl<;>exact⟨_,rfl⟩
def kJ (f:Nat->Nat)(n:Nat):List CV:=(List.range n).map fun i=> .ptr (f i) 0
theorem mD (f:Nat->Nat)(n:Nat):(kJ f n).length=n:=by unfold kJ;simp
theorem uA (f:Nat->Nat)(n:Nat):kJ f (n+1)=kJ f n++[.ptr (f n) 0]:=by unfold kJ;rw[List.range_succ,ahp];rfl
theorem rN {f g:Nat->Nat}{n:Nat}(h:∀i,i<n->f i=g i):kJ f n=kJ g n:=by
 unfold kJ;exact List.map_congr_left fun i hi=>by rw[h i (List.mem_range.1 hi)]
def FD (s:St)(κ:Nat)(id:Int)(X:List Nat)(i h o t mb:Nat):Prop:=fR s h κ id i/\lV s o t mb/\h∉X/\o∉X/\t∉X/\mb∉X
def nw (s:St)(x κ:Nat)(p:SetM)(id:Int)(a b n:Nat)(Fs Fo:List Nat):Prop:=
 x<s.next/\∃(kp w:Nat) (re ows zi:CV) (sh ow t mb:Nat->Nat),s.mem.get x=some (.cells (ff id p κ kp re ows zi w) 57 false)/\ta s kp κ p id a b/\Own s re 1 59 (kJ sh n) Fs/\Own s ows 1 72 (kJ ow n) Fo/\(∀q∈Fs,q<s.next)/\(∀q∈Fo,q<s.next)/\∀i,i<n->FD s κ id (x::(Fs++Fo)) i (sh i) (ow i) (t i) (mb i)
def FJ (Z:Nat->PI->Nat->Prop)(N:Nat)(F:List Nat)(st:St)(y:CV)(s:St):Prop:=∃κ τ π T fr,y= .tuple [.ptr κ 0,I 0]/\Kp F st s/\kX κ τ π s [] [] T N fr/\Z τ π T
def ny (Z:Nat->PI->Nat->Prop)(N:Nat)(F:List Nat)(p:SetM)(id:Int)(a b:Nat)(st:St)(y:CV)(s:St):Prop:=∃x κ τ π T fr Fs Fo,y= .tuple [.ptr x 0,I 0]/\Kp F st s/\kX κ τ π s [] [] T N fr/\Z τ π T/\nw s x κ p id a b a Fs Fo
set_option maxHeartbeats 2000000 in
theorem DZ {fo d:Nat}{F:List Nat}{Z:Nat->PI->Nat->Prop}(hm:jJ p=true)(hi:1<=id/\id<=p.bH)(ha:p.dZ=(a:Int))(hb:p.bH=(b:Int))(tf:1<=a/\a<=4)(ig:1<=b/\b<=5)(hl:1<=cH/\cH<=2047)(hf:dw st)(hF:∀q∈F,q<st.next)(ho:∀s1,Kp [] st s1->R fo [.ptr d 0] s1 (FJ Z N F s1)):
 R 12 [I id, .agg (eL p), .ptr d 0,I cH, .func (.func fo) [] []] st (ny Z N F p id a b st):=by
 have hg:=p8 hm;refine bp ?_;rw[Wi,br];refine⟨rfl, ?_⟩;rw[ba,bD,ae,ah,agf (by decide)];generalize hs1:St.new st (.cells (eL p) 23 false)=s1;obtain⟨k1,g1,n1⟩:=da hs1;rw[aR (n:=13) g1 rfl,ae];refine(sM p s1).mono ?_;rintro _ s2 ⟨rfl,k2⟩;have n2:=k2.next;have g2:=(k2.keep st.next (by omega) (by simp)).trans g1;have f0:(eL p)[0]?=some (I p.bH):=rfl;have f3:(eL p)[3]?=some (I p.dZ):=rfl;have f9:(eL p)[9]?=some (I p.dI):=rfl;have e1:ai .lss none true (I id) (.int .i64 1) s2= .ok (.bool false) s2:=by rw[aA,bK,agc (by omega)]
 have e2:ai .gtr none false (I id) (I p.bH) s2= .ok (.bool false) s2:=by rw[aA,cC,agc (by omega)]
 have e3:ai .lss none true (I cH) (.int .i64 1) s2= .ok (.bool false) s2:=by rw[aA,bK,agc (by omega)]
 have e4:ai .gtr none true (I cH) (.int .i64 2047) s2= .ok (.bool false) s2:=by rw[aA,cC,agc (by omega)]
 rw[hm,bt,ae];unfold eu fl;simp only[aE,agm,afY,agn,agj,aM,ae,e1,e2,e3,e4,aF,af,av,g2,ao,afZ,f0,au,ah];show R fo [.ptr d 0] s2 _;refine(ho s2 (k1.trans k2)).mono ?_;rintro _ s3 ⟨κ,τ,π,T,fr,rfl,k3,wT,hZ⟩;have n3:=k3.next;have g3:=(k3.keep st.next (by omega) fun hh=>by have:=hF _ hh;omega).trans g2;have en:∀s,ai .neq (some .int) true (I 0) (.int .i64 0) s= .ok (.bool false) s:=fun s=>rfl;rw[ay,ae,aL,ay,ae,en,ae,ah,agf (by decide),aR (n:=13) g3 rfl,ae];refine(Kf wT hg hi ha hb tf ig).mono ?_;rintro _ s4 ⟨kp,rfl,k4,hKp⟩;have n4:=k4.next;have g4:=(k4.keep st.next (by omega) (by simp)).trans g3;rw[ay,ae,aL,ay,ae,en,ae,ah,agf (by decide)];have he:=hg.dI;have m1:ai .mul none true (.int .i64 4) (I p.dI) s4= .ok (I (4*p.dI)) s4:=J0 (by omega) _ _;simp only[af,ae,av,g4,ao,afZ,f0,f9,au,m1,hb];refine(Fb ig ⟨by omega,by omega⟩).mono ?_;rintro _ s5 ⟨w,rfl,k5⟩;have n5:=k5.next;have g5:=(k5.keep st.next (by omega) (by simp)).trans g4;rw[ay,ae,aL,ay,ae,en,ae,ah,agf (by decide),bG,aR (n:=13) g5 rfl,ae];simp only[af,ae,av,g5,ao,afZ,f3,au,ha];obtain⟨L,Ue⟩:=Hc tf s5;rw[Ue,bj];generalize Xo:St.new s5 (.cells L 380 false)=s6;obtain⟨k6,g6,n6⟩:=da Xo;have MC:=(k6.keep st.next (by omega) (by simp)).trans g5;have kx:bf (List.replicate 14 (.int .i64 0)++[.aC, .aC, .aa, .aa, .aa, .aC,(.int .i64 0),(.int .i64 0),(.bool false), .aa]) [(0,1,I id),(1,13, .agg (eL p)),(14,1, .ptr κ 0),(15,1, .ptr kp 0),(19,1, .ptr w 0),(18,1, .slice s5.next 0 a a 0)] s6= .ok (.agg (ff id p κ kp .aa .aa (.slice s5.next 0 a a 0) w)) s6:=rfl;rw[kx,ae,br];refine⟨rfl, ?_⟩;rw[ba];generalize sn:St.new s6 (.cells (ff id p κ kp .aa .aa (.slice s5.next 0 a a 0) w) 57 false)=s7;obtain⟨k7,g7,n7⟩:=da sn;rw[aR (n:=13) MC rfl,ae];have VG:=(k7.keep st.next (by omega) (by simp)).trans MC;refine⟨⟨⟨rfl,trivial⟩,trivial,trivial⟩,trivial, ?_⟩;rw[bP];simp only[af,ae,av,VG,ao,afZ,f3,au,ha,aI,aJ];have K6:Kp F st s6:=((((k1.trans k2).mono (by simp)).trans k3 fun q hq=> .inl hq).trans k4).trans (k5.trans k6)
 have Uz:=((wT.still k4).still k5).still k6;have Vo:=(hKp.still k5).still k6;refine bA (fun fu vs s=>∃(i:Nat) (re ows:CV) (sh ow t mb:Nat->Nat) (Fs Fo:List Nat),fu+i=a/\vs=[I id,I cH, .ptr st.next 0, .ptr κ 0, .ptr s6.next 0,I a,I i]/\Kp [] s6 s/\s6.next<s.next/\s.mem.get s6.next=some (.cells (ff id p κ kp re ows (.slice s5.next 0 a a 0) w) 57 false)/\Own s re 1 59 (kJ sh i) Fs/\Own s ows 1 72 (kJ ow i) Fo/\(∀q∈Fs,s7.next<=q/\q<s.next)/\(∀q∈Fo,s7.next<=q/\q<s.next)/\(∀q∈Fs,q∉Fo)/\∀j,j<i->FD s κ id (s6.next::(Fs++Fo)) j (sh j) (ow j) (t j) (mb j)) ?_ (n:=a) ⟨0, .aa, .aa,fun _=>0,fun _=>0,fun _=>0,fun _=>0,[],[],rfl,rfl,k7,by omega,g7, .inl ⟨rfl,rfl,rfl⟩, .inl ⟨rfl,rfl,rfl⟩,by simp,by simp,by simp,fun j hj=>by omega⟩;rintro fu vs s K ⟨i,re,ows,sh,ow,t,mb,Fs,Fo,Qs,rfl,kk,hnx,gx,Cz,Qg,AZ,th,KU,hP⟩ next;simp only[aI,aJ];rw[de,ae,ah];have OC:=Uz.still kk
 by_cases hc:i<a
 ·rw[agi hc,agl rfl];refine(Gr OC ⟨by omega,by have:=hg.bH;omega⟩ (by omega)).mono ?_;rintro _ cw ⟨h,rfl,kZ,hS,hh⟩;have DY:=kZ.next;rw[ay,ae,aL,ay,ae,en,ae,ah,agf (by decide)];have VH:=((kk.trans kZ).keep st.next (by omega) (by simp)).trans MC;rw[aR (n:=13) VH rfl,ae];refine(GH hg ⟨by omega,by have:=hg.bH;omega⟩ (by omega) hl).mono ?_;rintro _ cB ⟨o,tt,mm,rfl,pN,hO,XH,Qi,ho3⟩;have G9:=pN.next;rw[ay,ae,aL,ay,ae,en,ae,ah,agf (by decide),bG];have kA:=kZ.trans pN;have yd:dw cB:=(K6.trans (kk.trans kA)).fresh hf;have kS:Kp [] cB (St.skip (St.skip cB)):=(Kp.refl _ _).skip.skip;have nS:(St.skip (St.skip cB)).next=cB.next+2:=rfl;have nS1:(St.skip cB).next=cB.next+1:=rfl;have Qk:(St.skip (St.skip cB)).mem.get cB.next=none:=yd _ (aga _);have Qj:(St.skip (St.skip cB)).mem.get (cB.next+1)=none:=yd _ (by omega);rw[nS1];generalize hsS:St.skip (St.skip cB)=sS at*;have SS:=kA.trans kS;have Vv:=(SS.keep s6.next hnx (by simp)).trans gx;have Tt:Own sS re 1 59 (kJ sh i) Fs:=Cz.mono fun q hq=>SS.keep q (AZ q hq).2 (by simp);have TT:Own sS ows 1 72 (kJ ow i) Fo:=Qg.mono fun q hq=>SS.keep q (th q hq).2 (by simp);have WD:∀x y,(ff id p κ kp x y (.slice s5.next 0 a a 0) w)[16]?=some x:=fun x y=>rfl;have WC:∀x y,(ff id p κ kp x y (.slice s5.next 0 a a 0) w)[17]?=some y:=fun x y=>rfl;simp only[aV,ae,af,av,Vv,ao,afZ,WD,au];refine lT 8 Tt (by omega) (fun q hq=>⟨by have:=AZ q hq;omega,by have:=AZ q hq;omega⟩) (by omega) Qk rfl rfl rfl rfl (by rw[mD];omega) ?_;intro mj eD F1 Nn uM qW;have WN:=uM.next
  have x1:s6.next∉cB.next::Fs:=fun hh=>by
   rcases age.1 hh with h1|h1
   ·omega
   ·have:=AZ _ h1;omega
  have HO:=(uM.keep s6.next (by omega) x1).trans Vv;have Vy:(St.set sS cB.next (.cells (CV.ptr h 0).bL 59 false)).mem.get s6.next=_:=(aq _ _ _ _ (by omega)).trans Vv
  have Ub:eD.mem.get (cB.next+1)=none:=(uM.keep _ (by omega) fun hh=>by
   rcases age.1 hh with h1|h1
   ·omega
   ·have:=AZ _ h1;omega).trans Qj
  have Od:Own eD ows 1 72 (kJ ow i) Fo:=TT.mono fun q hq=>uM.keep q (by have:=th q hq;omega) fun hh=>by
   rcases age.1 hh with h1|h1
   ·have:=th q hq;omega
   ·exact KU q h1 hq
  simp only[aV,ae,af,av,HO,ao,afZ,WC,au];refine lT 8 Od (by omega) (fun q hq=>⟨by have:=th q hq;omega,by have:=th q hq;omega⟩) (by omega) Ub rfl rfl rfl rfl (by rw[mD];omega) ?_;intro kE jl F2 GI oq py;have WM:=oq.next
  have x2:s6.next∉(cB.next+1)::Fo:=fun hh=>by
   rcases age.1 hh with h1|h1
   ·omega
   ·have:=th _ h1;omega
  have Vw:=(oq.keep s6.next (by omega) x2).trans HO;have Vx:(St.set eD (cB.next+1) (.cells (CV.ptr o 0).bL 72 false)).mem.get s6.next=_:=(aq _ _ _ _ (by omega)).trans HO;have Uc:(St.set sS cB.next (.cells (CV.ptr h 0).bL 59 false)).mem.get (cB.next+1)=none:=(aq _ _ _ _ (by omega)).trans Qj;obtain⟨o1,z1⟩:=Nn.cv;obtain⟨o2,z2⟩:=GI.cv;rw[aQ,Vw,bg,z1];refine⟨⟨rfl,by simp[bu,o1],by show 16+1<=24;omega⟩, ?_⟩;have eo1:bB (ff id p κ kp re ows (.slice s5.next 0 a a 0) w) 16 [mj]=ff id p κ kp mj ows (.slice s5.next 0 a a 0) w:=rfl;rw[eo1];generalize Kv:St.set jl s6.next (.cells (ff id p κ kp mj ows (.slice s5.next 0 a a 0) w) 57 false)=iw;have g16:iw.mem.get s6.next=some (.cells (ff id p κ kp mj ows (.slice s5.next 0 a a 0) w) 57 false):=by rw[<-Kv];exact az _ _ _
  have n16:iw.next=jl.next:=by rw[<-Kv];rfl
  have xW:Kp [s6.next] jl iw:=by rw[<-Kv];exact(Kp.refl _ _).set _ (by simp) (by omega)
  rw[aQ,g16,bg,z2];refine⟨⟨rfl,by simp[bu,o2],by show 17+1<=24;omega⟩, ?_⟩;have eo2:bB (ff id p κ kp mj ows (.slice s5.next 0 a a 0) w) 17 [kE]=ff id p κ kp mj kE (.slice s5.next 0 a a 0) w:=rfl;rw[eo2];generalize Ku:St.set iw s6.next (.cells (ff id p κ kp mj kE (.slice s5.next 0 a a 0) w) 57 false)=jS;have MD:jS.mem.get s6.next=some (.cells (ff id p κ kp mj kE (.slice s5.next 0 a a 0) w) 57 false):=by rw[<-Ku];exact az _ _ _
  have n17:jS.next=iw.next:=by rw[<-Ku];rfl
  have AM:Kp [s6.next] jl jS:=xW.trans (show Kp [s6.next] iw jS by rw[<-Ku];exact(Kp.refl _ _).set _ (by simp) (by omega)) fun q hq=> .inl hq;simp only[av,Vy,HO,Vx,ao,WD,WC,au];refine⟨⟨⟨trivial,trivial⟩,⟨trivial,trivial,trivial⟩,trivial⟩,⟨trivial,⟨Uc,trivial⟩,trivial⟩, ?_⟩;rw[gW i (by omega),ae]
  have kT:Kp (s6.next::(Fs++Fo)) cB jS:=by
   refine(((kS.mono (G:=s6.next::(Fs++Fo)) (by simp)).trans uM fun q hq=> ?_).trans oq fun q hq=> ?_).trans AM fun q hq=> ?_
   ·rcases age.1 hq with h1|h1
    ·exact .inr (by omega)
    ·exact .inl (by simp[h1])
   ·rcases age.1 hq with h1|h1
    ·exact .inr (by omega)
    ·exact .inl (by simp[h1])
   ·simp at hq;exact .inl (by simp[hq])
  have Ps:∀q∈F1,q∈Fs\/cB.next<=q/\q<eD.next/\cB.next+2<=q:=fun q hq=>by
   obtain⟨h1,h2⟩:=qW q hq;exact h1.imp (fun h=>h) fun h=>⟨by omega,h2,by omega⟩
  have Pr:∀q∈F2,q∈Fo\/eD.next<=q/\q<jl.next:=fun q hq=>by
   obtain⟨h1,h2⟩:=py q hq;exact h1.imp (fun h=>h) fun h=>⟨h,h2⟩
  have wQ:∀q,q<cB.next->q∉s6.next::(Fs++Fo)->q∉s6.next::(F1++F2):=fun q hq h1 hh=>by
   simp only[age,agz,ahO]at h1 hh;rcases hh with hh|hh|hh
   ·exact h1.1 hh
   ·rcases Ps q hh with h2|h2
    ·exact h1.2.1 h2
    ·omega
   ·rcases Pr q hh with h2|h2
    ·exact h1.2.2 h2
    ·omega
  have new:∀q,s.next<=q->q∉s6.next::(Fs++Fo):=fun q hq hh=>by
   simp only[age,agz]at hh;rcases hh with hh|hh|hh
   ·omega
   ·have:=AZ q hh;omega
   ·have:=th q hh;omega
  have K17:Kp [] s6 jS:=(kk.trans kA).trans kT fun q hq=> .inr (by
   simp only[age,agz]at hq;rcases hq with hq|hq|hq
   ·omega
   ·have:=AZ q hq;omega
   ·have:=th q hq;omega)
  refine next (fu-1) _ _ (by omega) ⟨i+1,mj,kE,fun j=>if j=i then h else sh j,fun j=>if j=i then o else ow j,fun j=>if j=i then tt else t j,fun j=>if j=i then mm else mb j,F1,F2,by omega,rfl,K17,by omega,MD, ?_, ?_,fun q hq=> ?_,fun q hq=> ?_,fun q hq hh=> ?_,fun j hj=> ?_⟩
  ·rw[uA,agl rfl,rN (g:=sh) fun j hj=>agf (by omega)];refine(Nn.mono fun q hq=>oq.keep q (by have:=qW q hq;omega) fun hh=> ?_).mono fun q hq=>AM.keep q (by have:=qW q hq;omega) fun hh=> ?_
   ·rcases Ps q hq with h2|h2
    ·rcases age.1 hh with h1|h1
     ·have:=AZ q h2;omega
     ·exact KU q h2 h1
    ·rcases age.1 hh with h1|h1
     ·omega
     ·have:=th q h1;omega
   ·simp at hh;rcases Ps q hq with h2|h2
    ·have:=AZ q h2;omega
    ·omega
  ·rw[uA,agl rfl,rN (g:=ow) fun j hj=>agf (by omega)];refine GI.mono fun q hq=>AM.keep q (by have:=py q hq;omega) fun hh=> ?_;simp at hh;rcases Pr q hq with h2|h2
   ·have:=th q h2;omega
   ·omega
  ·rcases Ps q hq with h2|h2
   ·have:=AZ q h2;omega
   ·omega
  ·rcases Pr q hq with h2|h2
   ·have:=th q h2;omega
   ·omega
  ·rcases Ps q hq with h2|h2
   ·rcases Pr q hh with h3|h3
    ·exact KU q h2 h3
    ·have:=AZ q h2;omega
   ·rcases Pr q hh with h3|h3
    ·have:=th q h3;omega
    ·omega
  ·by_cases qI:j=i
   ·subst qI;simp only[ags];have hO':=hO;obtain⟨lo,⟨Lo,go,_⟩,lt,lm,_,_⟩:=hO;refine⟨(hS.off pN (by simp)).off kT (new h hh), ?_,wQ h (by have:=hS.1;omega) (new h hh),wQ o lo (new o (by omega)),wQ tt lt (new tt (by omega)),wQ mm lm (new mm (by omega))⟩;exact hO'.off kT (new o (by omega)) (new tt (by omega)) (new mm (by omega))
   ·simp only[agf qI];obtain⟨pS,pO,p1,p2,p3,p4⟩:=hP j (by omega);have pO0:=pO;obtain⟨lo,_,lt,lm,_⟩:=pO;have pO':=pO0.off kA (by simp) (by simp) (by simp);exact⟨(pS.off kA (by simp)).off kT p1,pO'.off kT p2 p3 p4,wQ _ (by have:=pS.1;omega) p1,wQ _ (by omega) p2,wQ _ (by omega) p3,wQ _ (by omega) p4⟩
 ·rw[agc hc,agf (by decide)];obtain rfl:i=a:=by omega
  exact⟨s6.next,κ,τ,π,T,fr,Fs,Fo,rfl,K6.trans kk,OC,hZ,hnx,kp,w,re,ows,_,sh,ow,t,mb,gx,Vo.still kk,Cz,Qg,fun q hq=>(AZ q hq).2,fun q hq=>(th q hq).2,hP⟩
end
