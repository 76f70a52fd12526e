import Derived.Test.YtckodcbgpffimaaGreatDoorLawA
import Derived.Test.YtckodcbgpffimaaGreatDoorWk
namespace Lim
open Go
noncomputable section
set_option linter.defProp false
set_option maxRecDepth 100000
section
variable {L:δ aT}{p q:aT->Bool}{τ:Nat}{π:PI}{Lk:δ aT}{T N fr:Nat}
def Ds (L:δ aT)(key:bS)(w:δ Γ):ey (oO L key w) key=Φ w:=by
 unfold oO;exact Jh λx a=>by simpa using (tH.1 a).2
def uF (h:∀x,q x=θ->p x=θ):(L.filter p).find? q=L.find? q:=by
 induction L with
 |nil=>rfl
 |cons x r a=>
  rw[Ep];cases hp:p x with
  |true=>
   rw[gq rfl,Á,Á,a]
  |false=>
   rw[B tW,a,Á];cases b:q x with
   |true=>rw[h x b]at hp;cases hp
   |false=>rfl
def vC (h:∀x,q x=θ->p x=φ):(L.filter p).find? q=ν:=by
 rw[aNV];intro x a b;have:=(tH.1 a).2;rw[h x b]at this;cases this
def uC (L:δ aT)(key a:bS)(w:δ Γ)(h:key≠a):ey (oO L key w) a=ey L a:=by
 unfold ey oO
 congr 1
 rw[aOc,Á,jo h];dsimp only
 by_cases b:eI a key
 .rw[uF (p:=λx=>decide (eI x.1 key)) λx hx=>by
   have:x.1=a:=J8
   rw[this];simpa using b]
  rw[vC (p:=λx=>decide (eI key x.1)) λx hx=>by
   have:x.1=a:=J8
   rw[this]
   simpa using mc b]
  cases L.find? _<;>rfl
 .have c:eI key a:=by
   have h2:=b;rcases qO.1 h2 with h|h
   .exact h
   .exact absurd h (by assumption)
  rw[vC (p:=λx=>decide (eI x.1 key)) λx hx=>by
   have:x.1=a:=J8
   rw[this]
   simpa using b]
  rw[uF (p:=λx=>decide (eI key x.1)) λx hx=>by
   have:x.1=a:=J8
   rw[this];simpa using c]
  rfl
def r7.XO {Z:O}(h:r7 τ π Z L Lk T N fr):fr<=N:=by
 obtain⟨⟨G,e,g,a,d,m,f,rfl⟩,j,i⟩:=h;obtain⟨⟨base,last,P,Ls,r,b,_⟩,_⟩:=d;have l:π.D.aB.length-1-π.D.aB.length/4=e.aO:=b.rep.aO;have h2:=abq G.used G.fr a.ok.nd λx c=>(a.ok.fr x c).2;have k:=a.ok.jT;unfold GM.bT;omega
def agQ {Z:O}(h:r7 τ π Z L Lk T N fr):Rq0 108 [.ptr π.a 0] Z λv Z'=>v=I N/\Z'=Z:=by
 obtain⟨⟨G,m,b,i,f,l,e,rfl⟩,g,c⟩:=h;obtain⟨M,k,j,d,_⟩:=b.pg;rw[<-c];exact zl d
section
variable {Z Z':O}
def Yu (h:r7 τ π Z L Lk T N fr){key:bS}(d:key.length<=48):Rq0 121 [.ptr τ 0,.str key] Z λx Z'=>Kp [] Z Z'/\x=.tuple [.str ((ey L key).getD []),.bool (ey L key).isSome,μ]:=by
 obtain⟨⟨G,e,b,c,_⟩,_⟩:=h;refine(adW b c key).mono ?_;rintro x s ⟨k,a⟩;rw[B J]at a;exact⟨k,a⟩
def VJ (h:r7 τ π Z L Lk T N fr)(a b:bS):Rq0 52 [.ptr τ 0,.str a,.str b] Z λy Z'=>∃x,y=.tuple [x,μ]/\Kp [] Z Z'/\Sl Z' [] x 2 (cT (L.filter (Dy a b))):=by
 obtain⟨⟨G,g,d,f,_⟩,_⟩:=h;refine(RL d f a b).mono ?_;rintro y s ⟨x,rfl,c⟩;obtain⟨k,e⟩:=c.fc (X:=[]) V;exact⟨x,rfl,k,e⟩
def Wh (p:aT)(s:O):R .neq (Φ (.struct (.cons 0 1 φ .str (.cons 1 1 φ .str .nil)))) φ (.agg (bR p)) (.agg (bR p)) s=.ok Θ s:=by
 rw[pB]
 have:mN (.struct (.cons 0 1 φ .str (.cons 1 1 φ .str .nil))) (.agg (bR p)) (.agg (bR p))=Φ θ:=by
  unfold bR;simp[mN,zE,fR,andThen]
 rw[this];rfl
end
end
abbrev Nm:=Int×bS
structure nH where
 sp:Int
 key:bS
 val:List UInt8
 gone:Bool
def nH.nm (c:nH):Nm:=(c.sp,c.key)
def zH (p:Nm):Prop:=(0<=p.1/\p.1<256)/\p.2.length<=47
def nH.ok (c:nH):Prop:=zH c.nm/\c.val.length<=8192/\(c.gone=θ->c.val=[])
instance (p:Nm):Decidable (zH p):=by unfold zH;infer_instance
instance (c:nH):Decidable c.ok:=by unfold nH.ok;infer_instance
def vj (p:Nm):bS:=UInt8.ofNat p.1.toNat::p.2
def GD (L:δ aT)(c:nH):δ aT:=if c.gone=θ then mM L (vj c.nm)else oO L (vj c.nm) c.val
def gC (L:δ aT)(a:δ nH):δ aT:=a.foldl GD L
def Dt (L:δ aT)(key:bS):ey (mM L key) key=ν:=by
 unfold ey mM;rw[aOc,vC (p:=λx=>decide (eI x.1 key)) λx hx=>?_,vC (p:=λx=>decide (eI key x.1)) λx hx=>?_]
 .rfl
 all_goals
  have:x.1=key:=J8
  rw[this]
  simpa using hU key
def Cb (L:δ aT)(key a:bS)(h:key≠a):ey (mM L key) a=ey L a:=by
 have h1:=uC L key a [] h;rw[<-h1];unfold ey mM oO;rw[aOc,aOc,Á,jo h]
def AK {a:δ aT}{k:bS}(h:∀x∈a,eI k x.1):ey a k=ν:=by
 unfold ey;rw[aNV.2 λx b=>by simpa using (h x b).ne.symm];rfl
def KA {c Bq0:δ aT}(f:fq c)(d:fq Bq0)(h:∀k,ey c k=ey Bq0 k):c=Bq0:=by
 induction c generalizing Bq0 with
 |nil=>
  cases Bq0 with
  |nil=>rfl
  |cons b r=>have:=h b.1;simp[ey]at this
 |cons a r o=>
  cases Bq0 with
  |nil=>have:=h a.1;simp[ey]at this
  |cons b t=>
   unfold fq at f d;rw[ü]at f d;have i:∀k,ey (a::r) k=if a.1=k then Φ a.2 else ey r k:=λk=>by unfold ey;rw[Á];by_cases e:a.1=k<;>simp[e]
   have g:∀k,ey (b::t) k=if b.1=k then Φ b.2 else ey t k:=λk=>by unfold ey;rw[Á];by_cases e:b.1=k<;>simp[e]
   have n:=AK f.1;have nb:=AK d.1
   have m:a.1=b.1:=by
    rcases Decidable.em (eI a.1 b.1)with hl|hl
    .have:=h a.1;rw[i,g,gq rfl,B (ny hl.ne),AK λx j=>gu hl (d.1 x j)]at this;cases this
    .rcases qO.1 (show lO b.1 a.1 from hl)with hl|hl
     .have:=h b.1;rw[i,g,gq rfl,B (ny hl.ne),AK λx j=>gu hl (f.1 x j)]at this;cases this
     .exact hl.symm
   have p:=h a.1;rw[i,g,gq rfl,gq m.symm]at p;have l:a=b:=by cases a;cases b;simp_all
   subst l
   congr 1
   refine o f.2 d.2 λk=>?_;have:=h k;rw[i,g]at this
   by_cases e:a.1=k
   .rw[<-e,n,nb]
   .rwa [B e,B e]at this
def Small (L:δ aT):Prop:=∀p∈L,p.2.length<=8192
def Small.do {L:δ aT}(h:Small L){c:nH}(b:c.ok):Small (GD L c):=by
 intro p a;unfold GD mM oO at a
 split at a
 .rcases lh.1 a with a|a<;>exact h p (tH.1 a).1
 .rcases lh.1 a with a|a
  .exact h p (tH.1 a).1
  .rcases ip.1 a with rfl|a
   .exact b.2.1
   .exact h p (tH.1 a).1
def Small.get {L:δ aT}(h:Small L)(k:bS):((ey L k).getD []).length<=8192:=by
 unfold ey;cases hf:L.find? (λx=>decide (x.1=k))with
 |none=>simp
 |some p=>exact h p (List.mem_of_find?_eq_some hf)
def Ud (L:δ aT)(c:nH):(GD L c).length<=L.length+1:=by
 unfold GD
 split
 .have:=Uj L (vj c.nm);omega
 .exact RP ..
def Ci (L:δ aT)(a:δ nH)(i:Nat)(hi:i<a.length):gC L (a.take (i+1))=GD (gC L (a.take i)) a[i]:=by
 unfold gC;rw[su hi,List.foldl_append];rfl
abbrev zI:=δ (Nm×Nat)
def tJ (m:zI)(p:Nm):υ Nat:=match m with|[]=>ν|(q,n)::r=>if p=q then Φ n else tJ r p
def As (m:zI)(p:Nm)(x:Nat):zI:=match m with|[]=>[(p,x)]|(q,n)::r=>if p=q then (p,x)::r else (q,n)::As r p x
def Iv (m:zI)(p q:Nm)(x:Nat):tJ (As m p x) q=if q=p then Φ x else tJ m q:=by
 induction m with
 |nil=>by_cases h:q=p<;>simp[As,tJ,h]
 |cons a r c=>
  obtain⟨a,n⟩:=a;simp only[As]
  by_cases h:p=a
  .subst h;rw[gq rfl];simp only[tJ];by_cases b:q=p<;>simp[b]
  .rw[B h];simp only[tJ,c]
   by_cases b:q=a
   .subst b;rw[gq rfl,B (ny h),gq rfl]
   .rw[B b,B b]
def AT (L:δ aT)(m:zI)(p:Nm):Nat:=(tJ m p).getD ((ey L (vj p)).getD []).length
def rQ (L:δ aT)(m:zI):δ nH->Nat
 |[]=>0
 |c::r=>(24+2*bO c.val.length+2*bO (AT L m c.nm))+rQ L (As m c.nm c.val.length) r
def kY {n:Nat}(h:n<=8192):bO n<=18:=afq
abbrev Wx:lB:=.struct (.cons 0 1 φ .int (.cons 1 1 φ .str .nil))
def vV (p:Nm):K:=.agg [I p.1,.str p.2]
def jj (c:nH):δ K:=[I c.sp,.str c.key,.str c.val,.bool c.gone]
def pJ (a:δ nH):δ K:=(a.map jj).flatten
def aag (b:δ nH):∀x∈b.map jj,x.length=4:=λx a=>by obtain⟨c,_,rfl⟩:=lm.1 a;rfl
def jx (a:δ nH):(pJ a).length=a.length*4:=by
 have:=dU (aag a)
 rwa [so]at this
def Ur (p q:Nm):mN Wx (vV p) (vV q)=Φ (decide (p=q)):=by
 obtain⟨a,k⟩:=p;obtain⟨b,l⟩:=q
 have e:decide ((a,k)=(b,l))=(decide (a=b)&&k==l):=by
  by_cases d:a=b<;>by_cases c:k=l<;>simp[d,c]
 rw[e]
 by_cases d:a=b<;>by_cases c:k=l<;>simp[vV,mN,zE,fR,andThen,d,c,bF]
def IL (p:Nm):tD Wx (vV p)=θ:=by
 unfold tD;rw[Ur];simp[abW]
def JW (Z:O)(b:Nat)(m:zI):Prop:=∃a c,Z.m.g b=Φ (.map a c)/\a.map (λe=>(e.1,e.2.1))=List.map (λp:Nm×Nat=>(vV p.1,I p.2)) m
def JD (p:Nm)(x:Nat):∀(m:zI) (c:δ fh) (j:Nat),c.map (λe=>(e.1,e.2.1))=List.map (λp:Nm×Nat=>(vV p.1,I p.2)) m->
 (tJ m p=ν/\kT Wx (vV p) c j=Φ ν/\As m p x=m++[(p,x)])\/∃(i n f:Nat),tJ m p=Φ n/\kT Wx (vV p) c j=Φ (Φ (j+i,I n))/\c[i]?=Φ (vV p,I n,f)/\As m p x=List.set m i (p,x):=by
 intro m
 induction m with
 |nil=>intro c j h;cases c with
  |nil=>exact .inl ⟨rfl,rfl,rfl⟩
  |cons e c=>simp at h
 |cons a r s=>
  intro c j h;obtain⟨a,n⟩:=a;cases c with
  |nil=>simp at h
  |cons e c=>
   obtain⟨z,y,f⟩:=e;simp only[pw,IP,Ms]at h;obtain⟨⟨rfl,rfl⟩,v⟩:=h;have w:kT Wx (vV p) ((vV a,I n,f)::c) j=Option.rec ν (λb=>bF b (Φ (Φ (j,I n))) (kT Wx (vV p) c (Nat.succ j))) (mN Wx (vV p) (vV a)):=rfl;rw[w,Ur];simp only[aS,ws,tJ,As]
   by_cases d:p=a
   .subst d;right;refine⟨0,n,f,gq rfl,gq rfl,rfl,gq rfl⟩
   .rw[B d,B d,B d];rcases s c (j+1) v with⟨l,k,g⟩|⟨i,q,o,l,k,g,u⟩
    .exact .inl ⟨l,k,by rw[g];rfl⟩
    .exact .inr ⟨i+1,q,o,l,by rw[Nat.succ_eq_add_one,k];congr 3;omega,g,by rw[u];rfl⟩
def JW.lookup {Z:O}{b:Nat}{m:zI}(h:JW Z b m)(p:Nm):jk Wx μ θ (.map b) (vV p) Z=.ok (.tuple [ζ ((tJ m p).getD 0),.bool (tJ m p).isSome]) Z:=by
 obtain⟨es,c,e,f⟩:=h;unfold jk;have j:qh (.map b) Z=ν:=by simp[qh,e]
 have g:xp (.map b) Z=Φ es:=by simp[xp,e]
 rw[IL,aS,gq rfl,j,g];rcases JD p 0 m es 0 f with⟨d,a,_⟩|⟨i,n,k,d,a,_⟩
 .simp only[d,a];simp
 .simp only[d,a];simp
def JW.update {Z:O}{b:Nat}{m:zI}(h:JW Z b m)(p:Nm)(x:Nat):∃blk,fe Wx (.map b) (vV p) (I x) Z=.ok .undef (O.set Z b blk)/\JW (O.set Z b blk) b (As m p x):=by
 obtain⟨a,c,l,f⟩:=h;unfold fe;rw[IL,aS,gq rfl];simp only[l];rcases JD p x m a 0 f with⟨k,e,d⟩|⟨i,n,g,k,e,j,d⟩
 .simp only[e,dR];refine⟨.map (a++[(vV p,I x,c)]) (c+1),rfl,a++[(vV p,I x,c)],c+1,ao ..,?_⟩;rw[d,wd,wd,f];rfl
 .simp only[e,oa,zz,j,vm];rw[show wi (vV p) (vV p)=θ by simp[wi,A6,A5,vV],aS,gq rfl];refine⟨.map (a.set i (vV p,I x,g)) c,rfl,a.set i (vV p,I x,g),c,ao ..,?_⟩;rw[d,List.map_set,List.map_set,f]
section
variable {Z Z':O}
def No (p:Nm):Rq0 50 [vV p] Z λv s=>v=.bool (decide (zH p))/\Kp [] Z s:=by
 refine bE ?_;rw[w50,bz];refine⟨rfl,?_⟩;unfold vV;rw[aN];have b:Kp [] Z (O.new Z (ϟ [I p.1,.str p.2])):=(Δ [] Z).new _;have c:(O.new Z (ϟ [I p.1,.str p.2])).m.g Z.nx=Φ (ϟ [I p.1,.str p.2]):=ay _ _;generalize O.new Z (ϟ [I p.1,.str p.2])=s1 at*;have d:R .leq ν θ (I p.2.length) (I 47) s1=.ok (.bool (decide (p.2.length<=47))) s1:=Hl
 unfold zH;simp only[fl,gG,ly,c,io,au,rM,aD,ix]
 by_cases h1:0<=p.1
 .simp only[jp h1,aW,rb,av,c,io,au,cU,AC,ix]
  by_cases a:p.1<256
  .simp only[jp a,aW,rb,av,c,kc,io,eN,d,ix];exact⟨by simp[h1,a],b⟩
  .simp only[jo a,bA,yU,ii];exact⟨by simp[a],b⟩
 .simp only[jo h1,bA,NE,ii];exact⟨à,b⟩
def za {p:Nm}(h:zH p):Rq0 51 [vV p] Z λv s=>v=.str (vj p)/\Kp [] Z s:=by
 refine bE ?_;rw[w51,bz];refine⟨rfl,?_⟩;unfold vV;rw[aN];have f:Kp [] Z (O.new Z (ϟ [I p.1,.str p.2])):=(Δ [] Z).new _;have b:(O.new Z (ϟ [I p.1,.str p.2])).m.g Z.nx=Φ (ϟ [I p.1,.str p.2]):=ay _ _;generalize d:O.new Z (ϟ [I p.1,.str p.2])=s1 at*;have q:s1.nx=Z.nx+1:=by rw[<-d];rfl
 obtain⟨⟨j,u⟩,r⟩:=h
 have i:cX (.toInt .u8) (I p.1) s1=.ok (bG (UInt8.ofNat p.1.toNat)) s1:=by
  have:=Ks p.1.toNat .i64 s1;rw[Int.toNat_of_nonneg j,QF J]at this;exact this
 simp only[fl,ly,b,io,i];rw[mO (k:=1) rfl rfl rfl,aP];have a:Kp [] s1 (O.new s1 (Ϡ [bG (UInt8.ofNat p.1.toNat)])):=(Δ [] s1).new _;have n:(O.new s1 (Ϡ [bG (UInt8.ofNat p.1.toNat)])).m.g s1.nx=Φ (Ϡ [bG (UInt8.ofNat p.1.toNat)]):=ay _ _;have l:=(a.keep Z.nx J V).trans b;have c:Sl (O.new s1 (Ϡ [bG (UInt8.ofNat p.1.toNat)])) [] (.slice s1.nx 0 1 1 0) 1 (al [UInt8.ofNat p.1.toNat]):=.inr ⟨s1.nx,0,1,1,0,rfl,rfl,⟨hI _,.inl rfl⟩,.inr ⟨V,V,_,_,_,n,V,rfl⟩⟩;have e:K.bY (bG (UInt8.ofNat p.1.toNat))=[bG (UInt8.ofNat p.1.toNat)]:=rfl;rw[e];generalize O.new s1 (Ϡ [bG (UInt8.ofNat p.1.toNat)])=s2 at*;rw[c.str,af,l,ak];simp only[kc,io,an]
 have o:R .add ν φ (.str [UInt8.ofNat p.1.toNat]) (.str p.2) s2=.ok (.str (vj p)) s2:=by
  rw[fG];unfold sO;rw[gq xI];rfl
 rw[o,af];exact⟨rfl,f.trans a V⟩
def Ns {n:Nat}(f:n<=4000000000):Rq0 129 [I n] Z λv s=>v=I (bO n)/\s=Z:=by
 refine bE ?_;rw[aqC];have a:R .leq ν θ (I n) (I 64) Z=.ok (.bool (decide (n<=64))) Z:=Hl
 have d:R .add ν θ (I n) (I 480) Z=.ok (ζ (n+480)) Z:=AU
 have c:R .sub ν θ (ζ (n+480)) ϖ Z=.ok (ζ (n+479)) Z:=CS
 have b:R .quo ν θ (ζ (n+479)) (I 480) Z=.ok (ζ ((n+479)/480)) Z:=by
  have e:R .quo ν θ (ζ (n+479)) (I 480) Z=.ok (I (IntKind.i64.wrap (Int.tdiv ((n+479:Nat):Int) 480))) Z:=rfl;have a:Int.tdiv ((n+479:Nat):Int) 480=(((n+479)/480:Nat):Int):=rfl;rw[e,a,bt J]
 rw[a,af,ag];unfold bO
 by_cases h:n<=64
 .rw[jp h,gq rfl,gq h];exact⟨rfl,rfl⟩
 .rw[jo h,B tW,d,af,c,af,b,af,B h];exact⟨rfl,rfl⟩
def Sk (c:nH):Bool:=decide c.ok
def WC (c:nH):Sk c=(decide (zH c.nm)&&(decide (c.val.length<=8192)&&(!c.gone||decide (c.val=[])))):=by
 unfold Sk nH.ok;rw[Ã];simp only[mZ,xF,ws,Bool.not_eq_eq_eq_not,r8];rcases Bool.eq_false_or_eq_true c.gone with h|h<;>simp[h]
def abJ (c:nH):Rq0 172 [.agg (jj c)] Z λv s=>v=.bool (Sk c)/\Kp [] Z s:=by
 refine bE ?_;rw[apX,bz];refine⟨rfl,?_⟩;unfold jj;rw[aN];generalize hl:[I c.sp,K.str c.key,.str c.val,.bool c.gone]=l;have j:l[0]?=Φ (I c.sp):=Vx
 have l1:l[1]?=Φ (.str c.key):=Vx
 have l2:l[2]?=Φ (.str c.val):=Vx
 have i:l[3]?=Φ (.bool c.gone):=Vx
 have k:Kp [] Z (O.new Z (Ϟ l)):=(Δ [] Z).new _;have f:(O.new Z (Ϟ l)).m.g Z.nx=Φ (Ϟ l):=ay _ _;have q:(O.new Z (Ϟ l)).nx=Z.nx+1:=rfl;generalize O.new Z (Ϟ l)=s1 at*;have n:aR ϐ5 [(0,1,I c.sp),(1,1,.str c.key)] s1=.ok (vV c.nm) s1:=rfl;simp only[fl,ly,f,j,l1,n];refine(No c.nm).mono ?_;rintro _ s2 ⟨rfl,b⟩;have a:=(b.keep Z.nx J V).trans f;have p:R .leq ν θ (I c.val.length) (I 8192) s2=.ok (.bool (decide (c.val.length<=8192))) s2:=Hl
 have o:R .eql ω θ (.str c.val) ϑ s2=.ok (.bool (decide (c.val=[]))) s2:=by rw[fG,rK]
 rw[WC];have Kq0:=k.trans b V
 by_cases e:zH c.nm
 .simp only[jp e,gG,ix,aW,ly,a,l2,eN,p,AC]
  by_cases d:c.val.length<=8192
  .simp only[jp d,ix,aW,rb,av,a,i,bZ,aD];cases hg:c.gone
   .simp only[ra,r8,ix,ii,yU,bA,aC];exact⟨V,Kq0⟩
   .simp only[r8,tw,ii,yU,av,a,lW,l2,o,aC];exact⟨V,Kq0⟩
  .simp only[jo d,ii,yU,bA,nV,bA];exact⟨V,Kq0⟩
 .simp only[jo e,gG,ii,NE];exact⟨V,Kq0⟩
end
section
variable {X:δ Nat}{v:K}{cs:δ nH}{Kq0:K->Prop}{σ:Nat}
def WG {l row:δ K}{p:Nat}(h:∀o x,row[o]?=Φ x->l[p+o]?=Φ x)(g:0<row.length):iv l p row.length=Φ row:=by
 have h1:=λo c=>h o _ (li c);have h2:=h1 (row.length-1) J;obtain⟨f,_⟩:=qo.1 h2;unfold iv;rw[gq J]
 congr 1
 refine List.ext_getElem xI λo a b=>?_;have e:=h1 o b;rw[List.getElem_take,List.getElem_drop];obtain⟨_,d⟩:=qo.1 e;exact d
def Uq {Z:O}(a:Sl Z X v 4 (pJ cs)){i:Nat}(hi:i<cs.length)(hK:Kq0 (.agg (jj cs[i]))):fj 4 4 v (I i) Z Kq0:=
 Sl.fj (L:=cs.map jj) a J (aag cs) J9 _ adm
structure tN (κ τ:Nat)(π:PI)(Z:O)(L Lk:List aT)(T N fr:Nat):Prop where
 tr:r7 τ π Z L Lk T N fr
 get:Z.m.g κ=some (.cells [.ptr τ 0,I ((N/8:Nat):Int)] 135 false)
 lt:κ<Z.nx
 not:κ∉own τ π
section
variable {κ τ:Nat} {π:PI} {Z Z':O} {L Lk:δ aT} {T N fr:Nat}
def tN.off (h:tN κ τ π Z L Lk T N fr)(a:Kp X Z Z')(c:∀b∈κ::own τ π,b∉X):tN κ τ π Z' L Lk T N fr:=
 ⟨h.tr.off a λb hb=>c b OG,(a.keep κ h.lt (c κ V)).trans h.get,ov h.lt a.nx,h.not⟩
def tN.still (h:tN κ τ π Z L Lk T N fr)(a:Kp [] Z Z'):tN κ τ π Z' L Lk T N fr:=h.off a V
def tN.tau (h:tN κ τ π Z L Lk T N fr)(a:Kq0 (.ptr τ 0)):U (aw (.ptr κ 0) Z) Kq0:=by
 rw[av,h.get,ak];exact a
def Cx (Z:O)(σ:Nat)(n:Nat):Prop:=Z.m.g σ=Φ (Ϝ [I n])
def VN {c:nH}{a d:Nat}(j:Cx Z σ a)(f:σ<Z.nx)(w:a<=1000000000)(n:d<=8192)(k:c.val.length<=8192):Rq0 128 [.agg (jj c),I d,.ptr σ 0] Z λv s=>Kp [σ] Z s/\Cx s σ (a+(24+2*bO c.val.length+2*bO d)):=by
 refine bE ?_;rw[aqD,bz];refine⟨rfl,?_⟩;rw[aN];unfold Cx at*;generalize hl:jj c=l;have l2:l[2]?=Φ (.str c.val):=Vx
 have e:Kp [] Z (O.new Z (Ϟ l)):=(Δ [] Z).new _;have o:(O.new Z (Ϟ l)).m.g Z.nx=Φ (Ϟ l):=ay _ _;have n1:=e.nx;have b:=(e.keep σ f V).trans j;generalize O.new Z (Ϟ l)=s1 at*;have p1:=kY k;have p2:=kY n;have q:R .mul ν θ (I 2) (I (bO c.val.length)) s1=.ok (ζ (2*bO c.val.length)) s1:=by rw[au,jS,bt J];congr 2
 have p:R .add ν θ (I 24) (ζ (2*bO c.val.length)) s1=.ok (ζ (24+2*bO c.val.length)) s1:=EW
 have u:R .mul ν θ (I 2) (I (bO d)) s1=.ok (ζ (2*bO d)) s1:=by rw[au,jS,bt J];congr 2
 have r:R .add ν φ (ζ (24+2*bO c.val.length)) (ζ (2*bO d)) s1=.ok (ζ (24+2*bO c.val.length+2*bO d)) s1:=EW
 have i:R .add ν φ (I a) (ζ (24+2*bO c.val.length+2*bO d)) s1=.ok (ζ (a+(24+2*bO c.val.length+2*bO d))) s1:=EW
 rw[aZ,av,b,ak];simp only[io,an];rw[ah,af,av,o,ak,oa,l2,an,eN,af];refine(Ns J).same ?_;rw[q,af,p,af];refine(Ns J).same ?_;rw[u,af,r,af,i,af,aK,b,aU];refine⟨⟨rfl,rfl,V⟩,⟨⟨?_,?_,gt⟩,gt,gt⟩,gt,?_⟩
 .rw[av,b];rfl
 .rw[av,b];rfl
 .refine⟨(e.mono V).set _ (.inl V) J,?_⟩;rw[ao];rfl
def Ym (κ τ σ b:Nat)(π:PI)(v:K)(cs:δ nH)(L Lk:δ aT)(T N fr:Nat)(Z:O)(fu:Nat)(c:δ K)(s:O):Prop:=
 ∃(i a:Nat) (m:zI),fu+i=cs.length/\c=[.ptr κ 0,.func (.func 128) [] [.ptr σ 0],.map b,v,I cs.length,I i]/\Kp [σ] Z s/\Cx s σ a/\a<=1000*i/\JW s b m/\b<s.nx/\a+rQ L m (cs.drop i)=rQ L [] cs/\∀p n,tJ m p=Φ n->n<=8192
def Yk (κ σ a:Nat)(v:K)(cs:δ nH)(L:δ aT)(m:zI)(c:nH)(f e i:Nat)(d:O)(b:δ K)(s:O):Prop:=
 b=[.ptr κ 0,.func (.func 128) [] [.ptr σ 0],.map a,.ptr f 0,.ptr e 0,I (AT L m c.nm),v,I cs.length,I i]/\Kp [] d s
set_option maxHeartbeats 1000000 in
def XR (h:tN κ τ π Z L Lk T N fr)(hL:Small L)(hv:Sl Z [] v 4 (pJ cs))(hn:cs.length<=5000)(hs:Cx Z σ 0)(ab:σ<Z.nx)(C:σ∉κ::own τ π)(D:Sl Z [σ] v 4 (pJ cs)):Rq0 127 [.ptr κ 0,v,.func (.func 128) [] [.ptr σ 0]] Z λy s=>Kp [σ] Z s/\(((∀c∈cs,c.ok)/\y=I 0/\Cx s σ (rQ L [] cs))\/((∃c∈cs,¬c.ok)/\y=I 1)):=by
 refine bE ?_;rw[aqE,bU];simp only[ke];rw[hv.len cs.length (jx _) J,af];refine bD (λfu vs s=>∃i:Nat,fu+i=cs.length/\vs=[.ptr κ 0,v,.func (.func 128) [] [.ptr σ 0],v,I cs.length,I i]/\Kp [] Z s/\∀c∈cs.take i,c.ok) ?_ (n:=cs.length) ⟨0,rfl,rfl,Kp.refl _ _,V⟩;rintro fu vs s Kq0 ⟨i,hi,rfl,F,oD⟩ next;simp only[ke];rw[dd,af,ag]
 by_cases e:i<cs.length
 .rw[jp e,gq rfl];refine Uq (hv.mono F) e ?_;refine gW rfl rfl rfl ?_;have k1:Kp [] s (O.new s (.cells (jj cs[i]) 107 false)):=(Kp.refl [] s).new _;have g1:(O.new s (.cells (jj cs[i]) 107 false)).m.g s.nx=some (.cells (jj cs[i]) 107 false):=ay _ _;generalize O.new s (.cells (jj cs[i]) 107 false)=s1 at*;rw[aG (n:=4) g1 rfl,af];refine(abJ cs[i]).mono ?_;rintro _ s2 ⟨rfl,k2⟩;have K2:=(F.trans k1 V).trans k2 V;rw[bZ,af,ag]
  by_cases o:cs[i].ok
  .have BO:Sk cs[i]=true:=jp o;rw[BO,B tW,fV i J,af];refine next (fu-1) _ _ J ⟨i+1,J,rfl,K2,λc G=>?_⟩;rw[su e,lh]at G;rcases G with j|j
   .exact oD c j
   .have:c=cs[i]:=by simpa using j
    rw[this];exact o
  .have BO:Sk cs[i]=false:=jo o;rw[BO,gq tW];exact⟨K2.mono V,.inr ⟨⟨_,mp e,o⟩,gt⟩⟩
 .rw[jo e,B tW];have fJ:∀c∈cs,c.ok:=by rwa [lw J]at oD
  rw[og,aP,bU];simp only[ke];rw[(hv.mono F).len cs.length (jx _) J,af];have k6:Kp [] s (O.new s (.map [] 0)):=(Kp.refl [] s).new _;have g6:(O.new s (.map [] 0)).m.g s.nx=some (.map [] 0):=ay _ _;have n6:(O.new s (.map [] 0)).nx=s.nx+1:=rfl;generalize O.new s (.map [] 0)=s6 at*;have K6:=F.trans k6 V;have nk:=F.nx;refine bD (Ym κ τ σ s.nx π v cs L Lk T N fr Z) ?_ (n:=cs.length) ⟨0,0,[],rfl,rfl,K6.mono V,(K6.keep σ ab V).trans hs,J,⟨[],0,g6,rfl⟩,J,V,λp n h=>by simp[tJ]at h⟩;rintro fu vs d al ⟨i,u,m,hi,rfl,W,PF,lP,o,Qw,Gi,LZ⟩ f;simp only[ke];rw[dd,af,ag]
  by_cases e:i<cs.length
  .rw[jp e,gq rfl];have r:=fJ _ (mp e);refine Uq (D.mono W) e ?_;generalize BY:cs[i]=c at*;refine gW rfl rfl rfl ?_;have qP:Kp [] d (O.new d (.cells (jj c) 107 false)):=(Kp.refl [] d).new _;have N0:(O.new d (.cells (jj c) 107 false)).m.g d.nx=some (.cells (jj c) 107 false):=ay _ _;have Po:(O.new d (.cells (jj c) 107 false)).nx=d.nx+1:=rfl;generalize O.new d (.cells (jj c) 107 false)=a at*
   have f0:∀{s:O} (hg:s.m.g d.nx=some (.cells (jj c) 107 false)) {Kq0:K->Prop},Kq0 (I c.sp)->fl 0 (.ptr d.nx 0) s Kq0:=λ{s} hg {Kq0} H=>by
    unfold fl;rw[ah,af,av,hg,ak];exact H
   have f1:∀{s:O} (hg:s.m.g d.nx=some (.cells (jj c) 107 false)) {Kq0:K->Prop},Kq0 (.str c.key)->fl 1 (.ptr d.nx 0) s Kq0:=λ{s} hg {Kq0} H=>by
    unfold fl;rw[ah,af,av,hg,ak];exact H
   have f2:∀{s:O} (hg:s.m.g d.nx=some (.cells (jj c) 107 false)) {Kq0:K->Prop},Kq0 (.str c.val)->fl 2 (.ptr d.nx 0) s Kq0:=λ{s} hg {Kq0} H=>by
    unfold fl;rw[ah,af,av,hg,ak];exact H
   refine f0 N0 ?_;refine f1 N0 ?_;have hb:aR [.int .i64 0,.str []] [(0,1,I c.sp),(1,1,.str c.key)] a=.ok (.agg [I c.sp,.str c.key]) a:=rfl;rw[hb,af];refine gW rfl rfl rfl ?_;have oR:Kp [] a (O.new a (.cells [I c.sp,.str c.key] 129 false)):=(Kp.refl [] a).new _;have lV:(O.new a (.cells [I c.sp,.str c.key] 129 false)).m.g a.nx=some (.cells [I c.sp,.str c.key] 129 false):=ay _ _;have Nl:(O.new a (.cells [I c.sp,.str c.key] 129 false)).nx=a.nx+1:=rfl;generalize O.new a (.cells [I c.sp,.str c.key] 129 false)=cH at*;have zq:=qP.trans oR V;have PZ:=(oR.keep d.nx J V).trans N0;have Vq:=W.trans zq V;have n8:=W.nx
   have z:JW cH s.nx m:=by
    obtain⟨es,cl,j,h2⟩:=o;exact⟨es,cl,(zq.keep _ Qw V).trans j,h2⟩
   have ad:=(zq.keep σ J V).trans PF;rw[aG (n:=2) lV rfl,af,show K.agg [I c.sp,.str c.key]=vV c.nm from rfl,z.lookup,af,aE,af,aL,aE,af];refine iO (Yk κ σ s.nx v cs L m c d.nx a.nx i cH) ?_ ?_
   .intro Py Q;rw[bZ,af,ag];cases hg:tJ m c.nm with
    |some w=>
     rw[Zd,B tW];exact Q _ _ ⟨by unfold AT;rw[hg];rfl,Kp.refl _ _⟩
    |none=>
     rw[Ov,gq tW,aZ]
     have P:=h.off Vq λb hb hh=>by
      have:b=σ:=by simpa using hh
      subst this;exact C hb
     rw[bk,af,ah,af];refine P.tau ?_;rw[af];refine(za r.1).mono ?_;rintro _ dt ⟨rfl,tP⟩;have M:=P.still tP;have BS:(vj c.nm).length<=48:=by have:=r.1.2;unfold vj;simp;omega
     refine(Yu M.tr BS).mono ?_;rintro _ dA ⟨zn,rfl⟩;rw[aE,af,aL,aE,af,aL,aL,aE,af];refine⟨⟨⟨?_,gt⟩,gt,gt⟩,gt,?_⟩
     .exact M.tau rfl
     .have e0:R .neq (some .int) true (I 0) (.int .i64 0) dA=.ok (.bool false) dA:=rfl;rw[e0,af,ag,B tW,eN,af];exact Q _ _ ⟨by unfold AT;rw[hg];rfl,tP.trans zn V⟩
   .rintro _ dw ⟨rfl,l⟩;simp only[ke];have mW:=(l.keep d.nx J V).trans PZ;have am:=l.nx;rw[aG (n:=4) mW rfl,af,dv]
    have S:AT L m c.nm<=8192:=by
     unfold AT;cases hg:tJ m c.nm with
     |none=>exact hL.get _
     |some w=>exact LZ _ _ hg
    have ae:=(l.keep σ J V).trans ad;refine(VN ae J J S r.2.1).mono ?_;rintro _ ew ⟨x,ai⟩;have YH:=x.nx
    have k:∀q,s.nx<=q->q∉[σ]:=λq hq hh=>by have:q=σ:=by simpa using hh
                                           omega
    have ac:=((x.keep a.nx J (k _ J)).trans (l.keep a.nx J V)).trans lV;have Ax:=(x.keep d.nx J (k _ J)).trans mW;rw[aG (n:=2) ac rfl,af,show K.agg [I c.sp,.str c.key]=vV c.nm from rfl];refine f2 Ax ?_;rw[eN,af]
    have aa:JW ew s.nx m:=by
     obtain⟨es,cl,j,h2⟩:=z;exact⟨es,cl,((x.keep _ J (k _ J)).trans (l.keep _ J V)).trans j,h2⟩
    obtain⟨blk,u1,u2⟩:=aa.update c.nm c.val.length;rw[u1,aP,fV i J,af];have aj:=(Vq.trans l V).trans x lk;have p1:=kY r.2.1;have p2:=kY S;refine f (fu-1) _ _ J ⟨i+1,u+(24+2*bO c.val.length+2*bO (AT L m c.nm)),_,J,rfl,aj.set _ (.inr J) J,?_,?_,u2,?_,?_,λp n Y=>?_⟩
    .exact(ar _ _ _ _ J).trans ai
    .omega
    .show s.nx<ew.nx;omega
    .rw[vT e,BY]at Gi;rw[<-Gi];show _=u+((24+2*bO c.val.length+2*bO (AT L m c.nm))+rQ L (As m c.nm c.val.length) (cs.drop (i+1)));omega
    .rw[Iv]at Y
     split at Y
     .cases Y;exact r.2.1
     .exact LZ _ _ Y
  .rw[jo e,B tW];rw[ys J]at Gi;have:=Gi;subst this;exact⟨W,.inl ⟨fJ,gt,PF⟩⟩
def abH (h:tN κ τ π Z L Lk T N fr)(u:Small L)(i:Sl Z [] v 4 (pJ cs))(r:cs.length<=5000):Rq0 75 [.ptr κ 0,v] Z λy s=>Kp [] Z s/\(((∀c∈cs,c.ok)/\y=.tuple [I (rQ L [] cs),μ])\/((∃c∈cs,¬c.ok)/\y=.tuple [μ,I 1])):=by
 refine bE ?_;rw[w75,cc,af,ag,B tW,bW,aP,aK,ay,aU];refine⟨⟨rfl,rfl,V⟩,?_⟩;rw[Fm,ju,af];have e:bC [K.int .i64 0] 0 (K.bY μ)=[ζ 0]:=rfl;rw[e];have a:Kp [] Z (O.new Z (Ϝ [ζ 0])):=(Δ [] Z).new _;have w:Cx (O.new Z (Ϝ [ζ 0])) Z.nx 0:=ay _ _;have x:(O.new Z (Ϝ [ζ 0])).nx=Z.nx+1:=rfl;generalize O.new Z (Ϝ [ζ 0])=s1 at*;have h1:=h.still a
 have k:Z.nx∉κ::own τ π:=λhh=>by
  rcases ip.1 hh with h2|h2
  .have:=h.lt;omega
  .have:=h.tr.Bn _ h2;omega
 have b:=(i.fc (Y:=[Z.nx]) V).mono (a.mono V);refine(XR h1 u (i.mono a) r w J k b).mono ?_;rintro y s3 ⟨l,n⟩
 have j:Kp [] Z s3:=a.trans l λq p=>.inr (by have:q=Z.nx:=by simpa using p
                                             omega)
 rcases n with⟨d,rfl,o⟩|⟨d,rfl⟩
 .have f:R .neq ψ θ μ μ s3=.ok Θ s3:=rfl;rw[f,af,ag,B tW,av,show s3.m.g Z.nx=_ from o,ak];exact⟨j,.inl ⟨d,rfl⟩⟩
 .have f:R .neq ψ θ ϖ μ s3=.ok ι s3:=rfl;rw[f,af,ag,gq rfl];exact⟨j,.inr ⟨d,rfl⟩⟩
end
end
section
variable {κ τ:Nat} {π:PI} {Z Z':O} {L Lk:δ aT} {T N fr:Nat}
def YO (τ N:Nat):tp:=.cells [.ptr τ 0,ζ (N/8)] 135 φ
def Eh {s:O}(a:s.m.g κ=Φ (YO τ N)){Kq0:K->Prop}(b:Kq0 (.ptr τ 0)):fP 0 (.ptr κ 0) s Kq0:=by
 unfold fP;rw[bk,af,ah,af,av,a];exact b
def alK (v:Z.m.g κ=Φ (YO τ N))(d:κ<Z.nx){c:nH}(x:c.ok){Q:K->O->Prop}(u:c.gone=φ->∀s,Kp [] Z s->Rq0 132 [.ptr τ 0,.str (vj c.nm),.str c.val] s Q)
 (w:c.gone=θ->∀s,Kp [] Z s->Rq0 131 [.ptr τ 0,.str (vj c.nm)] s λy s'=>∃b e,y=.tuple [b,e]/\Q e s'):Rq0 77 [.ptr κ 0,.agg (jj c)] Z Q:=by
 refine bE ?_;rw[w77,bz];refine⟨rfl,?_⟩;rw[aN];unfold jj;generalize hl:[I c.sp,K.str c.key,.str c.val,.bool c.gone]=l;have q:l[0]?=Φ (I c.sp):=Vx
 have l1:l[1]?=Φ (.str c.key):=Vx
 have l2:l[2]?=Φ (.str c.val):=Vx
 have p:l[3]?=Φ (.bool c.gone):=Vx
 have r:Kp [] Z (O.new Z (Ϟ l)):=(Δ [] Z).new _;have k:(O.new Z (Ϟ l)).m.g Z.nx=Φ (Ϟ l):=ay _ _;have D:(O.new Z (Ϟ l)).nx=Z.nx+1:=rfl;generalize O.new Z (Ϟ l)=s1 at*;have z:aR ϐ5 [(0,1,I c.sp),(1,1,.str c.key)] s1=.ok (vV c.nm) s1:=rfl;simp only[fl,ly,k,q,l1,z];refine(za x.1).mono ?_;rintro _ s2 ⟨rfl,j⟩;have C:=(j.keep Z.nx J V).trans k;have i:=r.trans j V;have a:=(i.keep κ d V).trans v;simp only[C,lW,p,ag];cases n:c.gone with
 |true=>
  rw[gq rfl];refine Eh a ?_;refine(w n s2 i).mono ?_;rintro _ o ⟨b,e,rfl,f⟩;rw[aE,af,aL,aE,af];exact f
 |false=>
  rw[B tW,aZ,bk,af,ah,af,av,a];simp only[YO,io,zac,l2];refine(u n s2 i).mono ?_;intro y o f;exact⟨⟨gt,gt,gt⟩,gt,f⟩
set_option maxHeartbeats 1000000 in
def UC (h:tN κ τ π Z L Lk T N fr)(hL:Small L){v:K}{a:List nH}(hv:Sl Z [] v 4 (pJ a))(hn:a.length<=5000){Q:K->O->Prop}
 (q1:(∃c∈a,¬c.ok)->∀s,Kp [] Z s->Q (I 1) s) (q3:(∀c∈a,c.ok)->fr<rQ L [] a\/N/8<rQ L [] a->∀s,Kp [] Z s->Q (I 3) s) (q0:a=[]->∀s,Kp [] Z s->Q (I 0) s)
 (d:Nat->O->Prop) (u e:O->Prop) (z:∀i s,d i s->s.m.g κ=some (YO τ N)/\Sl s [] v 4 (pJ a)) (p:∀s,u s->s.m.g κ=some (YO τ N)) (o:∀s,e s->s.m.g κ=some (YO τ N))
 (C:∀i s s',d i s->Kp [] s s'->d i s') (f:(∀c∈a,c.ok)->rQ L [] a<=fr->rQ L [] a<=N/8->∀s,Kp [] Z s->d 0 s)
 (H:∀i (hi:i<a.length) s,(∀c∈a,c.ok)->d i s->Rq0 77 [.ptr κ 0,.agg (jj a[i])] s λy s'=>(y=I 0/\d (i+1) s')\/(y=I 3/\u s'))
 (X:∀s,(∀c∈a,c.ok)->d a.length s->Rq0 79 [.ptr τ 0] s λy s'=>(y=I 0/\Q (I 0) s')\/(y=I 3/\u s')\/(y=I 20/\e s'))
 (vx:∀s,u s->Rq0 78 [.ptr τ 0] s λ_ s'=>Q (I 3) s') (Y:∀s,e s->Rq0 78 [.ptr τ 0] s λ_ s'=>Q (I 20) s') (hN:N<=100000) (lR:fr<=100000):Rq0 36 [.ptr κ 0,v] Z Q:=by
 refine bE ?_;rw[w36];refine(abH h hL hv hn).mono ?_;rintro _ s1 ⟨j,⟨r,rfl⟩|⟨aa,rfl⟩⟩
 .have W:∀s,R .neq (some .int) true (I 0) (.int .i64 0) s=.ok (.bool false) s:=λs=>rfl;have e3:∀s,R .neq (some .int) true (I 3) (.int .i64 0) s=.ok (.bool true) s:=λs=>rfl;rw[aE,af,aL,aE,af,W,af,ag,B tW];have h1:=h.still j
  have BU:Rq0 76 [.ptr κ 0] s1 λy s=>y=I fr/\s=s1:=by
   refine bE ?_;rw[w76,cc,af,ag,B tW];refine Eh h1.get ?_;refine(aaT h1.tr).same ?_;exact⟨rfl,rfl⟩
  refine BU.same ?_;generalize hm:rQ L [] a=n at*;have e6:R .gtr none false (I n) (I fr) s1=.ok (.bool (decide (fr<n))) s1:=yZ
  have e7:R .gtr none false (I n) (I ((N/8:Nat):Int)) s1=.ok (.bool (decide (N/8<n))) s1:=yZ
  rw[e6,af]
  by_cases G:fr<n
  .simp only[jp G,ii,xk,lI,ix];exact q3 r (.inl G) s1 j
  .have F:=h1.get;simp only[jo G,ii,lI,bk,vr,F,kc,io,e7,GT]
   by_cases Tk:N/8<n
   .rw[gq (jp Tk)];exact q3 r (.inr Tk) s1 j
   .rw[B (by simpa using Tk),(hv.mono j).len a.length (jx _) J,af];have e8:R .eql (some .int) true (I a.length) (.int .i64 0) s1=.ok (.bool (decide (a.length=0))) s1:=by rw[au,cn];congr 2;simp only[CI];omega
    rw[e8,af,ag]
    by_cases P:a.length=0
    .rw[gq (jp P)];exact q0 (sS.1 P) s1 j
    .rw[B (by simpa using P),bU];simp only[ke];rw[af];refine bD (λfu vs s=>∃i:Nat,fu+i=a.length/\vs=[.ptr κ 0,v,I a.length,I i]/\d i s) ?_ (n:=a.length) ⟨0,rfl,rfl,f r J J s1 j⟩;rintro fu vs b ab ⟨i,hi,rfl,M⟩ next;simp only[ke];obtain⟨D,PH⟩:=z i b M;rw[dd,af,ag]
     by_cases w:i<a.length
     .rw[jp w,gq rfl];refine Uq PH w ?_;refine gW rfl rfl rfl ?_;have k5:Kp [] b (O.new b (.cells (jj a[i]) 107 false)):=(Kp.refl [] b).new _;have g5:(O.new b (.cells (jj a[i]) 107 false)).m.g b.nx=some (.cells (jj a[i]) 107 false):=ay _ _;generalize O.new b (.cells (jj a[i]) 107 false)=s5 at*;rw[aG (n:=4) g5 rfl,af];refine(H i w s5 r (C i b s5 M k5)).mono ?_;rintro _ s7 (⟨rfl,x⟩|⟨rfl,x⟩)
      .rw[W,af,ag,B tW,fV i J,af];exact next (fu-1) _ _ J ⟨i+1,J,rfl,x⟩
      .rw[e3,af,ag,gq rfl];refine Eh (p s7 x) ?_;exact(vx s7 x).mono λy s q=>q
     .rw[jo w,B tW];have fB:i=a.length:=by omega
      subst fB;refine Eh D ?_;refine(X b r M).mono ?_;rintro _ l (⟨rfl,k⟩|⟨rfl,k⟩|⟨rfl,k⟩)
      .rw[W,af,ag,B tW];exact k
      .rw[e3,af,ag,gq rfl];refine Eh (p l k) ?_;exact(vx l k).mono λy s q=>q
      .have S:R .neq (some .int) true (I 20) (.int .i64 0) l=.ok (.bool true) l:=rfl;rw[S,af,ag,gq rfl];refine Eh (o l k) ?_;exact(Y l k).mono λy s q=>q
 .have e1:R .neq (some .int) true (I 1) (.int .i64 0) s1=.ok (.bool true) s1:=rfl;rw[aE,af,aL,aE,af,e1,af,ag,gq rfl];exact q1 aa s1 j
end
section
variable {κ τ:Nat} {π:PI} {Z Z':O} {L Lk:δ aT} {T N fr:Nat}
def aht {key v:Nat}(b:key<=48)(a:v<=8192)(x y:δ aT):(if 48<key\/8192<v then x else y)=y:=B J
def Nj {p:Nm}(h:zH p):(vj p).length<=48:=by have:=h.2;unfold vj;simp;omega
def Z8 (h:tN κ τ π Z L Lk T N fr){p:Nm}(b:zH p):Rq0 72 [.ptr κ 0,I p.1,.str p.2] Z λy s=>Kp [] Z s/\y=.tuple [.str ((ey L (vj p)).getD []),.bool (ey L (vj p)).isSome,μ]:=by
 refine bE ?_;rw[w72];have j:aR ϐ5 [(0,1,I p.1),(1,1,.str p.2)] Z=.ok (vV p) Z:=rfl;rw[j,af];refine gW rfl rfl rfl ?_;have d:Kp [] Z (O.new Z (ϟ [I p.1,.str p.2])):=(Δ [] Z).new _;have f:(O.new Z (ϟ [I p.1,.str p.2])).m.g Z.nx=Φ (ϟ [I p.1,.str p.2]):=ay _ _;have q:(O.new Z (ϟ [I p.1,.str p.2])).nx=Z.nx+1:=rfl;generalize O.new Z (ϟ [I p.1,.str p.2])=s1 at*;rw[cc,af,ag,B tW,aG (n:=2) f rfl,af];refine(No p).mono ?_;rintro _ s2 ⟨rfl,a⟩;have h2:=(h.still d).still a;have k:=(a.keep Z.nx J V).trans f;rw[jp b,bZ,af,ag,B tW,aZ,bk,af,ah,af];refine h2.tau ?_;rw[aG (n:=2) k rfl,af];refine(za b).mono ?_;rintro _ o ⟨rfl,c⟩;have e:=h2.still c;refine(Yu e.tr (Nj b)).mono ?_;rintro _ l ⟨i,rfl⟩;rw[aE,af,aL,aE,af,aL,aL,aE,af];exact⟨⟨⟨e.tau rfl,gt⟩,gt,gt⟩,gt,((d.trans a V).trans c V).trans i V,rfl⟩
end
section
variable {κ τ:Nat} {π:PI} {Z Z':O} {L Lk:δ aT} {T N fr:Nat}
def wv (sp:Int)(to:bS):bS:=if to=[]then (if sp+1<256 then vj (sp+1,[])else [])else vj (sp,to)
def iX (p:aT):aT:=(p.1.drop 1,p.2)
def uj (L:δ aT)(sp:Int)(fm to:bS):δ aT:=(L.filter (Dy (vj (sp,fm)) (wv sp to))).map iX
def abE {sp:Int}{fm to:bS}{p:aT}(h:Dy (vj (sp,fm)) to p=θ):1<=p.1.length:=by
 rw[aex]at h;simp only[mZ,ws]at h;cases hp:p.1 with
 |cons a l=>simp
 |nil=>
  rw[hp]at h;have:=yr h.1 (Nk _);unfold vj at this;cases this
set_option maxHeartbeats 1000000 in
def AF (h:tN κ τ π Z L Lk T N fr){sp:Int}{fm to:bS}(u:zH (sp,fm))(hq:zH (sp,to))(hl:L.length<=1000000):Rq0 19 [.ptr κ 0,I sp,.str fm,.str to] Z λy s=>∃x,y=.tuple [x,I 0]/\Kp [] Z s/\Sl s [] x 2 (cT (uj L sp fm to)):=by
 refine bE ?_;rw[w19];have CP:aR [.int .i64 0,.str []] [(0,1,I sp),(1,1,.str fm)] Z=.ok (.agg [I sp,.str fm]) Z:=rfl;have AJ:aR [.int .i64 0,.str []] [(0,1,I sp),(1,1,.str to)] Z=.ok (.agg [I sp,.str to]) Z:=rfl;rw[CP,af,AJ,af,bW,aP,bW,aP];have k1:Kp [] Z (O.new Z (.cells [.int .i64 0,.str []] 129 false)):=(Kp.refl [] Z).new _;have g1:(O.new Z (.cells [.int .i64 0,.str []] 129 false)).m.g Z.nx=some (.cells [.int .i64 0,.str []] 129 false):=ay _ _;have n1:(O.new Z (.cells [.int .i64 0,.str []] 129 false)).nx=Z.nx+1:=rfl;generalize O.new Z (.cells [.int .i64 0,.str []] 129 false)=s1 at*;have k2:Kp [] s1 (O.new s1 (.cells [.int .i64 0,.str []] 129 false)):=(Kp.refl [] s1).new _;have g2:(O.new s1 (.cells [.int .i64 0,.str []] 129 false)).m.g s1.nx=some (.cells [.int .i64 0,.str []] 129 false):=ay _ _;have n2:(O.new s1 (.cells [.int .i64 0,.str []] 129 false)).nx=s1.nx+1:=rfl;generalize O.new s1 (.cells [.int .i64 0,.str []] 129 false)=s2 at*;have lV:=(k2.keep Z.nx J V).trans g1;rw[aK,lV,aU,aN,show bC [.int .i64 0,.str []] 0 [I sp,.str fm]=[I sp,.str fm]from rfl];refine⟨⟨rfl,rfl,V⟩,?_⟩;have k3:Kp [] Z (O.set s2 Z.nx (.cells [I sp,.str fm] 129 false)):=(k1.trans k2 V).set _ (.inr (hI _)) J;have g3:(O.set s2 Z.nx (.cells [I sp,.str fm] 129 false)).m.g Z.nx=some (.cells [I sp,.str fm] 129 false):=ao _ _ _;have yV:(O.set s2 Z.nx (.cells [I sp,.str fm] 129 false)).m.g s1.nx=_:=(ar _ _ _ _ J).trans g2;have n3:(O.set s2 Z.nx (.cells [I sp,.str fm] 129 false)).nx=s2.nx:=rfl;generalize O.set s2 Z.nx (.cells [I sp,.str fm] 129 false)=s3 at*;rw[aK,yV,aU,aN,show bC [.int .i64 0,.str []] 0 [I sp,.str to]=[I sp,.str to]from rfl];refine⟨⟨rfl,rfl,V⟩,?_⟩;have k4:Kp [] Z (O.set s3 s1.nx (.cells [I sp,.str to] 129 false)):=k3.set _ (.inr J) J
 have g4:(O.set s3 s1.nx (.cells [I sp,.str to] 129 false)).m.g s1.nx=some (.cells [I sp,.str to] 129 false):=ao _ _ _;have Vn:(O.set s3 s1.nx (.cells [I sp,.str to] 129 false)).m.g Z.nx=_:=(ar _ _ _ _ J).trans g3;have n4:(O.set s3 s1.nx (.cells [I sp,.str to] 129 false)).nx=s3.nx:=rfl;generalize O.set s3 s1.nx (.cells [I sp,.str to] 129 false)=s4 at*;have h4:=h.still k4;rw[cc,af,ag,B tW,aG (n:=2) Vn rfl,af];refine(No (sp,fm)).mono ?_;rintro _ s5 ⟨rfl,o⟩;have g5:=(o.keep s1.nx J V).trans g4;have X:=(o.keep Z.nx J V).trans Vn;have n5:=o.nx;rw[jp u,bZ,af];simp only[aD,r8,pi,ii,tw,dH];rw[aG (n:=2) g5 rfl,af];refine(No (sp,to)).mono ?_;rintro _ s6 ⟨rfl,l⟩;have g6:=(l.keep s1.nx J V).trans g5;have W:=(l.keep Z.nx J V).trans X;have n6:=l.nx;rw[jp hq,bZ,af,aC,B tW,af,ag,B tW,aG (n:=2) g6 rfl,af];refine(za hq).mono ?_;rintro _ d ⟨rfl,D⟩;have S:=(D.keep Z.nx J V).trans W;have n7:=D.nx;have h7:=((h4.still o).still l).still D;have K7:=((k4.trans o V).trans l V).trans D V;refine iO (λC s=>C=[.ptr κ 0,.ptr Z.nx 0,.str (wv sp to)]/\Kp [] d s) ?_ ?_
 .intro lH I5;have ad:R .eql (some .str) true (.str to) (.str []) d=.ok (.bool (decide (to=[]))) d:=by rw[fG,rK]
  rw[ad,af,ag];obtain⟨⟨p1,p2⟩,p3⟩:=u;dsimp only at p1 p2
  by_cases f:to=[]
  .have ac:R .add none true (I sp) (.int .i64 1) d=.ok (I (sp+1)) d:=by rw[au,cE,bt J]
   have ab:R .lss none true (I (sp+1)) (.int .i64 256) d=.ok (.bool (decide (sp+1<256))) d:=by rw[au,cU]
   rw[jp f,gq rfl,ac,af,ab,af,ag]
   by_cases r:sp+1<256
   .have P:aR [.int .i64 0,.str []] [(0,1,I (sp+1)),(1,1,.str [])] d=.ok (vV (sp+1,[])) d:=rfl;rw[jp r,gq rfl,af,P,af];refine(za (p:=(sp+1,[])) ⟨⟨afz,r⟩,V⟩).mono ?_;rintro _ s8 ⟨rfl,k⟩;exact I5 _ _ ⟨by unfold wv;rw[gq f,gq r],k⟩
   .rw[jo r,B tW];exact I5 _ _ ⟨by unfold wv;rw[gq f,B r],Kp.refl _ _⟩
  .rw[jo f,B tW];exact I5 _ _ ⟨by unfold wv;rw[B f],Kp.refl _ _⟩
 .rintro _ s8 ⟨rfl,k⟩;simp only[ke];have h8:=h7.still k;have g8:=(k.keep Z.nx J V).trans S;rw[aZ,bk,af,ah,af];refine h8.tau ?_;rw[aG (n:=2) g8 rfl,af];refine(za u).mono ?_;rintro _ s9 ⟨rfl,k9⟩;have Q:=h8.still k9;refine(VJ Q.tr _ _).mono ?_;rintro _ a ⟨eX,rfl,qP,Dx⟩;have e0:R .neq (some .int) true (I 0) (.int .i64 0) a=.ok (.bool false) a:=rfl;rw[aE,af,aL,aE,af];refine⟨⟨⟨Q.tau rfl,gt⟩,gt,gt⟩,gt,?_⟩;have aj:=((K7.trans k V).trans k9 V).trans qP V
  have ai:dV a:=by
   obtain⟨⟨G,Gk,f,_⟩,_⟩:=(Q.still qP).tr;exact f.fr
  rw[e0,af,ag,B tW,bU];unfold uj;have L9:∀p∈L.filter (Dy (vj (sp,fm)) (wv sp to)),1<=p.1.length:=λp u=>abE (tH.1 u).2;have ak:(L.filter (Dy (vj (sp,fm)) (wv sp to))).length<=1000000:=rx (Jf _ _) hl;generalize L.filter (Dy (vj (sp,fm)) (wv sp to))=M at*;simp only[ke];rw[Dx.len M.length (wP _) J,af];refine bD (λfu C s=>∃i x F,fu+i=M.length/\C=[x,eX,I M.length,I i]/\Kp [] a s/\Own s x 2 123 (cT ((M.take i).map iX)) F/\∀b∈F,a.nx<=b/\b<s.nx) ?_ (n:=M.length) ⟨0,.ae,[],rfl,rfl,Kp.refl _ _,.inl ⟨rfl,rfl,rfl⟩,V⟩;rintro fu C s al ⟨i,x,F,hi,rfl,v,e,hF⟩ next;simp only[ke];rw[dd,af,ag];have nk:=v.nx
  by_cases hc:i<M.length
  .rw[jp hc,gq rfl];have cs:=Dx.mono v;refine cs.fj (L:=M.map bR) J (Wi _) (i:=i) EV _ ?_;rw[S7];refine gW rfl rfl rfl ?_;have kA:Kp [] s (O.new s (.cells (bR M[i]) 137 false)):=(Kp.refl [] s).new _;have gA:(O.new s (.cells (bR M[i]) 137 false)).m.g s.nx=some (.cells (bR M[i]) 137 false):=ay _ _;have nA:(O.new s (.cells (bR M[i]) 137 false)).nx=s.nx+1:=rfl;have oA:Own (O.new s (.cells (bR M[i]) 137 false)) x 2 123 (cT ((M.take i).map iX)) F:=e.mono λb w=>bo _ _ _ (hF b w).2;generalize O.new s (.cells (bR M[i]) 137 false)=c at*;have kS:=(Kp.refl [] c).skip;have hn:(O.skip c).m.g c.nx=none:=kA.fresh (v.fresh ai) _ (hI _);have gS:(O.skip c).m.g s.nx=some (.cells (bR M[i]) 137 false):=gA;have nS:(O.skip c).nx=c.nx+1:=rfl;have oS:Own (O.skip c) x 2 123 (cT ((M.take i).map iX)) F:=oA.mono λ_ _=>rfl;generalize O.skip c=j at*;have H:=L9 _ (mp hc)
   have Y:gj (.str M[i].1) (some (.int .i64 1)) none j=.ok (.str (M[i].1.drop 1)) j:=by
    unfold gj;have:=vI 1 M[i].1.length M[i].1.length;rw[gq H]at this;dsimp only;rw[show(some (K.int .i64 1))=some (I ((1:Nat):Int))from rfl,this];dsimp only;rw[lw Yr]
   have l0:(bR M[i])[0]?=some (.str M[i].1):=rfl;have l1:(bR M[i])[1]?=some (.str M[i].2):=rfl;simp only[aZ,ly,gS,l0,l1,Y];have w:aR [.str [],.str []] [(0,1,.str (M[i].1.drop 1)),(1,1,.str M[i].2)] j=.ok (.agg (bR (iX M[i]))) j:=rfl;rw[w,af];refine AM 32 oS J (λq hq=>⟨aaF,aaF⟩) J hn rfl rfl rfl rfl (by rw[wP,so,pu];omega) ?_;intro v' sB FB oB kB z;have gB:(O.set j c.nx (.cells (K.agg (bR (iX M[i]))).bY 123 false)).m.g s.nx=_:=(ar _ _ _ _ J).trans gS;rw[gB];simp only[lW,l0,l1];refine⟨⟨⟨gt,gt⟩,⟨gt,gt⟩,gt⟩,⟨gt,gt⟩,?_⟩
   have aa:cT ((M.take i).map iX)++(K.agg (bR (iX M[i]))).bY=cT ((M.take (i+1)).map iX):=by
    rw[su hc,wd,wk];rfl
   rw[aa]at oB;rw[fV i J,af];refine next (fu-1) _ _ J ⟨i+1,v',FB,J,rfl,((v.trans kA V).trans kS V).trans kB λq hq=>.inr ?_,oB,λq hq=>⟨?_,(z q hq).2⟩⟩
   .rcases ip.1 hq with h|h
    .omega
    .exact(hF q h).1
   .rcases(z q hq).1 with h|h
    .exact(hF q h).1
    .omega
  .rw[jo hc,B tW];rw[lw J]at e;exact⟨x,rfl,aj.trans v V,e.sl λb w=>⟨V,(hF b w).2⟩⟩
end
section
variable {κ τ:Nat} {π:PI} {Z Z':O} {L Lk:δ aT} {T N fr:Nat}
def wG (κ τ:Nat)(π:PI)(s:O)(Lk:δ aT)(T N fr:Nat):Prop:=kW 0 τ π s Lk Lk T N fr/\s.m.g κ=Φ (YO τ N)/\κ<s.nx/\κ∉own τ π
def wG.at' {s:O}(h:wG κ τ π s Lk T N fr):tN κ τ π s Lk Lk T N fr:=⟨h.1.t2,h.2.1,h.2.2.1,h.2.2.2⟩
def abt {b:GM}(f:Pg π Z b)(j:dV Z)(i:ja π Z b T)(m:gQ b Lk)(k:Calm π.D)(g:π.D.aB.length=N)(v:N<=100000):
 Rq0 65 [.ptr π.a 0,.ptr π.p 0,μ] Z λy s=>∃κ τ,y=.tuple [.ptr κ 0,μ]/\Kp [] Z s/\Z.nx<=κ/\Z.nx<=τ/\wG κ τ π s Lk T N b.bT:=by
 refine bE ?_;rw[w65];have u:R .neq ψ θ μ μ Z=.ok Θ Z:=rfl;rw[u,af,ag,B tW];refine(agP f j i m k g).mono ?_;rintro _ s1 ⟨τ,rfl,n,e,c⟩;refine(agQ c.t2).same ?_
 have o:R .quo ν θ (I N) (I 8) s1=.ok (ζ (N/8)) s1:=by
  have r:R .quo ν θ (I N) (I 8) s1=.ok (I (IntKind.i64.wrap (Int.tdiv (N:Int) 8))) s1:=rfl;have q:Int.tdiv (N:Int) 8=((N/8:Nat):Int):=rfl;rw[r,q,bt J]
 have l:aR [.bq,μ] [(0,1,.ptr τ 0),(1,1,ζ (N/8))] s1=.ok (.agg [.ptr τ 0,ζ (N/8)]) s1:=rfl;rw[o,af,l,af,bz];refine⟨rfl,?_⟩;rw[aN];have d:Kp [] s1 (O.new s1 (YO τ N)):=(Δ [] s1).new _;have n1:=e.nx;exact⟨s1.nx,τ,rfl,e.trans d V,J,n,c.still d,ay _ _,ã _,λhh=>by have:=c.t2.Bn _ hh;omega⟩
def Un {a n:Nat}{F:δ Nat}(Q:64<=n)(P:n<=8000)(w:dz Z a F (uI (List.replicate n mq)))(m:dV Z)(C:∀b∈F,b<Z.nx):
 Rq0 33 [.ptr a 0] Z λy s=>∃κ τ π,y=.tuple [.ptr κ 0,μ]/\π.a=a/\Kp F Z s/\(∀b∈κ::own τ π,b∈F\/Z.nx<=b)/\wG κ τ π s [] 0 n (n-2-n/4)/\π.D.set=φ:=by
 refine bE ?_;rw[w33];have g:(uI (List.replicate n mq)).aB.length=n:=by show(List.replicate n mq).length=n;simp
 have v:∀i,i<(uI (List.replicate n mq)).aB.length->(uI (List.replicate n mq)).cur i=mq:=λi hi=>by
  rw[g]at hi;unfold aX.cur;rw[show(uI (List.replicate n mq)).waits=[]from rfl,wV];show(List.replicate n mq).getD i []=mq;simp[aMM,hi]
 refine(P4 w m ⟨rfl⟩ rfl rfl J v).mono ?_;rintro _ s2 ⟨π,rfl,rfl,k,l,d,G,S,x,c,⟨r,f,M⟩,p⟩;rw[g]at k l;rw[aE,af,aL,aE,af];refine(abt k (d.fresh m) l (agL _ J J) x (c.trans g) J).mono ?_;rintro _ H ⟨κ,τ,rfl,o,u,q,j⟩;rw[aE,af,aL,aE,af];have n2:=d.nx;refine⟨κ,τ,π,rfl,rfl,d.trans o V,λb z=>?_,?_,p⟩
 rotate_left
 .have e:(GM0 (n-1-n/4)).bT=n-2-n/4:=by unfold GM.bT GM0;simp;omega
  rw[e]at j;exact j
 rcases ip.1 z with h|h
 .right;omega
 .unfold own at h;rw[f]at h;rcases ip.1 h with h|h
  .right;omega
  .rcases lh.1 h with h|h
   .have h:b=r:=by simpa using h
    right;omega
   .exact G b h
def Sh {L:δ aT}(l:Small L)(b:δ nH):∀m:zI,(∀p n,tJ m p=Φ n->n<=8192)->(∀c∈b,c.ok)->rQ L m b<=96*b.length:=by
 induction b with
 |nil=>intro m _ _;exact sw _
 |cons c r i=>
  intro m e f;have g:=f c V
  have j:AT L m c.nm<=8192:=by
   unfold AT;cases hg:tJ m c.nm with
   |none=>exact l.get _
   |some w=>exact e _ _ hg
  have h1:=i (As m c.nm c.val.length) (λp n a=>by
   rw[Iv]at a
   split at a
   .cases a;exact g.2.1
   .exact e _ _ a) λd k=>f d (by simp[k])
  have p1:=kY g.2.1;have p2:=kY j;rw[lx];show(24+2*bO c.val.length+2*bO (AT L m c.nm))+rQ L (As m c.nm c.val.length) r<=_;omega
end
def Lv {L:δ aT}{p q:aT->Bool}(h:∀x,p x=θ->q x=φ):eW (L.filter p)+eW (L.filter q)<=eW L:=by
 induction L with
 |nil=>simp[eW]
 |cons x r a=>
  rw[Ep,Ep];cases hp:p x with
  |true=>rw[h x hp];simp only[ix,pi,ii,eW,pw,List.sum_cons]at*;omega
  |false=>cases b:q x<;>simp only[ix,pi,ii,eW,pw,List.sum_cons]at* <;>omega
def Lw (L:δ aT)(k:bS):eW (mM L k)<=eW L:=by
 unfold mM;rw[rh];exact Lv λx hx=>by simpa using mc J8
def O9 (L:δ aT)(c:nH):eW (GD L c)<=eW L+bO c.val.length:=by
 have h:=Lw L (vj c.nm);unfold GD
 split
 .omega
 .have e:∀M:δ aT,eW ((vj c.nm,c.val)::M)=bO c.val.length+eW M:=λM=>by simp[eW]
  unfold oO;unfold mM at h;rw[rh]at h⊢;rw[e,Nat.add_left_comm,æ (eW L)];exact Nat.add_le_add_left h _
def Qa (L:δ aT)(a:δ nH)(b:∀c∈a,c.ok):(gC L a).length<=L.length+a.length/\eW (gC L a)<=eW L+18*a.length:=by
 induction a generalizing L with
 |nil=>exact⟨hI _,hI _⟩
 |cons c r e=>
  obtain⟨l,k⟩:=e (GD L c) λd f=>b d (by simp[f]);have j:=Ud L c;have i:=O9 L c;have g:=kY (b c V).2.1;show(gC (GD L c) r).length<=_/\eW (gC (GD L c) r)<=_;rw[lx];omega
section
variable {κ τ:Nat} {π:PI} {Z Z':O} {L Lk:δ aT} {T N fr:Nat}
def aez (h:wG κ τ π Z L T N fr)(C:π.D.set=φ)(z:Small L)(hT:T<=900000000)(hN:N<=8000){v:K}{d:δ nH}(P:Sl Z (own τ π) v 4 (pJ d))(w:∀c∈d,c.ok)(hn:d.length<=5)(hr:2*L.length+eW L+700<=N-1-N/4)(h8:500<=N/8):
 Rq0 36 [.ptr κ 0,v] Z λy s=>y=I 0/\∃g W fr',g.a=π.a/\W<=T+10000/\xx τ π g Z s/\wG κ τ g s (gC L d) W N fr'/\Small (gC L d)/\g.D.set=φ:=by
 have Q:=h.at';have lR:=Q.tr.XO;have qR:=h.1.room;have aa:=Sh z d [] (λp n hp=>by cases hp) w;have Dz:=λi (hi:i<=d.length)=>Qa L (d.take i) λc hc=>w c (ww hc)
 refine UC Q z (P.fc V) J (λ⟨c,hc,x⟩=>absurd (w c hc) x) (λ_ x=>J) (λe s k=>⟨rfl,π,T,fr,rfl,J,uD k,⟨by subst e;exact h.1.still k,(k.keep κ h.2.2.1 V).trans h.2.1,ov h.2.2.1 k.nx,h.2.2.2⟩,by subst e;exact z,C⟩)
  (λi s=>Kp (own τ π) Z s/\Small (gC L (d.take i))/\∃f c,kW c τ π s (gC L (d.take i)) L T N f/\c<=71*i) (λ_=>False) (λ_=>False) ?_ ?_ ?_ ?_ ?_ ?_ ?_ ?_ ?_ J J
 .rintro i s ⟨k,_⟩;exact⟨(k.keep κ h.2.2.1 h.2.2.2).trans h.2.1,(P.mono k).fc V⟩
 .rintro s ⟨⟩
 .rintro s ⟨⟩
 .rintro i s s' ⟨k,a,f,c,t,r⟩ j;exact⟨k.trans j V,a,f,c,t.still j,r⟩
 .intro _ _ _ s k;exact⟨k.mono V,z,_,_,h.1.still k,hI _⟩
 .rintro i hi s _ ⟨k,a,f,c,t,Vj⟩;have hc:=w _ (mp hi);have H:=a.do hc;rw[<-Ci L d i hi]at H;have S:=Ci L d i hi;have hg:=(k.keep κ h.2.2.1 h.2.2.2).trans h.2.1;have BS:=Nj hc.1;have o:=hc.2.1;have p1:=kY o;have p2:=kY (a.get (vj d[i].nm));obtain⟨b1,b2⟩:=Dz i J;rw[pu]at b1 b2;have ab:=t.room;have hf:42<=f:=by omega
  refine alK hg (ov h.2.2.1 k.nx) hc (λG s2 j=>?_) (λG s2 j=>?_)
  .refine(agM (t.still j) (vj d[i].nm) d[i].val).mono ?_;rintro _ Y ⟨⟨m,_⟩,rfl,F,l⟩;rw[aht BS o]at l;rw[B J]at l;rw[B J,B J];refine .inl ⟨rfl,(k.trans j V).trans m lk,H,F,c+bO ((ey (gC L (d.take i)) (vj d[i].nm)).getD []).length+bO d[i].val.length+35,?_,J⟩;rw[S];unfold GD;rw[B (by simp[G])];exact l
  .refine(agR (t.still j) (vj d[i].nm)).mono ?_;rintro _ Y ⟨⟨m,_⟩,rfl,F,l⟩;rw[B J,B J]at l;rw[B J,B J];refine⟨_,_,rfl,.inl ⟨rfl,(k.trans j V).trans m lk,H,F,c+bO ((ey (gC L (d.take i)) (vj d[i].nm)).getD []).length+35,?_,J⟩⟩;rw[S];unfold GD;rw[gq G];exact l
 .rintro s _ ⟨k,a,f,c,t,Vj⟩;rw[lw (hI _)]at a t;refine(Rb t hT J).mono ?_;rintro _ s2 (⟨rfl,_,ac⟩|⟨rfl,g,ea,⟨m,Qv⟩,X,u⟩|⟨rfl,_,u,_⟩)
  .omega
  .have M:=k.trans m lk;have q:=λb x=>(Qv b x).imp id λh=>rx k.nx h;refine .inl ⟨rfl,rfl,g,_,_,ea,hI _,⟨M,q⟩,⟨X,(M.keep κ h.2.2.1 h.2.2.2).trans h.2.1,ov h.2.2.1 M.nx,λhh=>?_⟩,a,u.trans C⟩;rcases q κ hh with h1|h1
   .exact h.2.2.2 h1
   .have:=h.2.2.1;omega
  .rw[C]at u;cases u
 .rintro s ⟨⟩
 .rintro s ⟨⟩
end
