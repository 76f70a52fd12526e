import Derived.Test.YtckodcbgpffimaaGreatDoorKv
namespace Lim
open Go
noncomputable section
set_option linter.defProp false
set_option maxRecDepth 100000
section
variable {Z Z' s:O} {κ τ n:Nat} {π:PI} {id:Int} {T N fr:Nat}
def Ee {a:δ K->O->(δ K->O->Prop)->Prop}{b:δ K}{s:O}(h:a b s (Ed a 0)):cV a b s:=⟨1,h⟩
def abl (h:tN κ τ π Z [] [] T N fr){sp:Int}(a:0<=sp/\sp<256){fm to:δ Γ}(d:fm.length<=47)(c:to.length<=47):Rq0 19 [.ptr κ 0,I sp,.str fm,.str to] Z λy s=>∃x,y=.tuple [x,μ]/\Kp [] Z s/\Sl s [] x 2 []:=by
 refine(AF h ⟨a,d⟩ ⟨a,c⟩ V).mono ?_;rintro y s ⟨x,rfl,k,b⟩;exact⟨x,rfl,k,b⟩
def A1 (κ:Nat)(id:Int)(n:Nat):δ K:=[.ptr κ 0,I id,ζ (8+n),μ,μ,.int .u8 1,μ,μ,μ,μ]
def vM (Z:O)(h κ:Nat)(id:Int)(n:Nat):Prop:=h<Z.nx/\Z.m.g h=Φ (Ø (A1 κ id n))
def vM.still {h:Nat}(a:vM Z h κ id n)(b:Kp [] Z Z'):vM Z' h κ id n:=⟨ov a.1 b.nx,(b.keep h a.1 V).trans a.2⟩
def axM (x:K)(Z:O):Rq0 98 [.eH,x] Z λy s=>y=.bool φ/\s=Z:=by
 refine bE ?_;rw[w98];have e:R .eql (Φ .iface) θ .eH .eH Z=.ok ι Z:=rfl;rw[e,af,ag,gq rfl];exact⟨rfl,rfl⟩
def aaS (Z:O):Rq0 53 [.eH] Z λy s=>y=I 0/\Kp [] Z s:=by
 refine bE ?_;rw[w53,bW,aP,aK,ay,aU];refine⟨⟨rfl,rfl,tW⟩,?_⟩;have e:bC [K.int .i64 0] 0 (K.int .i64 0).bY=[μ]:=rfl;rw[e];generalize a:O.set (O.new Z (Û [μ])) Z.nx (Û [μ])=s2;have c:s2.m.g Z.nx=Φ (Û [μ]):=by rw[<-a];exact ao _ _ _
 have b:Kp [] Z s2:=by rw[<-a];exact((Δ [] Z).new _).set _ (.inr (hI _)) (ã _)
 rw[show mG 193 (.ptr Z.nx 0) s2=.ok (.iface 193 (.ptr Z.nx 0)) s2 from rfl,af];refine(axM _ s2).same ?_;rw[av,c,ak];exact⟨rfl,b⟩
def abL {h:Nat}(a:tN κ τ π Z [] [] T N fr)(d:vM Z h κ id n)(k:n<4):Rq0 54 [.ptr h 0] Z λy s=>y=.eH/\Kp [] Z s:=by
 refine bE ?_;rw[w54,aZ];have f:(A1 κ id n)[0]?=Φ (.ptr κ 0):=rfl;have e:(A1 κ id n)[2]?=Φ (ζ (8+n)):=rfl;simp only[rr,d.2,f,e];refine(abl a (sp:=((8+n:Nat):Int)) J V V).mono ?_;rintro _ s1 ⟨x,rfl,b,c⟩;have g:R .neq ψ θ μ μ s1=.ok Θ s1:=rfl;have len:∀s,aY .slice x s=.ok (ζ 0) s:=λs=>c.len 0 rfl J s;have j:R .eql ψ θ (ζ 0) μ s1=.ok ι s1:=rfl;rw[aE,af,aL,aE,af];refine⟨⟨gt,gt,gt⟩,gt,?_⟩;rw[g,af,ag,B tW,len,af,j,af,bU,af];simp only[ke];refine Ee ?_;simp only[ke];have i:R .lss ν φ μ (ζ 0) s1=.ok Θ s1:=rfl;rw[i,af,ag,B tW,bZ,af,ag,r8,B tW];exact⟨gt,b⟩
def VW (a:tN κ τ π Z [] [] T N fr)(hi:1<=id/\id<=5)(g:n<4):Rq0 21 [.ptr κ 0,I id,I n] Z λy s=>∃h,y=.tuple [.ptr h 0,μ]/\Kp [] Z s/\vM s h κ id n/\Z.nx<=h:=by
 refine bE ?_;rw[w21,cc,af,ag,B tW];have p:R .lss ν θ (I id) ϖ Z=.ok Θ Z:=aan
 have o:R .gtr ν θ (I id) (I 5) Z=.ok Θ Z:=aeU
 have m:R .lss ν θ (I n) μ Z=.ok Θ Z:=aan
 have l:R .geq ν θ (I n) (I 4) Z=.ok Θ Z:=by rw[au,rM,jo J]
 have k:R .add ν θ (I 8) (I n) Z=.ok (ζ (8+n)) Z:=EW
 simp only[p,o,m,l,ii,GT];have q:aR ϐ6 [(2,1,.int .u8 1)] Z=.ok (.agg [μ,μ,.int .u8 1,μ,μ,μ]) Z:=rfl;have r:aR [.bq,μ,μ,μ,μ,ϕ,μ,μ,μ,μ] [(0,1,.ptr κ 0),(1,1,I id),(2,1,ζ (8+n)),(3,6,.agg [μ,μ,.int .u8 1,μ,μ,μ])] Z=.ok (.agg (A1 κ id n)) Z:=rfl;rw[k,af,q,af,r,af,bz];refine⟨rfl,?_⟩;rw[aN];generalize f:O.new Z (Ø (A1 κ id n))=s1;obtain⟨d,i,u⟩:=dB f;have e:vM s1 Z.nx κ id n:=⟨J,i⟩;refine(abL (a.still d) e g).mono ?_;rintro _ s2 ⟨rfl,c⟩;refine(aaS s2).mono ?_;rintro _ s3 ⟨rfl,b⟩;have j:R .neq ψ θ μ μ s3=.ok Θ s3:=rfl;rw[j,af,ag,B tW];exact⟨Z.nx,rfl,(d.trans c).trans b,(e.still c).still b,hI _⟩
end
section
variable {a:Nat}{x:aT}{m n:Nat}{k:Γ}{M:δ aT}
def b4 (n:Nat):bS:=[UInt8.ofNat (n/16777216),UInt8.ofNat (n/65536),UInt8.ofNat (n/256),UInt8.ofNat n]
def ia (k:Γ)(g:Nat):bS:=k::b4 g
def uw {a:Γ}{x y:bS}(h:eI x y):eI (a::x) (a::y):=(gN ..).2 (.inr ⟨rfl,h⟩)
def Sa (h:m%256<n%256):UInt8.ofNat m<UInt8.ofNat n:=by
 rw[UInt8.lt_iff_toNat_lt,aNT,aNT];exact h
def Sb (h:m%256=n%256):UInt8.ofNat m=UInt8.ofNat n:=by
 apply aNZ.1;rw[aNT,aNT];exact h
def UA {b:Nat}(h:a<b)(c:b<4294967296)(x y:bS):eI (b4 a++x) (b4 b++y):=by
 show eI (_::_::_::_::x) (_::_::_::_::y);have Z:∀{m n:Nat} {x y:bS},m%256<n%256\/(m%256=n%256/\eI x y)->eI (UInt8.ofNat m::x) (UInt8.ofNat n::y):=λh=>(gN ..).2 (h.imp Sa λh=>⟨Sb h.1,h.2⟩);refine Z ?_
 by_cases f:a/16777216<b/16777216
 .left;omega
 refine .inr ⟨J,Z ?_⟩
 by_cases e:a/65536<b/65536
 .left;omega
 refine .inr ⟨J,Z ?_⟩
 by_cases d:a/256<b/256
 .left;omega
 refine .inr ⟨J,Z ?_⟩;left;omega
def aaj {b:Nat}(h:b<=a)(e:a<4294967296)(x:bS):lO (b4 b) (b4 a++x):=by
 rcases wl b a with h1|h1
 .have:=(UA h1 e [] x).le;simpa using this
 .have:a=b:=by omega
  subst this;unfold b4
  have:∀(p x:bS),lO p (p++x):=λp x=>by
   induction p with
   |nil=>exact λh=>by cases x<;>simp[eI,Op.bytesLess]at h
   |cons c p d=>intro h;rw[ut,gN]at h;rcases h with h|⟨_,h⟩;exact SG _ h;exact d h
  exact this _ _
def HZ {L:δ aT}(h:fq L)(k:bS)(v:δ Γ):fq (oO L k v):=by
 unfold oO fq;refine Zu.2 ⟨ë _ h,ü.2 ⟨λb c=>?_,ë _ h⟩,λa d b c=>?_⟩
 .exact Xm (tH.1 c).2
 .have h1:=Xm (tH.1 d).2;rcases ip.1 c with rfl|c
  .exact h1
  .exact gu h1 (Xm (tH.1 c).2)
def Af {L:δ aT}(h:fq L)(k:bS):fq (mM L k):=by
 unfold mM fq;refine Zu.2 ⟨ë _ h,ë _ h,λa d b c=>?_⟩;have h1:=Xm (tH.1 d).2;exact gu h1 (Xm (tH.1 c).2)
def lG (id:Nat)(f:Bool)(v:δ Γ):δ Γ:=uv id++(uv (if f=θ then 1 else 0)++(uv v.length++v))
def lK (g c:Nat):bS:=ia 108 g++b4 c
def pK (g:Nat)(k:bS):bS:=ia 112 g++k
section
variable {b:Γ} {gen:Nat} {L:δ aT}
def US (b:Γ)(x:aT):Prop:=x.1=[b,115]/\x.2.length<=2000
def OC (b:Γ)(gen:Nat)(x:aT):Prop:=∃g c id f v,g<=gen/\c<=kj/\id<=kj/\v.length<=2000/\x=(b::lK g c,lG id f v)
def UT (b:Γ)(gen:Nat)(x:aT):Prop:=∃g k,g<=gen/\k.length<=32/\1<=k.length/\x.1=b::pK g k/\x.2.length<=2000
structure rB (b:UInt8)(gen:Nat)(L:List aT):Prop where
 srt:fq L
 items:∀x∈L,US b x\/OC b gen x\/UT b gen x
def rB.more {d:Nat}(h:rB b gen L)(e:gen<=d):rB b d L:=⟨h.srt,λx j=>(h.items x j).imp id (Or.imp (λ⟨g,c,i,f,v,a,r⟩=>⟨g,c,i,f,v,rx a e,r⟩) λ⟨g,k,a,r⟩=>⟨g,k,rx a e,r⟩)⟩
def rB.put (h:rB b gen L){k:bS}{v:δ Γ}(d:US b (k,v)\/OC b gen (k,v)\/UT b gen (k,v)):rB b gen (oO L k v):=by
 refine⟨HZ h.srt _ _,λx c=>?_⟩;unfold oO at c;rcases lh.1 c with h1|h1
 .exact h.items x (tH.1 h1).1
 .rcases ip.1 h1 with rfl|h1
  .exact d
  .exact h.items x (tH.1 h1).1
def rB.filter (h:rB b gen L)(p:aT->Bool):rB b gen (L.filter p):=⟨ë _ h.srt,λx c=>h.items x (tH.1 c).1⟩
def Ug (h:fq L)(k:bS):mM L k=L.filter λx=>decide (x.1≠k):=by
 refine KA (Af h k) (ë _ h) λq=>?_
 by_cases e:k=q
 .subst e;rw[Dt];unfold ey;rw[aNV.2 λx hx=>by have:=(tH.1 hx).2;simpa using this];rfl
 .rw[Cb _ _ _ e];unfold ey
  rw[uF λx hx=>by
   have:x.1=q:=J8
   simpa[this]using ny e]
def XV (h:fq L)(c:δ bS):c.foldl mM L=L.filter λx=>decide (x.1∉c):=by
 induction c generalizing L with
 |nil=>rw[ta λx _=>V];rfl
 |cons k r d=>
  rw[List.foldl_cons,d (Af h k),Ug h,aNA]
  congr 1;funext x
  simp only[ip,rt,ne_eq,decide_not,Bool.decide_and];rw[Bool.and_comm]
def rB.first (h:rB b gen L)(d:x∈L):∃r,x.1=b::r/\x.2.length<=2015:=by
 rcases h.items x d with h|⟨g,c,i,f,v,_,_,j,e,rfl⟩|⟨g,k,_,_,_,h,e⟩
 .exact⟨_,h.1,by have:=h.2;omega⟩
 .refine⟨_,rfl,?_⟩;have p:=(gf i j).2;have o:=(gf (if f=θ then 1 else 0) Ys).2;have l:=(gf v.length J).2;show(lG i f v).length<=_;unfold lG;simp only[km];omega
 .exact⟨_,h,J⟩
def rB.aO (h:rB b gen L):eW L<=5*L.length:=by
 have:∀M:δ aT,(∀x∈M,x∈L)->eW M<=5*M.length:=λM=>by
  induction M with
  |nil=>intro _;simp[eW]
  |cons x r d=>
   intro c;have h1:=d λy e=>c y (by simp[e]);obtain⟨_,_,i⟩:=h.first (c x V);have g:bO x.2.length<=5:=afq
   simp only[eW,pw,List.sum_cons,lx]at*;omega
 exact this L λ_ f=>f
def mK (b:Γ)(k:Γ)(gen:Nat)(x:aT):Bool:= !decide (eI x.1 (b::ia k 0))&&decide (eI x.1 (b::ia k gen))
def iE (b:Γ)(k:Γ)(gen:Nat)(x:aT):Bool:= !decide (eI x.1 (b::ia k gen))&&decide (eI x.1 (b::ia k (gen+1)))
def ku (b:Γ)(gen:Nat)(L:δ aT):δ aT:=L.filter (mK b 108 gen)++L.filter (mK b 112 gen)
def axK {b x y:Γ}{r s:bS}(h:x<y):eI (b::x::r) (b::y::s):=uw ((gN ..).2 (.inl h))
def wZ (h:mK b k gen x=θ):lO (b::ia k 0) x.1/\eI x.1 (b::ia k gen):=by
 unfold mK at h;simp only[mZ,å,aNa,ws]at h;exact h
def xd (h:iE b k gen x=θ):lO (b::ia k gen) x.1/\eI x.1 (b::ia k (gen+1)):=by
 unfold iE at h;simp only[mZ,å,aNa,ws]at h;exact h
def LR (g h:Nat):eI (b::ia 108 g) (b::ia 112 h):=axK tW
def Wr {q:Γ}(f:k=108\/k=112)(e:q=108\/q=112)(h:mK b k gen x=θ):iE b q gen x=φ:=by
 cases hc:iE b q gen x with
 |false=>rfl
 |true=>
  obtain⟨i,d⟩:=wZ h;obtain⟨c,g⟩:=xd hc;rcases f with rfl|rfl<;>rcases e with rfl|rfl
  .exact absurd (c.pT d) (hU _)
  .exact absurd (gu (c.pT d) (LR _ _)) (hU _)
  .exact absurd (gu (i.pT g) (LR _ _)) (hU _)
  .exact absurd (c.pT d) (hU _)
def Bq (h:x∈ku b gen L):x∈L/\∃k,(k=108\/k=112)/\mK b k gen x=θ:=by
 unfold ku at h;rcases lh.1 h with h|h<;>obtain⟨d,c⟩:=tH.1 h
 .exact⟨d,_,.inl rfl,c⟩
 .exact⟨d,_,.inr rfl,c⟩
def It (h:fq L):fq (ku b gen L):=ud (ë _ h) (ë _ h) λx d y c=>by
 obtain⟨_,f⟩:=wZ (tH.1 d).2;obtain⟨e,_⟩:=wZ (tH.1 c).2;exact(gu f (LR _ _)).kI e
def re (b:Γ)(gen:Nat)(L:δ aT):δ aT:=L.filter λx=>decide (x.1∉((ku b gen L).take 3).map (·.1))
def HA {c:δ aT}(h:fq c)(n:Nat):c.filter (λx=>decide (x.1∉(c.take n).map (·.1)))=c.drop n:=by
 have e:=(CV n c).symm;have g:(c.take n++c.drop n).Pairwise λa b=>eI a.1 b.1:=by rw[<-e];exact h
 have i:=(Zu.1 g).2.2
 conv=>lhs;arg 2;rw[e]
 rw[TB,oF λx d=>by
  rw[aNa,Decidable.not_not];exact Ey d,ta λx d=>?_,ow]
 simp only[lm,ws,not_exists,not_and];exact λy f e=>(i y f x d).ne e
def LG (h:fq L):ku b gen (re b gen L)=(ku b gen L).drop 3:=by
 rw[<-HA (It h) 3];unfold re;generalize (List.map (λx:aT=>x.1) (List.take 3 (ku b gen L)))=ks;unfold ku;rw[TB,aNA,aNA,aNA,aNA]
 congr 1<;>(congr 1;funext x;rw[Bool.and_comm])
def EG (k:Γ)(j:k=108\/k=112)(h:fq L):(re b gen L).filter (iE b k gen)=L.filter (iE b k gen):=by
 unfold re;rw[aNA];refine List.filter_congr λx l=>?_;cases hc:iE b k gen x with
 |false=>rfl
 |true=>
  rw[S5,ws];intro i;obtain⟨y,f,e⟩:=lm.1 i;obtain⟨d,q,g,c⟩:=Bq (ww f);have:=Wr g j c;unfold iE at this hc;rw[e]at this;rw[this]at hc;cases hc
def rB.kinds (h:rB b gen L)(p:gen<4294967295)(j:x∈L):x.1=[b,115]\/iE b 108 gen x=θ\/iE b 112 gen x=θ\/x∈ku b gen L:=by
 have key:∀(k:Γ) (g:Nat) (r:bS),g<=gen->x.1=b::(ia k g++r)->iE b k gen x=θ\/mK b k gen x=θ:=λk g r l e=>by
  unfold iE mK;simp only[mZ,å,aNa,ws];rw[e];rcases wl g gen with d|d
  .right;refine⟨λhh=>?_,uw (uw (by have:=UA d J r [];simpa using this))⟩;have:=aaj (a:=g) (b:=0) (sw _) J r;rw[gN]at hh;rcases hh with hh|⟨_,hh⟩
   .exact SG _ hh
   .unfold ia at hh;rw[ut,gN]at hh;rcases hh with hh|⟨_,hh⟩
    .exact SG _ hh
    .exact this hh
  .left;have e:g=gen:=by omega
   subst e;refine⟨λhh=>?_,uw (uw (by have:=UA (ã g) J r [];simpa using this))⟩;have:=aaj (a:=g) (b:=g) (hI _) J r;rw[gN]at hh;rcases hh with hh|⟨_,hh⟩
   .exact SG _ hh
   .unfold ia at hh;rw[ut,gN]at hh;rcases hh with hh|⟨_,hh⟩
    .exact SG _ hh
    .exact this hh
 rcases h.items x j with h|⟨g,c,i,f,v,d,_,_,_,rfl⟩|⟨g,k,d,_,_,o,_⟩
 .exact .inl h.1
 .rcases key 108 g (b4 c) d rfl with h|h
  .exact .inr (.inl h)
  .exact .inr (.inr (.inr (lh.2 (.inl (tH.2 ⟨j,h⟩)))))
 .rcases key 112 g k d o with h|h
  .exact .inr (.inr (.inl h))
  .exact .inr (.inr (.inr (lh.2 (.inr (tH.2 ⟨j,h⟩)))))
def Wm (h:fq M)(k:bS):(M.filter λx=>decide (x.1=k)).length<=1:=by
 induction M with
 |nil=>simp
 |cons a r c=>
  unfold fq at h;rw[ü]at h;rw[Ep]
  split
  .rename_i e;have e:a.1=k:=by simpa using e
   rw[oF λx d=>by simpa using λe2:x.1=k=>(h.1 x d).ne (e.trans e2.symm)];simp
  .exact c h.2
def OP {p q r:aT->Bool}(h:∀x∈M,p x=θ\/q x=θ\/r x=θ):M.length<=(M.filter p).length+(M.filter q).length+(M.filter r).length:=by
 induction M with
 |nil=>simp
 |cons a t c=>
  have:=c λx hx=>h x Hs;rw[Ep,Ep,Ep];have h1:=h a V;rw[lx];rcases h1 with e|e|e<;>rw[e]<;>simp only[ix,lx]<;>(repeat' split)<;>(try simp only[lx])<;>omega
def rB.agU (h:rB b gen L)(e:gen<4294967295)(d:ku b gen L=[]):L.length<=(L.filter (iE b 112 gen)).length+(L.filter (iE b 108 gen)).length+1:=by
 have h1:=OP (M:=L) (p:=λx=>decide (x.1=[b,115])) (q:=iE b 108 gen) (r:=iE b 112 gen) λx c=>by
  rcases h.kinds e c with h|h|h|h
  .exact .inl GU
  .exact .inr (.inl h)
  .exact .inr (.inr h)
  .rw[d]at h;cases h
 have h2:=Wm h.srt [b,115];omega
end
end
section
variable {b:Γ} {gen:Nat} {L:δ aT}
def axU (b:Γ)(gen:Nat)(x:aT):Prop:=US b x\/OC b gen x\/UT b gen x
def QH (b:Γ)(gen:Nat)(c:nH):Prop:=c.ok/\(c.gone=θ\/axU b gen (vj c.nm,c.val))
def rB.do (h:rB b gen L){c:nH}(a:QH b gen c):rB b gen (GD L c):=by
 unfold GD
 split
 .rw[Ug h.srt];exact h.filter _
 .rename_i hg;exact h.put (a.2.resolve_left hg)
def rB.all (h:rB b gen L){a:δ nH}(e:∀c∈a,QH b gen c):rB b gen (gC L a):=by
 induction a generalizing L with
 |nil=>exact h
 |cons c r f=>exact f (h.do (e c V)) λd g=>e d (by simp[g])
def rB.small (h:rB b gen L):Small L:=λx a=>by obtain⟨_,_,c⟩:=h.first a;omega
def rB.nil:rB b gen []:=⟨List.Pairwise.nil,V⟩
def mj (L:δ aT)(a:δ nH):(gC L a).length<=L.length+a.length:=by
 induction a generalizing L with
 |nil=>exact hI _
 |cons c r d=>
  have h1:=d (GD L c);have h2:=Ud L c;show(gC (GD L c) r).length<=_;rw[lx];omega
def rB.room (h:rB b gen L)(a:L.length<=500):2*L.length+eW L+700<=6000-1-6000/4:=by have:=h.aO;omega
end
section
variable {Z Z' s:O} {n:Nat}
def TS (n m:Nat):(n:Int).fdiv (m:Int)=((n/m:Nat):Int):=by rw[aNu _ J];rfl
def ahh (n:Nat)(s:O):R .shr ν θ (I n) (.int .u64 24) s=.ok (ζ (n/16777216)) s:=by
 have e:R .shr ν θ (I n) (.int .u64 24) s=.ok (I ((n:Int).fdiv ((16777216:Nat):Int))) s:=rfl;rw[e,TS]
def ahi (n:Nat)(s:O):R .shr ν θ (I n) (.int .u64 16) s=.ok (ζ (n/65536)) s:=by
 have e:R .shr ν θ (I n) (.int .u64 16) s=.ok (I ((n:Int).fdiv ((65536:Nat):Int))) s:=rfl;rw[e,TS]
def art (n:Nat)(s:O):R .shr ν θ (I n) (.int .u64 8) s=.ok (ζ (n/256)) s:=by
 have e:R .shr ν θ (I n) (.int .u64 8) s=.ok (I ((n:Int).fdiv ((256:Nat):Int))) s:=rfl;rw[e,TS]
def Bp (n:Nat):Rq0 81 [I n] Z λy s=>y=.str (b4 n)/\Kp [] Z s:=by
 refine bE ?_
 have h:∀(m:Nat) s,cX (.toInt .u8) (I m) s=.ok (bG (UInt8.ofNat m)) s:=λm s=>by
  rw[Ks m .i64 s];congr 2;apply aNZ.1;simp
 rw[w81,ahh,af,h,af,ahi,af,h,af,art,af,h,af,h,af];have c:bB 5 4 (cr 4 [ϕ]) [(0,1,bG (UInt8.ofNat (n/16777216))),(1,1,bG (UInt8.ofNat (n/65536))),(2,1,bG (UInt8.ofNat (n/256))),(3,1,bG (UInt8.ofNat n))] Z=.ok (.slice Z.nx 0 4 4 0) (O.new Z (Ϡ (al (b4 n)))):=rfl;rw[c,aP];generalize hs:O.new Z (Ϡ (al (b4 n)))=s1;obtain⟨b,d,e⟩:=dB hs;have a:Sl s1 [] (.slice Z.nx 0 4 4 0) 1 (al (b4 n)):=.inr ⟨Z.nx,0,4,4,0,rfl,rfl,⟨hI _,.inl rfl⟩,.inr ⟨V,J,_,_,_,d,by simp[b4],rfl⟩⟩;rw[a.str,af];exact⟨rfl,b⟩
def GO (a b:δ Γ)(c:Bool)(h:a.length+b.length<=1000000)(s:O):R .add ν c (.str a) (.str b) s=.ok (.str (a++b)) s:=by
 rw[fG];unfold sO;rw[gq J]
def sG (i:dV Z)(k:Γ)(g:Nat):Rq0 49 [bG k,I g] Z λy s=>y=.str (ia k g)/\Kp [] Z s:=by
 refine bE ?_;rw[w49,aZ];have f:=(Δ [] Z).skip;have o:(O.skip Z).m.g Z.nx=ν:=i _ (hI _);have v:(O.skip Z).nx=Z.nx+1:=rfl;have r:dV (O.skip Z):=f.fresh i;generalize O.skip Z=e at*;rw[fY o (pH (k:=1) rfl rfl rfl),aP];have u:(bG k).bY=[bG k]:=rfl;rw[u];generalize a:O.set e Z.nx (Ϡ [bG k])=s1;have c:s1.m.g Z.nx=Φ (Ϡ [bG k]):=by rw[<-a];exact ao _ _ _
 have w:s1.nx=e.nx:=by rw[<-a];rfl
 have l:Kp [] Z s1:=by rw[<-a];exact f.set _ (.inr (hI _)) J
 have d:∀s,s.m.g Z.nx=Φ (Ϡ [bG k])->Z.nx<s.nx->Sl s [] (.slice Z.nx 0 1 1 0) 1 (al [k]):=λs q p=>.inr ⟨Z.nx,0,1,1,0,rfl,rfl,⟨hI _,.inl rfl⟩,.inr ⟨V,p,_,_,_,q,V,rfl⟩⟩;rw[(d s1 c J).str,af];refine(Bp g).mono ?_;rintro _ s2 ⟨rfl,b⟩;have j:=(b.keep Z.nx J V).trans c;have n2:=b.nx;rw[GO [k] (b4 g) φ (by simp[b4]) s2,af,(d s2 j J).str];refine⟨⟨⟨by rw[af],by rw[af],gt⟩,gt⟩,⟨⟨j.trans c.symm,gt⟩,gt⟩,rfl,l.trans b⟩
def LF (c:nH):bC ϐ3 0 (jj c)=jj c:=db _ _ rfl
structure mV where
 jw:Nat
 part:Nat
 phase:Nat
 own:Nat
 to:Nat
 gen:Nat
structure mV.ok (S:mV):Prop where
 jw:S.jw<=kj
 part:S.part<=kj
 phase:S.phase<=5
 own:S.own<=5
 to:S.to<=5
 gen:S.gen<=1000000
def fM (S:mV):δ K:=[I S.jw,I S.part,.int .u8 (S.phase:Nat),I S.jw,I S.own,I S.to]
def tI (a id n:Nat)(S:mV):δ K:=[.ptr a 0,I id,ζ (8+n),I S.jw,I S.part,.int .u8 (S.phase:Nat),I S.jw,I S.own,I S.to,I S.gen]
structure xr (Z:O)(h κ id n:Nat)(S:mV):Prop where
 lt:h<Z.nx
 get:Z.m.g h=some (.cells (tI κ id n S) 102 false)
def xr.still {h b id:Nat}{S:mV}(a:xr Z h b id n S)(c:Kp [] Z s):xr s h b id n S:=⟨ov a.lt c.nx,(c.keep h a.lt V).trans a.get⟩
def OT (id:Nat)(S:mV):δ Nat:=[id,S.jw,S.part,S.phase,S.own,S.to,S.gen]
def U1 (id:Nat)(S:mV):δ Γ:=(OT id S).flatMap uv
def Cd (l:δ Nat)(h:∀x∈l,x<=kj):(l.flatMap uv).length<=5*l.length:=by
 induction l with
 |nil=>simp
 |cons a r b=>
  have h1:=(gf a (h a V)).2;have h2:=b λx hx=>h x Hs;rw[List.flatMap_cons,km,lx];omega
def Rk {id:Nat}{S:mV}(hi:id<=5)(h:S.ok):∀x∈OT id S,x<=kj:=by
 obtain⟨c,b,g,f,e,d⟩:=h;intro x a;unfold OT at a;simp only[ip,wn,PP]at a;show x<=2147483647;have j:S.jw<=2147483647:=c;have i:S.part<=2147483647:=b;omega
def jn (id n:Nat)(S:mV):nH:=⟨((8+n:Nat):Int),[115],U1 id S,φ⟩
def M0 {h j id:Nat}{S a:mV}{g:Nat}(hf:dV Z)(W:xr Z h j id n S)(hi:id<=5)(Y:a.ok)(hg:a.gen=g):Rq0 37 [.ptr h 0,.agg (fM a),I g] Z λy s=>y=.agg (jj (jn id n a))/\Kp [] Z s:=by
 subst hg;refine bE ?_;rw[w37,bz];refine⟨rfl,?_⟩;rw[aN];generalize lU:O.new Z (ϱ (fM a))=s1;obtain⟨k1,g1,n1⟩:=dB lU;rw[bW,aP];generalize rA:O.new s1 (Ϟ ϐ3)=s2;obtain⟨T,g2,n2⟩:=dB rA;have G:=k1.trans T;have lV:=(T.keep Z.nx J V).trans g1;have ZX:=W.still G;rw[bU,aZ];have kS:=(Δ [] s2).skip;have hn:(O.skip s2).m.g s2.nx=ν:=(G.fresh hf) _ (hI _);have nS:(O.skip s2).nx=s2.nx+1:=rfl;have e:(O.skip s2).m.g Z.nx=Φ (ϱ (fM a)):=lV;have w:(O.skip s2).m.g s1.nx=_:=g2;have d:(O.skip s2).m.g h=Φ (Ø (tI j id n S)):=ZX.get;generalize O.skip s2=s3 at*;have f1:(tI j id n S)[1]?=Φ (I id):=rfl;have Q:(fM a)[0]?=Φ (I a.jw):=rfl;have P:(fM a)[1]?=Φ (I a.part):=rfl;have N:(fM a)[2]?=Φ (.int .u8 (a.phase:Nat)):=rfl;have M:(fM a)[4]?=Φ (I a.own):=rfl;have L:(fM a)[5]?=Φ (I a.to):=rfl;have hp:=Y.phase;have ec:cX (.toInt .i64) (.int .u8 (a.phase:Nat)) s3=.ok (I a.phase) s3:=AW _ J _ _;have D:gY [(0,1,I id),(1,1,I a.jw),(2,1,I a.part),(3,1,I a.phase),(4,1,I a.own),(5,1,I a.to),(6,1,I a.gen)] (cr 7 [μ])=Φ ((OT id a).map λx:Nat=>I x):=rfl;simp only[rr,d,e,f1,Q,P,N,M,L,ec];rw[fY hn D,aP];generalize k:O.set s3 s2.nx (Ϝ ((OT id a).map λx:Nat=>I x))=s4;have g4:s4.m.g s2.nx=Φ (Ϝ ((OT id a).map λx:Nat=>I x)):=by rw[<-k];exact ao _ _ _
 have l:∀q,q≠s2.nx->s4.m.g q=s3.m.g q:=λq o=>by rw[<-k];exact ar _ _ _ _ o
 have n4:s4.nx=s3.nx:=by rw[<-k];rfl
 have aa:=W.lt;have f:=(l h J).trans d;have C:=(l Z.nx J).trans e;have z:=(l s1.nx J).trans w;have K4:Kp [] Z s4:=by rw[<-k];exact(G.trans kS).set _ (.inr J) J
 rw[jM,af];simp only[f,C,lW,f1,Q,P,N,M,L];refine⟨V,V,?_⟩;simp only[ke];have p:(OT id a).length=7:=rfl;have fJ:=Rk hi Y;refine bD (λfu H s=>∃i b,fu+i=7/\H=[.ptr h 0,.ptr s1.nx 0,b,.slice s2.nx 0 7 7 0,ζ 7,I i]/\Kp [] s4 s/\Sl s [] b 1 (al (((OT id a).take i).flatMap uv))) ?_ (n:=7) ⟨0,.ae,rfl,rfl,Δ _ _,.inl ⟨rfl,rfl⟩⟩;rintro fu H s ac ⟨i,b,ab,rfl,c,u⟩ next;have v:=(c.keep s2.nx J V).trans g4;simp only[ke];rw[dd,af,ag]
 by_cases r:i<7
 .rw[jp r,gq rfl];have sl:Sl s [] (.slice s2.nx 0 7 7 0) 1 ((OT id a).map λx:Nat=>I x):=.inr ⟨s2.nx,0,7,7,0,rfl,rfl,⟨hI _,.inl rfl⟩,.inr ⟨V,by have:=c.nx;omega,_,_,_,v,by simp[OT],rfl⟩⟩;refine sl.idx (i:=i) (by simp[p,r]) _ ?_;rw[S7];have hx:=fJ _ (mp (show i<(OT id a).length from J));have vu:=Cd ((OT id a).take i) λx hx=>fJ x (ww hx);rw[pu]at vu;refine(qp u J hx).mono ?_;rintro b' s5 ⟨F,k5,o5,f5⟩;rw[fV i J,af];refine next (fu-1) _ _ J ⟨i+1,b',J,rfl,c.trans k5,?_⟩;have:=o5.sl (X:=[]) λq o=>⟨V,(f5 q o).2⟩;rw[su J,List.flatMap_append]
  simpa using this
 .rw[jo r,B tW,aZ];have e7:i=7:=by omega
  subst e7;rw[lw J]at u;have gh:=(c.keep h J V).trans f;have gb:=(c.keep s1.nx J V).trans z;have f2:(tI j id n S)[2]?=Φ (ζ (8+n)):=rfl;simp only[rr,gh,f2,u.str];have ql:aR ϐ3 [(0,1,ζ (8+n)),(1,1,.str [115]),(2,1,.str ((OT id a).flatMap uv))] s=.ok (.agg (jj (jn id n a))) s:=rfl;rw[ql,af];have uB:=c.nx;rw[aK,gb,aU,aN,LF];refine⟨⟨rfl,rfl,V⟩,⟨gt,gt,gt⟩,gt,?_⟩;rw[aG (n:=4) (ao ..) rfl,af];exact⟨rfl,(K4.trans c).set _ (.inr J) J⟩
end
section
variable {k v:δ Γ}{c i:Nat}{f:Bool}
section
variable {Z Z' s:O} {h κ id n:Nat} {S:mV}
def oZ (n g c i:Nat)(f:Bool)(v:δ Γ):nH:=⟨((8+n:Nat):Int),lK g c,lG i f v,φ⟩
def vU (n g:Nat)(key v:δ Γ):nH:=⟨((8+n:Nat):Int),pK g key,v,φ⟩
def rX (n g:Nat)(key:δ Γ):nH:=⟨((8+n:Nat):Int),pK g key,[],θ⟩
def te (x:Int):Bool:=decide (0<=x/\x<=2147483647)
def yG (x:Int):Rq0 39 [I x] Z λy s=>y=.bool (te x)/\s=Z:=by
 refine bE ?_;rw[w39,au,rM,af];unfold te
 by_cases h:0<=x
 .rw[jp h];simp only[ix,aW,af,au,jt,AC];exact⟨QO,gt⟩
 .rw[jo h];simp only[NE,ii,bA];exact⟨QO,gt⟩
def Lu (e:dV Z)(d:xr Z h κ id n S)(j:k.length<=1000):Rq0 45 [.ptr h 0,.str k] Z λy s=>y=.str (pK S.gen k)/\Kp [] Z s:=by
 refine bE ?_;rw[w45];unfold fP;have g:(tI κ id n S)[9]?=Φ (I S.gen):=rfl;rw[bk,af,ah,af,av,d.get,ak,g,an];refine(sG e 112 S.gen).mono ?_;rintro _ a ⟨rfl,b⟩;rw[GO _ _ φ (by simp[ia,b4];omega) a,af];exact⟨rfl,b⟩
def Yz (w:dV Z)(r:xr Z h κ id n S)(u:k.length<=1000):Rq0 44 [.ptr h 0,.agg [.str k,.str v]] Z λy s=>y=.agg (jj (vU n S.gen k v))/\Kp [] Z s:=by
 refine bE ?_;rw[w44,bz];refine⟨rfl,?_⟩;rw[aN];generalize p:O.new Z (Ì [.str k,.str v])=s1;obtain⟨q,C,H⟩:=dB p;rw[bW,aP];generalize m:O.new s1 (Ϟ ϐ3)=s2;obtain⟨g,z,G⟩:=dB m;have d:=q.trans g;have e:=(g.keep Z.nx J V).trans C;have b:=r.still d;have j:(tI κ id n S)[2]?=Φ (ζ (8+n)):=rfl;simp only[aZ,rr,b.get,e,j,io,kc];refine(Lu (d.fresh w) b u).mono ?_;rintro _ s3 ⟨rfl,a⟩;have D:=d.trans a;have F:=a.nx;have o:=(a.keep Z.nx J V).trans e;have l:=(a.keep s1.nx J V).trans z;have x:aR ϐ3 [(0,1,ζ (8+n)),(1,1,.str (pK S.gen k)),(2,1,.str v)] s3=.ok (.agg (jj ⟨((8+n:Nat):Int),pK S.gen k,v,φ⟩)) s3:=rfl;simp only[o,(b.still a).get,j,io,kc,x,rb,sE,and_true];rw[aK,l,aU,aN,LF];refine⟨⟨rfl,rfl,V⟩,?_⟩;rw[aG (n:=4) (ao ..) rfl,af];exact⟨rfl,D.set _ (.inr J) J⟩
def ik (c i:Nat)(f:Bool)(v:δ Γ):δ K:=[I c,I i,.int .u8 1,.bool f,.str v]
def abQ (W:dV Z)(hi:i<=kj)(T:v.length<=2000):Rq0 90 [.agg (ik c i f v)] Z λy s=>y=.str (lG i f v)/\Kp [] Z s:=by
 refine bE ?_;rw[w90,bz];refine⟨rfl,?_⟩;rw[aN];generalize r:O.new Z (Ϸ (ik c i f v))=s1;obtain⟨C,j,Q⟩:=dB r;have l1:(ik c i f v)[1]?=Φ (I i):=rfl;have w:(ik c i f v)[3]?=Φ (.bool f):=rfl;have u:(ik c i f v)[4]?=Φ (.str v):=rfl;simp only[aZ,ly,j,Nat.reduceAdd,l1];refine(qp (X:=[]) (b:=[]) (.inl ⟨rfl,rfl⟩) V hi).mono ?_;rintro x s2 ⟨F2,d,p,H⟩;have g:=(d.keep Z.nx J V).trans j;have n2:=d.nx;simp only[g,lW,w];have u1:=(gf i hi).2;refine(Jn (f:=f) (p.sl (X:=[]) λq a=>⟨V,(H q a).2⟩) xI).mono ?_;rintro M P ⟨F3,e,o,G⟩;have D:=(e.keep Z.nx J V).trans g;simp only[D,lW,u];have u2:=(gf (if f=θ then 1 else 0) Ys).2;refine(AB (s:=v) (o.sl (X:=[]) λq a=>⟨V,(G q a).2⟩) xI J).mono ?_;rintro L N ⟨Y,z,m,F⟩;have l:=m.sl (X:=[]) λq a=>⟨V,(F q a).2⟩;rw[l.str,af];refine⟨V,gt,?_,((C.trans d).trans e).trans z⟩;unfold lG;simp
def Sf (r:dV Z)(L:xr Z h κ id n S)(hi:i<=kj)(H:v.length<=2000):Rq0 43 [.ptr h 0,.agg (ik c i f v)] Z λy s=>y=.agg (jj (oZ n S.gen c i f v))/\Kp [] Z s:=by
 refine bE ?_;rw[w43,bz];refine⟨rfl,?_⟩;rw[aN];generalize F:O.new Z (Ϸ (ik c i f v))=s1;obtain⟨G,P,n1⟩:=dB F;rw[bW,aP];generalize D:O.new s1 (Ϟ ϐ3)=s2;obtain⟨q,N,n2⟩:=dB D;have m:=G.trans q;have g:=(q.keep Z.nx J V).trans P;have w:=L.still m;have u:(tI κ id n S)[2]?=Φ (ζ (8+n)):=rfl;have Q:(tI κ id n S)[9]?=Φ (I S.gen):=rfl;have p:(ik c i f v)[0]?=Φ (I c):=rfl;simp only[aZ,rr,w.get,u,Q];refine(sG (m.fresh r) 108 S.gen).mono ?_;rintro _ s3 ⟨rfl,b⟩;have n3:=b.nx;have e:=(b.keep Z.nx J V).trans g;have z:=(b.keep s1.nx J V).trans N;have X:=m.trans b;have l:=w.still b;simp only[e,lW,p];refine(Bp c).mono ?_;rintro _ C ⟨rfl,a⟩;have n4:=a.nx;have Y:=(a.keep Z.nx J V).trans e;have T:=(a.keep s1.nx J V).trans z;have x:=X.trans a;rw[GO _ _ φ ñ C,af,aG (n:=5) Y rfl,af];refine(abQ (x.fresh r) hi H).mono ?_;rintro _ o ⟨rfl,d⟩;have n5:=d.nx;have j:=(d.keep s1.nx J V).trans T;have W:=x.trans d;have M:aR ϐ3 [(0,1,ζ (8+n)),(1,1,.str (ia 108 S.gen++b4 c)),(2,1,.str (lG i f v))] o=.ok (.agg (jj ⟨((8+n:Nat):Int),lK S.gen c,lG i f v,φ⟩)) o:=rfl;rw[M,af,aK,j,aU,aN,LF,aG (n:=5) g rfl,aG (n:=5) e rfl];simp only[l.get,(l.still a).get,((l.still a).still d).get,g,u,p,rb,sE,and_true];refine⟨⟨rfl,rfl,V⟩,?_⟩;rw[aG (n:=4) (ao ..) rfl,af];exact⟨rfl,W.set _ (.inr J) J⟩
end
end
section
variable {d:δ Γ}{o t:Nat}{g:Bool}{L:δ K}{x:K}{Kq0:O->Prop}
section
variable {Z Z' s:O} {h κ id n:Nat} {S:mV}
def aru (a:Nat)(b:a<1000000000000)(s:O):R .shl ν θ (I a) (.int .u64 8) s=.ok (ζ (a*256)) s:=by
 have e:R .shl ν θ (I a) (.int .u64 8) s=.ok (I (IntKind.i64.wrap ((a:Int)*256))) s:=rfl;rw[e,bt J];rfl
def orI (m b:Nat)(c:m<1000000000000)(f:b<256)(s:O):R .or ν φ (ζ (m*256)) (I b) s=.ok (ζ (m*256+b)) s:=by
 have e:R .or ν φ (ζ (m*256)) (I b) s=.ok (I (IntKind.i64.wrap ((BitVec.ofInt 64 ((m*256:Nat):Int)|||BitVec.ofInt 64 (b:Int)).toNat:Int))) s:=rfl
 have a:m*256|||b=m*256+b:=by
  have:=Nat.two_pow_add_eq_or_of_lt (i:=8) (show b<2^8 from J) m;rw[LH];exact this.symm
 rw[e,aNn,aNn,BitVec.toNat_or,aNz,aNz,QF J,QF J,a,bt J]
def DQ {k:Nat}(a:k<=d.length)(s:O):gj (.str d) (Φ (I k)) ν s=.ok (.str (d.drop k)) s:=by
 unfold gj;dsimp only;rw[vI,gq a];dsimp only;rw[lw Yr]
def JE (d:δ Γ)(s:O):cX (.bytesOf 5) (.str d) s=.ok (.slice s.nx 0 d.length d.length 1) (O.new s (.cells (al d) 5 θ)):=rfl
def M3 {s a:O}(X:δ Nat)(c:s.nx∉X)(b:O.new s (.cells (al d) 5 θ)=a):Kp [] s a/\a.nx=s.nx+1/\Sl a X (.slice s.nx 0 d.length d.length 1) 1 (al d):=by
 obtain⟨k,g,nx⟩:=dB b;exact⟨k,nx,.inr ⟨s.nx,0,d.length,d.length,1,rfl,V,⟨hI _,.inr rfl⟩,.inr ⟨c,J,_,_,_,g,V,by rw[tu,lw V]⟩⟩⟩
def Mw {b:Nat}(e:s.m.g b=Φ (.cells L t g))(f:b<s.nx)(j:o+1<=L.length)(a:cI x=θ)(c:x.bY=[x])(i:∀s2,s2.m.g b=Φ (.cells (bC L o [x]) t g)->Kp [b] s s2->Kq0 s2):Lim.fst 1 o (.ptr b 0) x s Kq0:=by
 unfold Lim.fst;rw[ah,af,aK,e,aU,c];refine⟨⟨rfl,by simp[bh,a],J⟩,?_⟩;rw[oa];exact i _ (ao ..) ((Δ [b] s).set _ (.inl V) f)
def aad {b d:Nat}(e:s.m.g b=Φ (.cells L t g))(f:b<s.nx)(j:d+o+1<=L.length)(a:cI x=θ)(c:x.bY=[x])(i:∀s2,s2.m.g b=Φ (.cells (bC L (d+o) [x]) t g)->Kp [b] s s2->Kq0 s2):Lim.fst 1 o (.ptr b (0+d)) x s Kq0:=by
 unfold Lim.fst;rw[ah,af,aK,e,aU,c];refine⟨⟨rfl,by simp[bh,a],xI⟩,?_⟩;rw[oa];exact i _ (ao ..) ((Δ [b] s).set _ (.inl V) f)
def R9 (c i:Nat)(f:Bool)(v:δ Γ):bC ϐ8 0 (ik c i f v)=ik c i f v:=db _ _ rfl
def abT (g c:Nat):(lK g c).length=9:=rfl
def II (hf:dV Z){g c i:Nat}{f:Bool}{v:δ Γ}(hc:c<=kj)(hi:i<=kj)(hv:v.length<=2000):Rq0 48 [.str (lK g c),.str (lG i f v)] Z λy s=>y=.tuple [.agg (ik c i f v),ι]/\Kp [] Z s:=by
 have hc:c<=2147483647:=hc;refine bE ?_;rw[w48,bW,aP];generalize lU:O.new Z (Ϸ ϐ8)=s1;obtain⟨k1,g1,n1⟩:=dB lU;have e1:R .neq ψ θ (I (lK g c).length) (I 9) s1=.ok Θ s1:=rfl;have CP:aR ϐ4 [(0,1,.int .u8 1)] s1=.ok (.agg [.int .u8 1,Θ,ϑ]) s1:=rfl;have AJ:aR ϐ8 [(2,3,.agg [.int .u8 1,Θ,ϑ])] s1=.ok (.agg [ζ 0,μ,.int .u8 1,Θ,ϑ]) s1:=rfl;rw[eN,af,e1,af,ag,B tW,CP,af,AJ,af];refine gW rfl rfl rfl ?_;generalize PH:O.new s1 (Ϸ [ζ 0,μ,.int .u8 1,Θ,ϑ])=s4;obtain⟨P,g4,n4⟩:=dB PH;have K4:=k1.trans P;have Ax:=(P.keep Z.nx J V).trans g1;rw[bU,show(Φ (K.int .i64 5))=Φ (ζ 5)from rfl,DQ (by rw[abT];omega),af,show(lK g c).drop 5=b4 c from rfl,JE,aP];generalize Xh:O.new s4 (.cells (al (b4 c)) 5 θ)=s5;obtain⟨C,n5,l⟩:=M3 [s1.nx] xI Xh;have K5:=K4.trans C;have XN:=(C.keep Z.nx J V).trans Ax;have X:=(C.keep s1.nx J V).trans g4;rw[show(b4 c).length=4 from rfl]at l⊢;rw[jM,af];simp only[ke];have Xp:Z.nx≠s1.nx:=J
 refine bD (λfu vs s=>∃j m,fu+j=4/\(j=0/\m=0\/j=1/\m=c/16777216\/j=2/\m=c/65536\/j=3/\m=c/256\/j=4/\m=c)/\vs=[.str (lG i f v),.ptr Z.nx 0,.ptr s1.nx 0,.slice s4.nx 0 4 4 1,ζ 4,I j]/\Kp [s1.nx] s5 s/\s.m.g s1.nx=Φ (Ϸ [I m,μ,.int .u8 1,Θ,ϑ])) ?_ (n:=4) ⟨0,0,rfl,.inl ⟨rfl,rfl⟩,rfl,Δ _ _,X⟩;rintro fu vs s Kq0 ⟨j,m,hj,hm,rfl,p,T⟩ next;simp only[ke];rw[dd,af,ag];have ns:=p.nx
 by_cases a:j<4
 .rw[jp a,gq rfl];have sl:=l.mono p;refine sl.idx (i:=j) (by simpa[b4]using a) _ ?_
  obtain⟨b,hb,AJ,ar⟩:∃b,b<256/\(al (b4 c))[j]'(by simpa[b4]using a)=bG (UInt8.ofNat b)/\(j=0/\m*256+b=c/16777216\/j=1/\m*256+b=c/65536\/j=2/\m*256+b=c/256\/j=3/\m*256+b=c):=by
   have D:∀x:Nat,bG (UInt8.ofNat x)=bG (UInt8.ofNat (x%256)):=λx=>by congr 1;apply aNZ.1;simp
   rcases hm with⟨rfl,rfl⟩|⟨rfl,rfl⟩|⟨rfl,rfl⟩|⟨rfl,rfl⟩|⟨rfl,rfl⟩
   .exact⟨c/16777216%256,J,D _,.inl ⟨rfl,J⟩⟩
   .exact⟨c/65536%256,J,D _,.inr (.inl ⟨rfl,J⟩)⟩
   .exact⟨c/256%256,J,D _,.inr (.inr (.inl ⟨rfl,J⟩))⟩
   .exact⟨c%256,J,D _,.inr (.inr (.inr ⟨rfl,J⟩))⟩
   .omega
  rw[AJ,jG _ hb];have ap:m<1000000000:=J
  unfold fl;rw[ah,af,av,T,ak];simp only[rc,io,an,aru m J,af,AW b J,orI m b J hb];refine Mw T J V rfl rfl λs7 g7 z=>?_;rw[fV j J,af];refine next (fu-1) _ _ J ⟨j+1,m*256+b,J,J,rfl,p.trans z lk,g7⟩
 .rw[jo a,B tW];obtain⟨rfl,rfl⟩:j=4/\m=c:=by omega
  have u1:=(gf i hi).2;have u2:=(gf (if f=θ then 1 else 0) Ys).2;have u3:=(gf v.length J).2;have aq:(lG i f v).length<=2015:=by unfold lG;simp only[km];omega
  have Tf:Kp [] s1 s:=by
   refine((P.trans C).trans p λq hq=>.inr ?_);simp at hq;omega
  have Y:=(p.keep Z.nx J xI).trans XN;rw[JE,aP];generalize Q:O.new s (.cells (al (lG i f v)) 5 θ)=s6;obtain⟨k6,n6,G⟩:=M3 [] V Q;refine(yn G J).mono ?_;rintro _ s7 ⟨r,F,rfl,z,N,u⟩;have K7:=k6.trans z;have yW:=(K7.keep Z.nx J V).trans Y;have W:=(K7.keep s1.nx J V).trans T;have e:∀q,q<s6.nx->q∉F:=λq hq hh=>by have:=u q hh;omega
  have ad:qw s7 r F (uv i++(uv (if f=θ then 1 else 0)++(uv v.length++(v++[])))):=by simpa[lG]using N
  refine(l6 (m:=2147483647) ad hi J).mono ?_;rintro _ s8 ⟨rfl,k8,n8,M⟩;refine(HR M).mono ?_;rintro _ s9 ⟨rfl,k9,n9,H⟩;refine(Fu (m:=2000) H hv J).mono ?_;rintro _ aj ⟨rfl,qP,Po,ae⟩;have k:=(k8.trans k9 lk).trans qP lk;have n7:=z.nx;have TI:=(k.keep Z.nx J (e _ J)).trans yW;have ac:=(k.keep s1.nx J (e _ J)).trans W;refine Mw ac J V rfl rfl λeo PZ pG=>?_;have LI:=pG.nx;rw[ah,af];refine aad (d:=2) PZ J afO rfl rfl λcH lV oR=>?_;have Nl:=oR.nx;rw[ah,af];refine aad (d:=2) lV J afO rfl rfl λdw mW rl=>?_;have am:=rl.nx;have aa:bC (bC (bC [I m,μ,.int .u8 1,Θ,ϑ] 1 [I i]) 3 [.bool f]) 4 [.str v]=ik m i f v:=rfl;have w:dw.m.g s1.nx=Φ (Ϸ (ik m i f v)):=by rw[<-aa];exact mW
  have SC:=(pG.trans oR lk).trans rl lk;have ab:=(SC.keep Z.nx J xI).trans TI;have ai:=ae.keep SC λq hq hh=>e s1.nx J (by simp at hh;rw[<-hh];exact hq);rw[aZ,aG (n:=5) w rfl,af];refine(XU ai).same ?_;rw[aK,ab,aU,aN,R9];refine⟨⟨rfl,rfl,V⟩,⟨⟨⟨by rw[aG (n:=5) w rfl,af],gt⟩,gt⟩,gt,?_⟩⟩;rw[aG (n:=5) (ao ..) rfl,af];refine⟨V,?_⟩;have K1:=k1.trans Tf;have K2:=(K1.trans K7).trans k λq hq=>.inr (by have:=u q hq;omega);exact(K2.trans SC λq hq=>.inr abf).set _ (.inr (hI _)) J
end
end
def Ji {L:δ aT}{k:bS}{w:δ Γ}(h:ey L k=Φ w):(k,w)∈L:=by
 unfold ey at h;cases hf:L.find? (λx=>decide (x.1=k))with
 |none=>rw[hf]at h;cases h
 |some x=>
  rw[hf]at h;have b:x.1=k:=by simpa using List.find?_some hf
  have a:x.2=w:=GU
  have:=List.mem_of_find?_eq_some hf;rw[<-b,<-a];exact this
def rB.last {b:Γ}{gen g c:Nat}{L:δ aT}{w:δ Γ}(h:rB b gen L)(a:ey L (b::lK g c)=Φ w):∃i f v,w=lG i f v/\i<=kj/\v.length<=2000:=by
 rcases h.items _ (Ji a)with h|⟨l,m,i,f,v,_,_,j,d,e⟩|⟨l,k,_,_,_,e,_⟩
 .have:=h.1;simp[lK,ia,b4]at this
 .exact⟨i,f,v,congrArg Prod.snd e,j,d⟩
 .simp[lK,pK,ia,b4]at e
structure wD (Z:O)(h κ τ:Nat)(π:PI)(id n:Nat)(S:mV)(L:List aT)(T:Nat):Prop where
 kv:∃fr,wG κ τ π Z L T 6000 fr
 set:π.D.set=false
 at_:xr Z h κ id n S
 ok:S.ok
 idb:1<=id/\id<=5
 nb:n<=3
 l:rB (UInt8.ofNat (8+n)) S.gen L
 not:h∉κ::own τ π
 fr:dV Z
section
variable {Z Z' s:O} {h κ τ id n T:Nat} {π:PI} {S:mV} {L:δ aT}
def wD.at' (H:wD Z h κ τ π id n S L T):∃fr,tN κ τ π Z L L T 6000 fr:=by obtain⟨fr,k⟩:=H.kv;exact⟨fr,k.at'⟩
def wG.still {N fr:Nat}(a:wG κ τ π Z L T N fr)(b:Kp [] Z s):wG κ τ π s L T N fr:=⟨a.1.still b,(b.keep κ a.2.2.1 V).trans a.2.1,ov a.2.2.1 b.nx,a.2.2.2⟩
def wD.still (H:wD Z h κ τ π id n S L T)(b:Kp [] Z s):wD s h κ τ π id n S L T:=by
 obtain⟨fr,a⟩:=H.kv;exact⟨⟨fr,a.still b⟩,H.set,H.at_.still b,H.ok,H.idb,H.nb,H.l,H.not,b.fresh H.fr⟩
def ri (n:Nat)(k:bS):vj (((8+n:Nat):Int),k)=UInt8.ofNat (8+n)::k:=by unfold vj;rfl
end
section
variable {x:K}{c:Nat}{o:υ (Nat×Bool×δ Γ)}
section
variable {Z Z' s:O} {h κ τ id n T:Nat} {π:PI} {S:mV} {L:δ aT}
def One (Z:O)(x:K)(c:Nat)(o:υ (Nat×Bool×δ Γ)):Prop:=match o with
 |none=>x=.ae
 |some (i,f,v)=>Sl Z [] x 5 ([ik c i f v]:δ (δ K)).flatten
def Xc {q:Nat}(hx:One Z x c o)(k:Z.m.g q=Φ (Ϝ [I c]))(a:q<Z.nx):Rq0 82 [x,.func (.func 83) [] [.ptr q 0]] Z λy s=>y=(if o.isSome then I 0 else I (-1))/\Kp [] Z s:=by
 refine bE ?_;rw[w82,bU];cases o with
 |none=>
  have hx:=hx;subst hx;rw[oh,af];simp only[ke];refine Ee ?_;simp only[ke];have b:R .lss ν φ μ μ Z=.ok Θ Z:=rfl;rw[b,af,ag,B tW];exact⟨rfl,Δ _ _⟩
 |some p=>
  obtain⟨i,f,v⟩:=p;have hx:=hx;rw[hx.len 1 rfl J Z,af];simp only[ke];refine Ee ?_;simp only[ke];have b:R .lss ν φ μ (ζ 1) Z=.ok ι Z:=rfl;rw[b,af,ag,gq rfl];refine hx.fj (i:=0) J (by simp[ik]) V _ ?_;rw[List.getElem_cons_zero,dv];simp only[ow,ut];refine bE ?_;rw[w83,bz];refine⟨rfl,?_⟩;rw[aN];generalize e:O.new Z (Ϸ (ik c i f v))=s1;obtain⟨d,r,w⟩:=dB e;have l:=(d.keep q a V).trans k;have j:(ik c i f v)[0]?=Φ (I c):=rfl;have u:R .eql ψ φ (I c) (I c) s1=.ok ι s1:=by rw[au,cn,jp rfl]
  unfold fl;rw[ah,af,av,r,ak,j,an,av,l,ak,io,an,u,af,ag,gq rfl];exact⟨rfl,d⟩
def sN (k:Nat)(f:Bool)(v:δ Γ):δ K:=[.int .u8 (k:Nat),.bool f,.str v]
def nY (o:υ (Nat×Bool×δ Γ))(a:Int):δ K×Nat:=match o with
 |none=>(sN 0 φ [],5)
 |some (i,f,v)=>if (i:Int)<a then (sN 0 φ [],5)else if a<(i:Int)then (sN 0 φ [],6)else (sN 1 f v,0)
def aba (M:One Z x c o)(d:Int):Rq0 41 [x,I c,I d] Z λy s=>y=.tuple [.agg (nY o d).1,I (nY o d).2]/\Kp [] Z s:=by
 refine bE ?_;rw[w41,bz];refine⟨rfl,?_⟩;have eC:(I (c:Int)).bY=[I c]:=rfl;rw[eC];generalize lU:O.new Z (Ϝ [I c])=s1;obtain⟨k1,g1,n1⟩:=dB lU;rw[bW,aP];generalize W:O.new s1 (ϻ ϐ4)=s2;obtain⟨H,g2,n2⟩:=dB W;have P:=k1.trans H;have Y:=(H.keep Z.nx J V).trans g1
 have N:One s2 x c o:=by
  unfold One at*;cases o with
  |none=>exact M
  |some p=>exact M.mono (P.mono V)
 rw[ju,af];refine(Xc N Y J).mono ?_;rintro _ s3 ⟨rfl,m⟩;have n3:=m.nx;have K3:=P.trans m;have Q:=(m.keep s1.nx J V).trans g2;have X:∀r:δ K,r.length=3->bC ϐ4 0 r=r:=λr hr=>db _ _ hr
 have a:∀(r:δ K) (e:Nat),r.length=3->bh r=θ->(E (aJ 3 (.ptr s1.nx 0) (.agg r) s3) λ_ C=>U (aF 3 (.ptr s1.nx 0) C) λcJ=>(K.tuple [cJ,I e]=.tuple [.agg r,I e])/\Kp [] Z C):=λr e j k=>by
  rw[aK,Q,aU,aN,X r j];refine⟨⟨j,k,V⟩,?_⟩;rw[aG (n:=3) (ao ..) j,af];exact⟨rfl,K3.set _ (.inr J) J⟩
 have u:aR ϐ4 [] s3=.ok (.agg (sN 0 φ [])) s3:=rfl;cases o with
 |none=>
  have z:R .lss ν θ (I (-1)) μ s3=.ok ι s3:=rfl;simp only[Ov,ii,z,xk,je,ix,u];exact a _ 5 rfl rfl
 |some p=>
  obtain⟨i,f,v⟩:=p;have q:=(show Sl s2 [] x 5 _ from N).mono (m.mono V);have z:R .lss ν θ (ζ 0) μ s3=.ok Θ s3:=rfl;obtain⟨b,p,l,t,g,G,F,q3,q4,D⟩:=q.cellAt J (by simp[ik]) (i:=0) V;have l1:=D 1 (I i) rfl;have w:(if (Φ (i,f,v)).isSome=θ then I 0 else K.int .i64 (-1))=ζ 0:=rfl;have eL:R .lss ν φ (I i) (I d) s3=.ok (.bool (decide ((i:Int)<d))) s3:=by rw[au,cU]
  have eG:R .gtr ν φ (I i) (I d) s3=.ok (.bool (decide (d<(i:Int)))) s3:=by rw[au,cQ]
  simp only[w,z,ii,je,yw,G,ah,av,F,lW,l1,eL,eG,GT];unfold nY;dsimp only
  by_cases j:(i:Int)<d
  .rw[jp j,gq rfl,gq j,u,af];exact a _ 5 rfl rfl
  .rw[jo j,B tW,B j]
   by_cases k:d<(i:Int)
   .rw[jp k,gq rfl,gq k,u,af];exact a _ 6 rfl rfl
   .rw[jo k,B tW,B k]
    have e:iv l (p+2) 3=Φ (sN 1 f v):=WG (row:=sN 1 f v) (λo x ho=>by
     rw[ç];refine D (2+o) x ?_;have:(ik c i f v)[2+o]?=(sN 1 f v)[o]?:=by rw[<-aNS];rfl
     rw[<-ho,<-this];rfl) (by simp[sN])
    unfold Eo;rw[G,af,ah,af,nW,F,ak,e,yi];exact a _ 0 rfl rfl
end
end
section
variable {x:K}{o:υ (δ Γ)}
section
variable {Z Z' s:O} {h κ τ id n T:Nat} {π:PI} {S:mV} {L:δ aT}
def xv (Z:O)(x:K)(key:bS)(o:υ (δ Γ)):Prop:=match o with
 |none=>x=.ae
 |some v=>Sl Z [] x 2 ([bR (key,v)]:δ (δ K)).flatten
def xv.mono {key:bS}(a:xv Z x key o)(b:Kp [] Z s):xv s x key o:=by
 unfold xv at*;cases o with
 |none=>exact a
 |some p=>exact a.mono (b.mono V)
def yv {b:K}{key:bS}(hx:xv Z x key o)(d:∀v,o=Φ v->∀Q,(∀s,Kp [] Z s->Q ι s)->eJ Rq0 b [.agg (bR (key,v))] Z Q):Rq0 136 [x,b] Z λy s=>y=(if o.isSome then I 0 else I (-1))/\Kp [] Z s:=by
 refine bE ?_;rw[aqv,bU];cases o with
 |none=>
  have hx:=hx;subst hx;rw[oh,af];simp only[ke];refine Ee ?_;simp only[ke];have a:R .lss ν φ μ μ Z=.ok Θ Z:=rfl;rw[a,af,ag,B tW];exact⟨rfl,Δ _ _⟩
 |some v=>
  have hx:=hx;rw[hx.len 1 rfl J Z,af];simp only[ke];refine Ee ?_;simp only[ke];have a:R .lss ν φ μ (ζ 1) Z=.ok ι Z:=rfl;rw[a,af,ag,gq rfl];refine hx.fj (i:=0) J ZA V _ ?_;rw[List.getElem_cons_zero];refine d v rfl _ λe c=>?_;rw[ag,gq rfl];exact⟨rfl,c⟩
def TW (a:δ Γ)(s:O):R .eql ω φ (.str a) (.str a) s=.ok ι s:=by
 rw[fG];unfold sO;simp
def alB {q:Nat}{key:bS}{v:δ Γ}(e:Z.m.g q=Φ (Í [.str key]))(a:q<Z.nx)(Q:K->O->Prop)(f:∀s,Kp [] Z s->Q ι s):eJ Rq0 (.func (.func 137) [] [.ptr q 0]) [.agg (bR (key,v))] Z Q:=by
 rw[dv];simp only[ow,ut];refine bE ?_;rw[aqu,bz];refine⟨rfl,?_⟩;rw[aN];generalize c:O.new Z (Ì (bR (key,v)))=s1;obtain⟨b,j,k⟩:=dB c;have i:=(b.keep q a V).trans e;have d:(bR (key,v))[0]?=Φ (.str key):=rfl;unfold fl;rw[ah,af,av,j,ak,d,an,av,i,ak,io,an,TW,af];exact f _ b
def aeh {key:bS}(u:xv Z x key o):Rq0 84 [x,.str key] Z λy s=>y=.tuple [.str (o.getD []),.bool o.isSome]/\Kp [] Z s:=by
 refine bE ?_;rw[w84,bz];refine⟨rfl,?_⟩;have C:(K.str key).bY=[.str key]:=rfl;rw[C];generalize r:O.new Z (Í [.str key])=s1;obtain⟨c,z,H⟩:=dB r;have j:=u.mono c;rw[ju,af];refine(yv j λv _ Q w=>alB z J Q w).mono ?_;rintro _ s2 ⟨rfl,a⟩;have D:=j.mono a;cases o with
 |none=>
  have f:R .lss ν θ (I (-1)) μ s2=.ok ι s2:=rfl;simp only[Ov,ii,f,ll,ix];exact⟨rfl,c.trans a⟩
 |some v=>
  have d:=D;have f:R .lss ν θ (ζ 0) μ s2=.ok Θ s2:=rfl;obtain⟨b,p,l,t,g,q,m,G,F,k⟩:=d.cellAt J ZA (i:=0) V;have l1:=k 1 (.str v) rfl;have e:(if (Φ v).isSome=θ then I 0 else K.int .i64 (-1))=ζ 0:=rfl;simp only[e,f,ll,ii,yw,q,ah,av,m,lW,l1];exact⟨rfl,c.trans a⟩
def U4 (key:bS)(o:υ (δ Γ)):δ K:=match o with|none=>[]|some v=>bR (key,v)
def Oq {key:bS}(hx:xv Z x key o):Rq0 85 [x] Z (ry 2 96 x (U4 key o) Z):=by
 refine bE ?_;rw[w85];cases o with
 |none=>exact Cl 32 (X:=[]) (z:=ϐ2) (L:=[]) (.inl ⟨hx,rfl⟩) J rfl V
 |some v=>
  have hx:Sl Z [] x 2 ([bR (key,v)]:δ (δ K)).flatten:=hx;exact Cl 32 (X:=[]) (z:=ϐ2) (L:=bR (key,v)) J8 J rfl ZA
end
end
