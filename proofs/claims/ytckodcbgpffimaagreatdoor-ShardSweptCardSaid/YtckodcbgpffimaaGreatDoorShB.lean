import Derived.Test.YtckodcbgpffimaaGreatDoorShA
namespace Lim
open Go
noncomputable section
set_option linter.defProp false
set_option maxRecDepth 100000
section
variable {Z Z' s:O} {h κ τ id n T:Nat} {π:PI} {S:mV} {L:δ aT}
def RV (p:aT):Rq0 89 [.agg (bR p)] Z λy s=>y=.str p.1/\Kp [] Z s:=by
 refine bE ?_;rw[w89,bz];refine⟨rfl,?_⟩;rw[aN];generalize a:O.new Z (Ì (bR p))=s1;obtain⟨c,d,e⟩:=dB a;have b:(bR p)[0]?=Φ (.str p.1):=rfl;unfold fl;rw[ah,af,av,d,ak,b,an];exact⟨rfl,c⟩
def alA {q r:Nat}{key:bS}{v:δ Γ}(f:Z.m.g q=Φ (.cells [.func (.func 89) [] []] 183 φ))(e:Z.m.g r=Φ (Í [.str key]))(o:q<Z.nx)(l:r<Z.nx)(Q:K->O->Prop)(i:∀s,Kp [] Z s->Q ι s):eJ Rq0 (.func (.func 138) [] [.ptr q 0,.ptr r 0]) [.agg (bR (key,v))] Z Q:=by
 rw[dv];simp only[ow,ut];refine bE ?_;rw[aqt,bz];refine⟨rfl,?_⟩;rw[aN];generalize d:O.new Z (Ì (bR (key,v)))=s1;obtain⟨a,k,p⟩:=dB d;have j:=(a.keep q o V).trans f;have gr:=(a.keep r l V).trans e;rw[aZ,av,j,ak,io,an,aG (n:=2) k rfl,af,dv];simp only[ow,zo];refine(RV (key,v)).mono ?_;rintro _ s2 ⟨rfl,c⟩;have b:=(c.keep r J V).trans gr;rw[av,b,ak,io,an,TW,af,av,gr,ak,io,an];exact⟨⟨gt,gt,⟨rfl,gt⟩,gt⟩,gt,i _ (a.trans c)⟩
def PB (p:aT){v:K}(a:Sl Z [] v 2 (bR p)):Rq0 140 [.ae,μ,v] Z λy s=>Kp [] Z s/\∀X,(∀b∈X,b<Z.nx)->Sl s X y 2 ([bR p]:δ (δ K)).flatten:=by
 refine bE ?_;rw[aqs];have q:aQ 2 .ae (Φ μ) ν Z=.ok .ae Z:=rfl;have o:R .eql ψ θ (ζ 1) μ Z=.ok Θ Z:=rfl;have l:R .eql ψ φ μ μ Z=.ok ι Z:=rfl;rw[q,af,a.len 1 rfl J Z,af,o,af,ag,B tW,oh,af,l,af,ag,gq rfl];obtain⟨m,k,j⟩:=a.src ϐ2;obtain⟨v',Z',F',i,g,f,d⟩:=(show Own Z .ae 2 96 [] []from .inl ⟨rfl,rfl,rfl⟩).append (bytes:=32) (T:=bR p) J k rfl V ZA;rw[j,i,aP];refine⟨f,λX e=>?_⟩;have:=g.sl (X:=X) λb c=>⟨λhh=>by have:=e b hh;have:=(d b c).1;simp at this;omega,(d b c).2⟩
 simpa using this
def ahw {x:K}{key:bS}{o:υ (δ Γ)}(hx:xv Z x key o)(w:δ Γ):Rq0 88 [x,.agg (bR (key,w)),.func (.func 89) [] []] Z λy s=>Kp [] Z s/\∀X,(∀b∈X,b<Z.nx)->Sl s X y 2 ([bR (key,w)]:δ (δ K)).flatten:=by
 refine bE ?_;rw[w88,bz];refine⟨rfl,?_⟩;rw[aN];generalize lU:O.new Z (Ì (bR (key,w)))=s1;obtain⟨k1,g1,n1⟩:=dB lU;rw[bz];refine⟨rfl,?_⟩;have eF:(K.func (.func 89) [] []).bY=[.func (.func 89) [] []]:=rfl;rw[eF];generalize rA:O.new s1 (.cells [.func (.func 89) [] []] 183 φ)=s2;obtain⟨k2,g2,n2⟩:=dB rA;have M:=k1.trans k2;have lV:=(k2.keep Z.nx J V).trans g1;refine(Oq (hx.mono M)).mono ?_;rintro x3 s3 ⟨F,j,o3,p,BN⟩;have n3:=j.nx;have W:=(j.keep Z.nx J V).trans lV;have P:=(j.keep s1.nx J V).trans g2;rw[av,P,ak,io,an,aG (n:=2) W rfl,af,dv];simp only[ow,zo];refine(RV (key,w)).mono ?_;rintro _ s4 ⟨rfl,Y⟩;have n4:=Y.nx;refine gW rfl rfl rfl ?_;generalize u:O.new s4 (Í [.str key])=s6;obtain⟨k6,g6,n6⟩:=dB u;have a:=Y.trans k6;have K6:=(M.trans j).trans a;have Jj:=(a.keep Z.nx J V).trans W;have XM:=(a.keep s1.nx J V).trans P;have o6:=o3.keep a λb d=>⟨(p b d).2,V⟩;rw[ju,af]
 have f:xv s6 x3 key o:=by
  unfold xv;cases o with
  |none=>exact BN hx
  |some v=>have:=o6.sl (X:=[]) λb d=>⟨V,by have:=(p b d).2;omega⟩;simpa[U4]using this
 refine(yv f λv _ Q hQ=>alA XM g6 J J Q hQ).mono ?_;rintro _ c ⟨rfl,i⟩;have n7:=i.nx;have N:=(i.keep Z.nx J V).trans Jj;have H:=K6.trans i;cases o with
 |none=>
  have r:=f;subst r;have G:R .geq ν θ (I (-1)) μ c=.ok Θ c:=rfl;simp only[Ov,ii,G,ll];rw[ju,af];refine(yv (key:=key) (o:=ν) (show xv c .ae key ν from rfl) (λv hv=>by cases hv)).mono ?_;rintro _ e ⟨rfl,q⟩;have n9:=q.nx;have Ki:=(q.keep Z.nx J V).trans N;have D:R .lss ν θ (I (-1)) μ e=.ok ι e:=rfl;rw[bU];simp only[Ov,ii,D,ll,ix,oh,ke];rw[aG (n:=2) Ki rfl,af,mO (k:=2) rfl rfl rfl,aP,aN];generalize BI:O.new e (Ì (bR (key,w)))=eo;obtain⟨pG,PZ,LI⟩:=dB BI;refine(PB (key,w) (v:=.slice e.nx 0 1 1 0) (.inr ⟨e.nx,0,1,1,0,rfl,rfl,⟨hI _,.inl rfl⟩,.inr ⟨V,J,_,_,_,PZ,ZA,rfl⟩⟩)).mono ?_;rintro y cH ⟨oR,hy⟩;exact⟨((H.trans q).trans pG).trans oR,λX z=>hy X λb d=>by have:=z b d;have:=H.nx;omega⟩
 |some v=>
  have C:(if (Φ v).isSome=θ then I 0 else K.int .i64 (-1))=ζ 0:=rfl;have G:R .geq ν θ (ζ 0) μ c=.ok ι c:=rfl;rw[C,G,af,ag,gq rfl,aG (n:=2) N rfl,af];have o7:=o6.keep i λb d=>⟨by have:=(p b d).2;omega,V⟩;rcases o7 with⟨_,h,_⟩|⟨b,l,t,g,_,h,_⟩|⟨b,m,rfl,h1,h2,rfl,h4⟩
  .cases h
  .cases h
  .have hm:m=1:=by simp[U4,bR]at h2;omega
   subst hm;have D:de 2 (.slice b 0 1 1 2) (ζ 0) c=.ok (.ptr b 0) c:=rfl;have d:=p b V;unfold BE;rw[D,af,aK,h4,aU,aN,db (U4 key (Φ v)) (bR (key,w)) rfl];refine⟨⟨rfl,rfl,by simp[U4,bR]⟩,H.set _ (.inr J) J,λX z=>.inr ⟨b,0,1,1,2,rfl,rfl,⟨hI _,.inr rfl⟩,.inr ⟨λhh=>by have:=z b hh;have:=M.nx;omega,by show b<c.nx;omega,_,_,_,ao ..,ZA,rfl⟩⟩⟩
def yh (k:Nat)(key v o:δ Γ)(had:Bool):δ K:=[.int .u8 (k:Nat),.str key,.str v,.str o,.bool had]
def th (k:Nat)(key v o:δ Γ):Nat:=if k<1\/4<k then 1 else if key=[]\/32<key.length\/2000<v.length\/2000<o.length then 40 else 0
def Ot (k:Nat)(key v o:δ Γ)(had:Bool):Rq0 38 [.agg (yh k key v o had)] Z λy s=>y=I (th k key v o)/\Kp [] Z s:=by
 refine bE ?_;rw[w38,bz];refine⟨rfl,?_⟩;rw[aN];generalize r:O.new Z (Ô (yh k key v o had))=s1;obtain⟨d,f,x⟩:=dB r;have c:(yh k key v o had)[0]?=Φ (.int .u8 (k:Nat)):=rfl;have l1:(yh k key v o had)[1]?=Φ (.str key):=rfl;have l2:(yh k key v o had)[2]?=Φ (.str v):=rfl;have u:(yh k key v o had)[3]?=Φ (.str o):=rfl;have g:R .lss ν θ (.int .u8 (k:Nat)) (.int .u8 1) s1=.ok (.bool (decide (k<1))) s1:=aai
 have i:R .gtr ν θ (.int .u8 (k:Nat)) (.int .u8 4) s1=.ok (.bool (decide (4<k))) s1:=yZ
 have l:R .eql ω θ (.str key) ϑ s1=.ok (.bool (decide (key=[]))) s1:=by rw[fG,rK]
 have b:R .gtr ν θ (I key.length) (I 32) s1=.ok (.bool (decide (32<key.length))) s1:=yZ
 have q:∀a:Nat,R .gtr ν θ (I a) (I 2000) s1=.ok (.bool (decide (2000<a))) s1:=λa=>yZ
 unfold th
 by_cases e:k<1
 .simp[fl,gG,ah,af,av,f,c,g,e,aD,bA,aC,ag,d]
 .by_cases h2:4<k
  .simp[fl,gG,ah,af,av,f,c,g,i,e,h2,aD,aW,aC,ag,d]
  .by_cases j:key=[]
   .subst j;simp[fl,gG,ah,af,av,f,c,l1,g,i,l,e,h2,aD,aW,bA,aC,ag,d]
   .by_cases m:32<key.length
    .simp[fl,gG,ah,af,av,f,c,l1,g,i,l,b,e,h2,j,m,aD,aW,bA,aC,ag,d]
    .by_cases p:2000<v.length
     .simp[fl,gG,ah,af,av,f,c,l1,l2,g,i,l,b,q,e,h2,j,m,p,aD,aW,bA,aC,ag,d]
     .by_cases w:2000<o.length<;>simp[fl,gG,ah,af,av,f,c,l1,l2,u,g,i,l,b,q,e,h2,j,m,p,w,aD,aW,bA,aC,ag,d]
end
section
variable {q k:Nat}{ol:δ Γ}{had:Bool}{x:K}{o:υ (δ Γ)}{F:δ Nat}
section
variable {Z Z' s:O} {h κ τ id n T:Nat} {π:PI} {S:mV} {L:δ aT}
def axq {key v w:δ Γ}(e:Z.m.g q=Φ (Ô (yh k key w ol had)))(a:q<Z.nx)(Q:K->O->Prop)(f:∀s,Kp [] Z s->Q ι s):eJ Rq0 (.func (.func 87) [] [.ptr q 0]) [.agg (bR (key,v))] Z Q:=by
 rw[dv];simp only[ow,ut];refine bE ?_;rw[w87,bz];refine⟨rfl,?_⟩;rw[aN];generalize c:O.new Z (Ì (bR (key,v)))=s1;obtain⟨b,j,l⟩:=dB c;have i:=(b.keep q a V).trans e;have d:(bR (key,v))[0]?=Φ (.str key):=rfl;have l1:(yh k key w ol had)[1]?=Φ (.str key):=rfl;unfold fl;rw[ah,af,av,j,ak,d,an,ah,af,av,i,ak,l1,an,TW,af];exact f _ b
def FW {key:bS}(h:Own Z x 2 96 (U4 key o) F)(a:o=ν->x=.ae)(d:∀b∈F,b<Z.nx):xv Z x key o:=by
 unfold xv;cases o with
 |none=>exact a rfl
 |some v=>have:=h.sl (X:=[]) λb c=>⟨V,d b c⟩;simpa[U4]using this
def Uf {key w:δ Γ}(h:Own Z x 2 96 (U4 key o) F)(i:o=ν->x=.ae)(e:∀b∈F,b<Z.nx)(p:Z.m.g q=Φ (Ô (yh k key w ol had)))(c:q<Z.nx):
 Rq0 86 [x,.func (.func 87) [] [.ptr q 0]] Z λy s=>Kp F Z s/\∀s',aY .slice y s'=.ok μ s':=by
 refine bE ?_;rw[w86];refine(yv (FW h i e) λv _ Q r=>axq p c Q r).mono ?_;rintro _ s1 ⟨rfl,a⟩;cases o with
 |none=>
  have f:R .eql ψ θ (I (-1)) (I (-1)) s1=.ok ι s1:=rfl;simp only[Ov,ii,f,ll,ix];rw[i rfl];exact⟨a.mono V,λ_=>rfl⟩
 |some v=>
  have d:(if (Φ v).isSome=θ then I 0 else K.int .i64 (-1))=ζ 0:=rfl;have f:R .eql ψ θ (ζ 0) (I (-1)) s1=.ok Θ s1:=rfl;have o1:=h.keep a λb j=>⟨e b j,V⟩;rcases o1 with⟨_,h,_⟩|⟨b,l,t,g,_,h,_⟩|⟨b,m,rfl,M,z,rfl,u⟩
  .cases h
  .cases h
  .have hm:m=1:=by simp[U4,bR]at z;omega
   subst hm;have j:=e b V;have n1:=a.nx;rw[d,f,af,ag,B tW,bU,fV 0 J,af];simp only[ke];refine Ee ?_;simp only[ke];have H:R .lss ν φ (ζ (0+1)) (ζ 1) s1=.ok Θ s1:=rfl;have G:aQ 2 (.slice b 0 1 1 2) (Φ (ζ 0)) ν s1=.ok (.slice b 0 1 1 2) s1:=rfl
   have D:pZ ϐ2 (.slice b 0 1 1 2) s1=.ok .undef (O.set s1 b (.cells ϐ2 96 θ)):=by
    unfold pZ;dsimp only;rw[u];rfl
   have C:∀s,aQ 2 (.slice b 0 1 1 2) ν (Φ (ζ 0)) s=.ok (.slice b 0 0 1 2) s:=λs=>rfl;rw[jM,af,H,af,ag,B tW,G,af,D,aP,C,af];exact⟨(a.mono V).set _ (.inl V) J,λ_=>rfl⟩
def Ch (k:Nat)(w ol:δ Γ)(had:Bool)(o:υ (δ Γ)):υ (δ Γ)×Bool:=
 if k=3 then (ν,o.isSome)else if k=4 then (if o.isSome=had/\(o.isSome=θ->o.getD []=ol)then (Φ w,θ)else (o,φ))else (Φ w,φ)
def Æ (Z:O)(X:δ Nat)(y:K)(key:bS)(o:υ (δ Γ)):Prop:=match o with
 |none=>∀s,aY .slice y s=.ok μ s
 |some v=>Sl Z X y 2 ([bR (key,v)]:δ (δ K)).flatten
def JZ (k:Nat)(key w ol:δ Γ)(had:Bool)(o:υ (δ Γ))(Z:O)(y:K)(s:O):Prop:=Kp [] Z s/\∃a,y=.tuple [a,.agg (sN 1 (Ch k w ol had o).2 []),μ]/\∀X,(∀b∈X,b<Z.nx)->Æ s X a key (Ch k w ol had o).1
def axC {key w:δ Γ}(hx:xv Z x key o)(hc:th k key w ol=0)(hk:2<=k/\k<=4):
 Rq0 42 [x,.agg (yh k key w ol had)] Z (JZ k key w ol had o Z):=by
 refine bE ?_;rw[w42,bz];refine⟨rfl,?_⟩;rw[aN];generalize lU:O.new Z (Ô (yh k key w ol had))=s1;obtain⟨k1,g1,n1⟩:=dB lU;rw[bW,aP];generalize rA:O.new s1 (ϻ ϐ4)=s2;obtain⟨k2,g2,n2⟩:=dB rA;have K2:=k1.trans k2;have lV:=(k2.keep Z.nx J V).trans g1;rw[aG (n:=5) lV rfl,af];refine(Ot k key w ol had).mono ?_;rintro _ s3 ⟨rfl,P⟩;rw[hc];have n3:=P.nx;have e0:R .neq ψ θ (ζ 0) μ s3=.ok Θ s3:=rfl;have mW:=(P.keep Z.nx J V).trans lV;have yV:=(P.keep s1.nx J V).trans g2;have l0:(yh k key w ol had)[0]?=Φ (.int .u8 (k:Nat)):=rfl;have l1:(yh k key w ol had)[1]?=Φ (.str key):=rfl;have l2:(yh k key w ol had)[2]?=Φ (.str w):=rfl;have N:(yh k key w ol had)[3]?=Φ (.str ol):=rfl;have M:(yh k key w ol had)[4]?=Φ (.bool had):=rfl
 have f1:∀s,s.m.g Z.nx=Φ (Ô (yh k key w ol had))->∀Kq0:K->Prop,Kq0 (.str key)->fl 1 (.ptr Z.nx 0) s Kq0:=λs Q Kq0 hK=>by
  unfold fl;rw[ah,af,av,Q,ak,l1,an];exact hK
 rw[e0,af,ag,B tW];refine f1 s3 mW _ ?_;refine(aeh (hx.mono (K2.trans P))).mono ?_;rintro _ s4 ⟨rfl,k4⟩;have n4:=k4.nx;have K4:=(K2.trans P).trans k4;have Ax:=(k4.keep Z.nx J V).trans mW;have NZ:=(k4.keep s1.nx J V).trans yV;rw[aE,af,aL,aE,af];refine(Oq (hx.mono K4)).mono ?_;rintro cP d ⟨F,k5,o5,f5,BN⟩;have n5:=k5.nx;have XN:=(k5.keep Z.nx J V).trans Ax;have ai:=(k5.keep s1.nx J V).trans NZ;have CP:aR ϐ4 [(0,1,.int .u8 1)] d=.ok (.agg (sN 1 φ [])) d:=rfl;rw[CP,af];refine gW rfl rfl rfl ?_;generalize ac:O.new d (ϻ (sN 1 φ []))=c;obtain⟨k7,g7,n7⟩:=dB ac;have K7:=(K4.trans k5).trans k7;have i:=(k7.keep Z.nx J V).trans XN;have ad:=(k7.keep s1.nx J V).trans ai;have o7:=o5.keep k7 λb hb=>⟨(f5 b hb).2,V⟩;have rm:o=ν->cP=.ae:=λe=>BN (by subst e;exact hx);have ln:=FW o7 rm λb hb=>aau
 have l:∀(s:O) (nw:K) (f:Bool),Kp (d.nx::F) c s->s.m.g d.nx=Φ (ϻ (sN 1 f []))->f=(Ch k w ol had o).2->(∀s',Kp [s1.nx] s s'->∀X,(∀b∈X,b<Z.nx)->Æ s' X nw key (Ch k w ol had o).1)->
  (U (aF 3 (.ptr d.nx 0) s) λp=>E (aJ 3 (.ptr s1.nx 0) p s) λdC a=>((True)/\True)/\(True)/\U (aF 3 (.ptr s1.nx 0) a) λr=>JZ k key w ol had o Z (.tuple [nw,r,μ]) a):=by
  intro s nw f j Q hf Qv
  have IQ:s1.nx∉d.nx::F:=λhh=>by
   rcases ip.1 hh with h|h
   .omega
   .have:=(f5 _ h).1;omega
  have gs:=(j.keep s1.nx J IQ).trans ad;have ns:=j.nx;rw[aG (n:=3) Q rfl,af,aK,gs,aU,aN,db ϐ4 (sN 1 f []) rfl];refine⟨⟨rfl,rfl,V⟩,⟨gt,gt⟩,gt,?_⟩;rw[aG (n:=3) (ao ..) rfl,af];refine⟨?_,nw,by rw[hf],Qv _ ((Δ _ s).set _ (.inl V) J)⟩;refine((K7.trans j λq hq=>.inr ?_).set _ (.inr J) J);rcases ip.1 hq with h|h
  .omega
  .have:=(f5 _ h).1;omega
 have f0:∀Kq0:K->Prop,Kq0 (.int .u8 (k:Nat))->fl 0 (.ptr Z.nx 0) c Kq0:=λKq0 hK=>by
  unfold fl;rw[ah,af,av,i,ak,l0,an];exact hK
 have ek:∀m:Nat,R .eql ψ θ (.int .u8 (k:Nat)) (.int .u8 (m:Nat)) c=.ok (.bool (decide (k=m))) c:=λm=>CU
 have H:∀(s:O) (f:Bool),Kp [d.nx] c s->s.m.g d.nx=Φ (ϻ (sN 1 f []))->(Ch k w ol had o).2=f->(Ch k w ol had o).1=Φ w->
  (fl 1 (.ptr Z.nx 0) s λeX=>fl 2 (.ptr Z.nx 0) s λfT=>U (aR ϐ2 [(0,1,eX),(1,1,fT)] s) λfL=>Rq0 88 [cP,fL,(.func (.func 89) [] [])] s λfW u=>
   (U (aF 3 (.ptr d.nx 0) u) λp=>E (aJ 3 (.ptr s1.nx 0) p u) λdC a=>((True)/\True)/\(True)/\U (aF 3 (.ptr s1.nx 0) a) λr=>JZ k key w ol had o Z (.tuple [fW,r,μ]) a)):=by
  intro s f j Q hf hw;have ns:=j.nx;have aj:=(j.keep Z.nx J xI).trans i;have hb:aR ϐ2 [(0,1,.str key),(1,1,.str w)] s=.ok (.agg (bR (key,w))) s:=rfl;unfold fl;simp only[ly,aj,l1,l2,hb];have am:=FW (o7.keep j λb hb=>⟨aau,λhh=>by simp at hh;have:=(f5 b hb).2;omega⟩) rm λb hb=>aau
  refine(ahw am w).mono ?_;rintro y u ⟨oR,hy⟩;refine l u y f ((j.mono V).trans oR V) ((oR.keep d.nx J V).trans Q) hf.symm λs' lQ X hX=>?_;rw[hw];exact((hy (s1.nx::X) (λb hb=>by rcases ip.1 hb with h|h;omega;have:=hX b h;omega)).mono (lQ.mono V)).fc (λb hb=>.inl OG)
 rw[bU];refine f0 _ ?_;rw[bU];simp only[ke,aZ];rw[show K.int .u8 1=.int .u8 ((1:Nat):Int)from rfl,show K.int .u8 3=.int .u8 ((3:Nat):Int)from rfl,show K.int .u8 4=.int .u8 ((4:Nat):Int)from rfl,show K.int .u8 2=.int .u8 ((2:Nat):Int)from rfl];rw[ek,af,ag,jo J,B tW,ek,af,ag]
 by_cases G:k=3
 .rw[jp G,gq rfl];refine Mw g7 J (by simp[sN]) rfl rfl λgJ C D=>?_;have ap:=D.nx;have al:=(D.keep Z.nx J xI).trans i;have aa:=o7.keep D λb hb=>⟨aau,λhh=>by simp at hh;have:=(f5 b hb).2;omega⟩;rw[ju,af];refine(Uf aa rm (λb hb=>aau) al J).mono ?_;rintro y dt ⟨tP,hy⟩;have ab:d.nx∉F:=λhh=>by have:=(f5 _ hh).2;omega
  refine l dt y o.isSome ((D.mono V).trans tP λq hq=>.inl QU) ((tP.keep d.nx J ab).trans (by rw[C];rfl)) (by unfold Ch;rw[gq G]) λs' _ X _=>?_;have e:(Ch k w ol had o).1=ν:=by unfold Ch;rw[gq G]
  rw[e];exact hy
 .rw[jo G,B tW,ek,af,ag]
  by_cases h4:k=4
  .rw[jp h4,gq rfl];have W:Ch k w ol had o=if o.isSome=had/\(o.isSome=θ->o.getD []=ol)then (Φ w,θ)else (o,φ):=by unfold Ch;rw[B G,gq h4]
   have es:R .neq ω φ (.str (o.getD [])) (.str ol) c=.ok (.bool (!decide (o.getD []=ol))) c:=by rw[fG,um]
   have LW:(Ch k w ol had o)=(o,φ)->(U (aF 3 (.ptr d.nx 0) c) λp=>E (aJ 3 (.ptr s1.nx 0) p c) λdC a=>((True)/\True)/\(True)/\U (aF 3 (.ptr s1.nx 0) a) λr=>JZ k key w ol had o Z (.tuple [cP,r,μ]) a):=λe=>by
    refine l c cP φ (Δ _ _) g7 NL λs' wB X hX=>?_;rw[e];cases o with
    |none=>rw[rm rfl];exact λ_=>rfl
    |some v=>
     have:=o7.sl (X:=s1.nx::X) λb hb=>⟨λhh=>by
      have:=(f5 b hb).1;rcases ip.1 hh with h|h
      .omega
      .have:=hX b h;omega,aau⟩
     have:=(this.mono (wB.mono V)).fc (Y:=X) (λb hb=>.inl OG)
     simpa[Æ,U4]using this
   have z:(Ch k w ol had o)=(Φ w,θ)->(fst 1 1 (.ptr d.nx 0) ι c λdA=>fl 1 (.ptr Z.nx 0) dA λeX=>fl 2 (.ptr Z.nx 0) dA λfT=>U (aR ϐ2 [(0,1,eX),(1,1,fT)] dA) λfL=>Rq0 88 [cP,fL,(.func (.func 89) [] [])] dA λfW u=>
    (U (aF 3 (.ptr d.nx 0) u) λp=>E (aJ 3 (.ptr s1.nx 0) p u) λdC a=>((True)/\True)/\(True)/\U (aF 3 (.ptr s1.nx 0) a) λr=>JZ k key w ol had o Z (.tuple [fW,r,μ]) a)):=λe=>by
    refine Mw g7 J (by simp[sN]) rfl rfl λgJ C D=>?_;exact H gJ θ D (by rw[C];rfl) NL NL
   unfold fl at z⊢;have ff:R .neq (Φ .bool) φ Θ Θ c=.ok Θ c:=rfl;have ft:R .neq (Φ .bool) φ Θ ι c=.ok ι c:=rfl;have tf:R .neq (Φ .bool) φ ι Θ c=.ok ι c:=rfl;have tt:R .neq (Φ .bool) φ ι ι c=.ok Θ c:=rfl;cases o with
   |none=>cases had with
    |false=>
     have:=z (W.trans (gq ⟨rfl,λhh=>by cases hh⟩));simp only[gG,vr,i,N,M,Ov,ff,xk,ii,ix,tw]at this⊢;exact this
    |true=>
     have:=LW (W.trans (B λhh=>by cases hh.1));simp only[gG,vr,i,N,M,Ov,ft,xk,nV,ii,ix,tw]at this⊢;exact this
   |some v=>cases had with
    |false=>
     have:=LW (W.trans (B λhh=>by cases hh.1));simp only[gG,vr,i,N,M,Zd,tf,xk,nV,ii,ix,tw]at this⊢;exact this
    |true=>
     by_cases h7:v=ol
     .have:=z (W.trans (gq ⟨rfl,λ_=>h7⟩));rw[jp (show(Φ v).getD []=ol from h7)]at es;simp only[gG,vr,i,N,M,Zd,tt,es,xk,ii,ix,tw]at this⊢;exact this
     .have:=LW (W.trans (B λhh=>h7 (hh.2 rfl)));rw[jo (show¬(Φ v).getD []=ol from h7)]at es;simp only[gG,vr,i,N,M,Zd,tt,es,xk,ii,ix,tw]at this⊢;exact this
  .rw[jo h4,B tW,ek,af,ag,jp J,gq rfl];have e:Ch k w ol had o=(Φ w,φ):=by unfold Ch;rw[B G,B h4]
   exact H c φ (Δ _ _) g7 NL NL
end
end
section
variable {Z Z' s:O} {h κ τ id n T:Nat} {π:PI} {S:mV} {L:δ aT}
def zJ (L:δ aT)(b:Γ)(g c:Nat)(o:υ (Nat×Bool×δ Γ)):Prop:=match o with
 |none=>ey L (b::lK g c)=ν
 |some (i,f,v)=>ey L (b::lK g c)=Φ (lG i f v)/\i<=kj/\v.length<=2000
def rB.abP {b:Γ}{gen g c:Nat}(h:rB b gen L):∃o,zJ L b g c o:=by
 cases hg:ey L (b::lK g c)with
 |none=>exact⟨ν,hg⟩
 |some w=>
  obtain⟨i,f,v,rfl,d,a⟩:=h.last hg;exact⟨Φ (i,f,v),hg,d,a⟩
def WH (H:wD Z h κ τ π id n S L T){c:Nat}(P:c<=kj){o:υ (Nat×Bool×δ Γ)}(m:zJ L (UInt8.ofNat (8+n)) S.gen c o):Rq0 40 [.ptr h 0,I c] Z λy s=>Kp [] Z s/\∃x,y=.tuple [x,μ]/\One s x c o:=by
 refine bE ?_;rw[w40];have X:(tI κ id n S)[9]?=Φ (I S.gen):=rfl;have f0:(tI κ id n S)[0]?=Φ (.ptr κ 0):=rfl;have Y:(tI κ id n S)[2]?=Φ (ζ (8+n)):=rfl;unfold fP;rw[bk,af,ah,af,av,H.at_.get,ak,X,an];refine(sG H.fr 108 S.gen).mono ?_;rintro _ s1 ⟨rfl,G⟩;refine(Bp c).mono ?_;rintro _ s2 ⟨rfl,F⟩;have q:=G.trans F;have r:=H.still q;rw[GO _ _ φ ñ s2,af];simp only[aZ,rr,r.at_.get,f0,Y];obtain⟨fr,a⟩:=r.at';have Et:=H.nb;refine(Z8 a (p:=(((8+n:Nat):Int),ia 108 S.gen++b4 c)) ⟨⟨J,OJ⟩,ñ⟩).mono ?_;rintro _ s3 ⟨D,rfl⟩;have j:=q.trans D;have e:vj (((8+n:Nat):Int),ia 108 S.gen++b4 c)=UInt8.ofNat (8+n)::lK S.gen c:=ri _ _;rw[e];have e0:R .neq ψ θ μ μ s3=.ok Θ s3:=rfl;simp only[u6,e0,sE];cases o with
 |none=>
  rw[show ey L (UInt8.ofNat (8+n)::lK S.gen c)=ν from m];simp only[Ov,ii,bZ,GT,ix];exact⟨j,_,rfl,rfl⟩
 |some p=>
  obtain⟨i,f,v⟩:=p;obtain⟨N,hi,M⟩:=m;rw[N];simp only[Zd,ii,tw,ï,bZ,Jd];refine(II (j.fresh H.fr) P hi M (g:=S.gen)).mono ?_;rintro _ u ⟨rfl,C⟩;simp only[u6];refine gW rfl rfl rfl ?_;generalize d:O.new u (Ϸ (ik c i f v))=l;obtain⟨z,W,n6⟩:=dB d;rw[aG (n:=5) W rfl,af,mO (k:=5) rfl rfl rfl,aP,aN];generalize b:O.new l (Ϸ (ik c i f v))=s7;obtain⟨w,Q,n7⟩:=dB b;exact⟨((j.trans C).trans z).trans w,_,rfl,.inr ⟨l.nx,0,1,1,0,rfl,rfl,⟨hI _,.inl rfl⟩,.inr ⟨V,J,_,_,_,Q,by simp[ik],rfl⟩⟩⟩
def Z9 (H:wD Z h κ τ π id n S L T)(key:δ Γ):Rq0 31 [.ptr h 0,.str key] Z λy s=>Kp [] Z s/\
 y=if S.phase≠2 then .tuple [ϑ,Θ,ζ 62]else if key.length<1\/32<key.length then .tuple [ϑ,Θ,ζ 40]else .tuple [.str ((ey L (UInt8.ofNat (8+n)::pK S.gen key)).getD []),.bool (ey L (UInt8.ofNat (8+n)::pK S.gen key)).isSome,μ]:=by
 refine bE ?_;have j:(tI κ id n S)[0]?=Φ (.ptr κ 0):=rfl;have i:(tI κ id n S)[2]?=Φ (ζ (8+n)):=rfl;have g:(tI κ id n S)[5]?=Φ (.int .u8 (S.phase:Nat)):=rfl;have l:R .neq ψ θ (.int .u8 (S.phase:Nat)) (.int .u8 2) Z=.ok (.bool (!decide (S.phase=2))) Z:=Kk
 rw[w31,cc,af,ag,B tW];unfold oE;simp only[rr,H.at_.get,Nat.reduceAdd,g,l,ag]
 by_cases e:S.phase=2
 .rw[jp e,r8,B tW,B J];have o:R .lss ν θ (I key.length) ϖ Z=.ok (.bool (decide (key.length<1))) Z:=by rw[au,cU];congr 2;simp only[CI];omega
  have m:R .gtr ν θ (I key.length) (I 32) Z=.ok (.bool (decide (32<key.length))) Z:=yZ
  simp only[eN,af,o]
  by_cases d:key.length<1
  .simp only[jp d,ii,xk,ix,gq (Or.inl d:key.length<1\/32<key.length)];exact⟨Δ _ _,rfl⟩
  .simp only[jo d,ii,GT,eN,m]
   by_cases c:32<key.length
   .simp only[jp c,ix,gq (Or.inr c:key.length<1\/32<key.length)];exact⟨Δ _ _,rfl⟩
   .simp only[jo c,pi,ii,B (show¬(key.length<1\/32<key.length) by omega),aZ];refine(Lu H.fr H.at_ (k:=key) J).mono ?_;rintro _ q ⟨rfl,b⟩;obtain⟨fr,a⟩:=(H.still b).at';have r:=H.nb;refine(Z8 a (p:=(((8+n:Nat):Int),pK S.gen key)) ⟨⟨J,OJ⟩,afF⟩).mono ?_;rintro _ s2 ⟨f,rfl⟩;rw[ri];simp only[DK,rb,(H.still b).at_.get,j,i,sE,and_true];exact b.trans f
 .rw[jo e,ra,gq rfl,gq e];exact⟨Δ _ _,rfl⟩
end
section
variable {v:δ Γ}{k i:Nat}{f:Bool}{g c:Nat}{X:δ Nat}{ol:δ Γ}{had:Bool}
section
variable {Z Z' s:O} {h κ τ id n T:Nat} {π:PI} {S S':mV} {L L':δ aT}
structure uR (Z s:O)(h κ τ:Nat)(π π':PI)(id n:Nat)(S:mV)(L:List aT)(T T':Nat):Prop where
 kp:Kp (h::own τ π) Z s
 own:∀b∈own τ π',b∈own τ π\/Z.nx<=b
 sh:wD s h κ τ π' id n S L T'
 le:T'<=T+10000
def wD.stay (H:wD Z h κ τ π id n S L T)(a:Kp [] Z s):uR Z s h κ τ π π id n S L T T:=⟨a.mono V,lk,H.still a,J⟩
def wD.lts (H:wD Z h κ τ π id n S L T):∀b∈h::own τ π,b<Z.nx:=λb d=>by
 obtain⟨fr,a⟩:=H.at';rcases ip.1 d with rfl|d
 .exact H.at_.lt
 .exact a.tr.Bn b d
def wD.apply (H:wD Z h κ τ π id n S L T)(G:T<=800000000)(F:L.length<=500){v:K}{j:δ nH}(z:Sl Z (own τ π) v 4 (pJ j))(u:∀c∈j,QH (UInt8.ofNat (8+n)) S.gen c)(C:j.length<=5):
 Rq0 36 [.ptr κ 0,v] Z λy s=>y=I 0/\∃a T',Kp (own τ π) Z s/\uR Z s h κ τ π a id n S (gC L j) T T':=by
 obtain⟨fr,w⟩:=H.kv;have d:=H.at_.lt;have m:=H.not;refine(aez w H.set H.l.small J J z (λc D=>(u c D).1) C (H.l.room F) J).mono ?_;rintro _ s ⟨rfl,a,T',fr',M,p,⟨b,r⟩,o,N,x⟩;refine⟨rfl,a,T',b,b.mono λq hq=>.inl QU,r,⟨⟨fr',o⟩,x,⟨ov d b.nx,(b.keep h d λhh=>m É).trans H.at_.get⟩,H.ok,H.idb,H.nb,H.l.all u,λhh=>?_,b.fresh H.fr⟩,p⟩;rcases ip.1 hh with e|hh
 .exact m (by rw[e];simp)
 .rcases r h hh with h1|h1
  .exact m à
  .omega
def Hz {n:Nat}(b:n<=3){k:bS}(a:k.length<=47):zH (((8+n:Nat):Int),k):=⟨⟨J,OJ⟩,a⟩
def Pv (hi:i<=kj)(b:v.length<=2000):(lG i f v).length<=2015:=by
 have u1:=(gf i hi).2;have u2:=(gf (if f=θ then 1 else 0) Ys).2;have a:=(gf v.length J).2;unfold lG;simp only[km];omega
def YG {n:Nat}(b:n<=3)(d:c<=kj)(hi:i<=kj)(a:v.length<=2000):QH (UInt8.ofNat (8+n)) g (oZ n g c i f v):=
 ⟨⟨Hz (k:=lK g c) b (by simp[lK,ia,b4]),by have:=Pv (f:=f) hi a;show(lG i f v).length<=_;omega,λe=>by cases e⟩,.inr (.inr (.inl ⟨g,c,i,f,v,hI _,d,hi,a,by rw[show(oZ n g c i f v).nm=(((8+n:Nat):Int),lK g c)from rfl,ri];rfl⟩))⟩
def ahv {n:Nat}{key:δ Γ}(d:n<=3)(a:1<=key.length/\key.length<=32)(b:v.length<=2000):QH (UInt8.ofNat (8+n)) g (vU n g key v):=
 ⟨⟨Hz (k:=pK g key) d afF,by show v.length<=_;omega,λe=>by cases e⟩,.inr (.inr (.inr ⟨g,key,hI _,a.2,a.1,by rw[show(vU n g key v).nm=(((8+n:Nat):Int),pK g key)from rfl,ri],b⟩))⟩
def akR {n:Nat}{key:δ Γ}(a:n<=3)(b:key.length<=32):QH (UInt8.ofNat (8+n)) g (rX n g key):=⟨⟨Hz (k:=pK g key) a afF,by simp[rX],λ_=>rfl⟩,.inl rfl⟩
def hE (S:mV)(n:Nat)(L:δ aT)(o:υ (Nat×Bool×δ Γ))(c i:Int)(k:Nat)(key w ol:δ Γ)(had:Bool):δ K×Nat×δ nH:=
 if S.phase≠2 then (sN 0 φ [],62,[])else if th k key w ol≠0 then (sN 0 φ [],th k key w ol,[])else if k=1\/te c=φ\/te i=φ then (sN 0 φ [],1,[])else
 if (nY o i).2≠5 then ((nY o i).1,(nY o i).2,[])else
  let cur:=ey L (UInt8.ofNat (8+n)::pK S.gen key)
  let d:=Ch k w ol had cur
  (sN 1 d.2 [],0,oZ n S.gen c.toNat i.toNat d.2 []::(match d.1 with|some v=>[vU n S.gen key v]|none=>if cur.isSome=θ then [rX n S.gen key]else []))
def JP (Z:O)(h κ τ:Nat)(π:PI)(id n:Nat)(S:mV)(L:δ aT)(T:Nat)(r:δ K×Nat×δ nH)(y:K)(s:O):Prop:=y=.tuple [.agg r.1,I r.2.1]/\∃a b,uR Z s h κ τ π a id n S (gC L r.2.2) T b
def kW.off {N fr:Nat}{l:δ aT}(h:kW c τ π Z L l T N fr)(d:Kp X Z Z')(j:∀b∈own τ π,b∉X):kW c τ π Z' L l T N fr:=by
 obtain⟨⟨G,y,a,w,C,x,m,o,z⟩,r,p⟩:=h;obtain⟨ty,g,q⟩:=a.get;exact⟨⟨G,y,⟨a.pg.keep d λb u=>j b (vh u),ov a.lt d.nx,a.not,⟨ty,g,(d.keep τ a.lt (j τ (by simp[own]))).trans q⟩,d.fresh a.fr⟩,w,C.keep d λr' e=>j r' (by unfold own;rw[e];simp),x,m,o,z⟩,r,p⟩
def wD.off (H:wD Z h κ τ π id n S L T)(a:Kp X Z s)(d:∀b∈h::κ::own τ π,b∉X):wD s h κ τ π id n S L T:=by
 obtain⟨fr,o,m,e,j⟩:=H.kv;exact⟨⟨fr,o.off a λb hb=>d b OG,(a.keep κ e (d κ V)).trans m,ov e a.nx,j⟩,H.set,⟨ov H.at_.lt a.nx,(a.keep h H.at_.lt (d h V)).trans H.at_.get⟩,H.ok,H.idb,H.nb,H.l,H.not,a.fresh H.fr⟩
def wD.eI (H:wD Z h κ τ π id n S L T):κ<Z.nx:=by obtain⟨fr,e,d,a,b⟩:=H.kv;exact a
def uR.pre {a:PI}{T':Nat}(w:uR Z' s h κ τ π a id n S L T T')(d:Kp [] Z Z'):uR Z s h κ τ π a id n S L T T':=⟨(d.mono (by simp):Kp (h::Lim.own τ π) Z Z').trans w.kp lk,λb e=>(w.own b e).imp (λhh=>hh) λhh=>rx d.nx hh,w.sh,w.le⟩
def rB.ig {b:Γ}{gen:Nat}{key:δ Γ}{w:δ Γ}(h:rB b gen L)(d:ey L (b::pK g key)=Φ w):w.length<=2000:=by
 rcases h.items _ (Ji d)with h|⟨j,m,i,f,v,_,_,l,a,e⟩|⟨j,k,_,_,_,e,a⟩
 .exact h.2
 .have:=congrArg Prod.fst e;simp[lK,pK,ia,b4]at this
 .exact a
def Ue {w:δ Γ}{o:υ (δ Γ)}(h:(Ch k w ol had o).1=Φ v):v=w\/o=Φ v:=by
 unfold Ch at h
 split at h
 .cases h
 .split at h
  .split at h
   .left;cases h;rfl
   .right;exact h
  .left;cases h;rfl
def MJ {b:Nat}{ty:TypeId}{g:Bool}{Aq0 a:δ K}(d:Z.m.g b=Φ (.cells Aq0 ty g))(l:Aq0.length=4)(j:a.length=4):bI 107 4 48 (.slice b 0 1 1 0) (Φ (1,a)) Z=.ok (.slice Z.nx 0 2 2 4) (O.new Z (.cells (Aq0++a) 107 θ)):=by
 have e:iv Aq0 0 (1*4)=Φ Aq0:=by unfold iv;rw[gq J,tu,lw J]
 unfold bI;dsimp only;rw[d];dsimp only;rw[e]
 rfl
set_option maxHeartbeats 1000000 in
def Vv (H:wD Z h κ τ π id n S L T)(hT:T<=800000000)(hL:L.length<=500){c i:Int}{key w:List UInt8}{o:Option (Nat×Bool×List UInt8)}(ho:0<=c->zJ L (UInt8.ofNat (8+n)) S.gen c.toNat o):
 Rq0 11 [.ptr h 0,I c,I i,.agg (yh k key w ol had)] Z (JP Z h κ τ π id n S L T (hE S n L o c i k key w ol had)):=by
 refine bE ?_;rw[w11,bz];refine⟨rfl,?_⟩;rw[aN];generalize lU:O.new Z (.cells (yh k key w ol had) 34 false)=s1;obtain⟨k1,g1,n1⟩:=dB lU;rw[bW,aP];generalize rA:O.new s1 (.cells [.int .u8 0,.bool false,.str []] 43 false)=s2;obtain⟨k2,g2,n2⟩:=dB rA;have K2:=k1.trans k2;have lV:=(k2.keep Z.nx J V).trans g1;have BP:=H.lts
 have z:∀(s:O) (r:List K) (e:Nat),Kp [] s2 s->r.length=3->bh r=true->hE S n L o c i k key w ol had=(r,e,[])->
  (E (aJ 3 (.ptr s1.nx 0) (.agg r) s) λ_ s3=>U (aF 3 (.ptr s1.nx 0) s3) λx5=>JP Z h κ τ π id n S L T (hE S n L o c i k key w ol had) (.tuple [x5,I e]) s3):=by
  intro s r e hk hr ln hw;have gs:=(hk.keep s1.nx J V).trans g2;have ns:=hk.nx;rw[aK,gs,aU,aN,db [.int .u8 0,.bool false,.str []] r hr];refine⟨⟨hr,ln,V⟩,?_⟩;rw[aG (n:=3) (ao _ _ _) hr,af,hw];exact⟨rfl,π,T,H.stay ((K2.trans hk).set _ (.inr J) J)⟩
 have hz:∀s,aR [.int .u8 0,.bool false,.str []] [] s=.ok (.agg (sN 0 false [])) s:=λs=>rfl;have f5:(tI κ id n S)[5]?=some (.int .u8 (S.phase:Nat)):=rfl;have f0:(tI κ id n S)[0]?=some (.ptr κ 0):=rfl;have f2:(tI κ id n S)[2]?=some (I ((8+n:Nat):Int)):=rfl;have ep:R .neq (some .int) true (.int .u8 (S.phase:Nat)) (.int .u8 2) s2=.ok (.bool (!decide (S.phase=2))) s2:=Kk
 have H2:=H.still K2;rw[cc,af,ag,B tW];unfold oE;simp only[rr,H2.at_.get,Nat.reduceAdd,f5,ep,ag]
 by_cases hp:S.phase=2
 rotate_left
 .rw[jo hp,ra,gq rfl,hz,af];exact z s2 _ 62 (Kp.refl _ _) rfl rfl (by unfold hE;rw[gq hp])
 rw[jp hp,r8,B tW,aG (n:=5) lV rfl,af];refine(Ot k key w ol had).mono ?_;rintro _ s3 ⟨rfl,k3⟩;have n3:=k3.nx;have ec:R .neq (some .int) true (I (th k key w ol)) (.int .i64 0) s3=.ok (.bool (!decide (th k key w ol=0))) s3:=Kk
 rw[ec,af,ag]
 by_cases P:th k key w ol=0
 rotate_left
 .rw[jo P,ra,gq rfl,hz,af];exact z s3 _ _ k3 rfl rfl (by unfold hE;rw[B afK,gq P])
 rw[jp P,r8,B tW];have mW:=(k3.keep Z.nx J V).trans lV;have l0:(yh k key w ol had)[0]?=some (.int .u8 (k:Nat)):=rfl;have l1:(yh k key w ol had)[1]?=some (.str key):=rfl;have ek:R .eql (some .int) true (.int .u8 (k:Nat)) (.int .u8 1) s3=.ok (.bool (decide (k=1))) s3:=CU
 unfold fl;rw[ah,af,av,mW,ak,l0,an,ek,af];have LY:k=1\/te c=false\/te i=false->hE S n L o c i k key w ol had=(sN 0 false [],1,[]):=λhh=>by unfold hE;rw[B afK,B (by simpa using P),gq hh]
 by_cases qA:k=1
 .simp only[jp qA,ii,xk,gP,ix,hz];exact z s3 _ 1 k3 rfl rfl (LY (.inl qA))
 simp only[jo qA,aD,yU,ii,tw,dH];refine(yG c).same ?_;cases BY:te c with
 |false=>
  simp only[bZ,ra,ii,xk,gP,ix,hz];exact z s3 _ 1 k3 rfl rfl (LY (.inr (.inl BY)))
 |true=>
 simp only[Gz,ii,DI,dH];refine(yG i).same ?_;cases tK:te i with
 |false=>
  simp only[bZ,ra,aC,ii,ix,ll,hz];exact z s3 _ 1 k3 rfl rfl (LY (.inr (.inr tK)))
 |true=>
 simp only[Gz,aC,ii,ll];have Dp:0<=c/\c<=2147483647:=by simpa[te]using BY
 have lA:0<=i/\i<=2147483647:=by simpa[te]using tK
 have Kf:=ho Dp.1;obtain⟨c,rfl⟩:∃m:Nat,c=(m:Int):=⟨c.toNat,J⟩;obtain⟨i,rfl⟩:∃m:Nat,i=(m:Int):=⟨i.toNat,J⟩;rw[û]at Kf;have H3:=H2.still k3;refine(WH H3 (c:=c) (show c<=2147483647 from J) Kf).mono ?_;rintro _ s4 ⟨k4,x,rfl,hx⟩;have n4:=k4.nx;have a1:R .neq (some .int) true (I 0) (.int .i64 0) s4=.ok (.bool false) s4:=rfl;simp only[a1,zY,ii];refine(aba hx (i:Int)).mono ?_;rintro _ u ⟨rfl,k5⟩;have n5:=k5.nx;have be:=(k3.trans k4).trans k5
 have lP:(nY o (i:Int)).1.length=3/\bh (nY o (i:Int)).1=true:=by
  unfold nY;cases o with
  |none=>exact⟨rfl,rfl⟩
  |some p=>
   obtain⟨a,f,v⟩:=p;dsimp only
   split
   .exact⟨rfl,rfl⟩
   .split<;>exact⟨rfl,rfl⟩
 rw[aE,af,aL,aE,af];refine gW rfl lP.1 lP.2 ?_;generalize aH:O.new u (.cells (nY o (i:Int)).1 43 false)=s7;obtain⟨k7,g7,n7⟩:=dB aH;have D:=be.trans k7;have e5:R .neq (some .int) true (I (nY o (i:Int)).2) (.int .i64 5) s7=.ok (.bool (!decide ((nY o (i:Int)).2=5))) s7:=Kk
 rw[e5,af,ag]
 have G0:hE S n L o c i k key w ol had=if (nY o (i:Int)).2≠5 then ((nY o (i:Int)).1,(nY o (i:Int)).2,[])else (sN 1 (Ch k w ol had (ey L (UInt8.ofNat (8+n)::pK S.gen key))).2 [],0,oZ n S.gen c i (Ch k w ol had (ey L (UInt8.ofNat (8+n)::pK S.gen key))).2 []::(match (Ch k w ol had (ey L (UInt8.ofNat (8+n)::pK S.gen key))).1 with|some v=>[vU n S.gen key v]|none=>if (ey L (UInt8.ofNat (8+n)::pK S.gen key)).isSome=true then [rX n S.gen key]else [])):=by
  unfold hE;rw[B afK,B (by simpa using P),B (by simp[qA,BY,tK])];simp only[û]
 by_cases h5:(nY o (i:Int)).2=5
 rotate_left
 .rw[jo h5,ra,gq rfl,aG (n:=3) g7 lP.1,af];exact z s7 _ _ D lP.1 lP.2 (by rw[G0,gq h5])
 rw[jp h5,r8,B tW];rw[B aeq]at G0;have bm:=K2.trans D;have H7:=H2.still D
 have Dn:key≠[]/\key.length<=32/\w.length<=2000/\1<=k/\k<=4:=by
  unfold th at P
  split at P
  .cases P
  .split at P
   .cases P
   .rename_i a b;simp only[rt]at a b;exact⟨b.1,J,J,J,J⟩
 have BS:=TK.2 Dn.1;have yW:=((D.keep Z.nx J V).trans lV);have aS:=((D.keep s1.nx J V).trans g2);rw[ah,af,av,yW,ak,oa,l1,an];refine(Z9 H7 key).mono ?_;rintro _ s8 ⟨k8,rfl⟩;have n8:=k8.nx;rw[B afK,B J];have a0:R .neq (some .int) true (I 0) (.int .i64 0) s8=.ok (.bool false) s8:=rfl;simp only[a0,zY,ii];generalize vZ:ey L (UInt8.ofNat (8+n)::pK S.gen key)=cur at*;have Vo:=(k8.keep Z.nx J V).trans yW;have bj:=(k8.keep s1.nx J V).trans aS;have aQ:=(k8.keep u.nx J V).trans g7;refine iO (λvs s9=>∃x,vs=[.ptr h 0,I c,I i,.ptr Z.nx 0,.ptr s1.nx 0,.ptr u.nx 0,.bool cur.isSome,x]/\Kp [] s8 s9/\xv s9 x key cur) ?_ ?_
 .intro Kq0 C;cases Y:cur with
  |none=>
   simp only[Y,Ov,pi,ii];rw[Y]at C;exact C _ _ ⟨_,rfl,Kp.refl _ _,rfl⟩
  |some v=>
   have aw:(yh k key w ol had)[1]?=some (.str key):=rfl;simp only[Y,Zd,ix,ly,Vo,aw,Jd];have hb:aR [.str [],.str []] [(0,1,.str key),(1,1,.str v)] s8=.ok (.agg (bR (key,v))) s8:=rfl;rw[hb,af,mO (k:=2) rfl rfl rfl,aP,aN];generalize az:O.new s8 (.cells (bR (key,v)) 96 false)=s9;obtain⟨k9,g9,n9⟩:=dB az;rw[Y]at C;exact C _ _ ⟨_,rfl,k9,.inr ⟨s8.nx,0,1,1,0,rfl,rfl,⟨hI _,.inl rfl⟩,.inr ⟨V,J,_,_,_,g9,ZA,rfl⟩⟩⟩
 .rintro vs s9 ⟨x,rfl,k9,ax⟩;have n9:=k9.nx;have Ki:=(k9.keep Z.nx J V).trans Vo;have aM:=(k9.keep u.nx J V).trans aQ;simp only[ke];rw[aG (n:=5) Ki rfl,af];refine(axC ax P ⟨J,J⟩).mono ?_;rintro _ M ⟨qP,nw,rfl,Qv⟩;generalize hd:Ch k w ol had cur=d at*;have Po:=qP.nx;have a4:=(qP.keep u.nx J V).trans aM;have aj:∀s,R .neq (some .int) true (I 0) (.int .i64 0) s=.ok (.bool false) s:=λs=>rfl;simp only[u6];have aq:u.nx<M.nx:=by omega
  rw[aK,a4,aU,aN,db (nY o (i:Int)).1 (sN 1 d.2 []) (by rw[lP.1];rfl)];refine⟨⟨rfl,rfl,by rw[lP.1];omega⟩,?_⟩;generalize BI:O.set M u.nx (.cells (sN 1 d.2 []) 43 false)=eo;have ai:eo.m.g u.nx=some (.cells (sN 1 d.2 []) 43 false):=by rw[<-BI];exact ao _ _ _
  have pG:Kp [u.nx] M eo:=by rw[<-BI];exact(Kp.refl _ M).set _ (.inl V) aq
  have LI:eo.nx=M.nx:=by rw[<-BI];rfl
  have ae:=(((D.trans k8).trans k9).trans qP).trans pG λq hq=>.inr abf;have al:=H2.still ae
  have Xk:Æ eo [] nw key d.1:=by
   have Qv:=Qv [u.nx] xI;unfold Æ at*;cases G:d.1 with
   |none=>rw[G]at Qv;exact Qv
   |some v=>rw[G]at Qv;exact(Qv.mono pG).fc V
  rw[aj,af,ag,B tW,aG (n:=3) ai rfl,af];have AJ:aR [.int .i64 0,.int .i64 0,.int .u8 0,.bool false,.str []] [(0,1,I c),(1,1,I i),(2,3,.agg (sN 1 d.2 []))] eo=.ok (.agg (ik c i d.2 [])) eo:=rfl;rw[AJ,af];refine(Sf al.fr al.at_ (c:=c) (i:=i) (f:=d.2) (v:=[]) (show i<=2147483647 from J) V).mono ?_;rintro _ cH ⟨rfl,oR⟩;have Nl:=oR.nx;rw[mO (k:=4) rfl rfl rfl,aP,aN];generalize a8:O.new cH (.cells (jj (oZ n S.gen c i d.2 [])) 107 false)=j;obtain⟨rl,Jk,bi⟩:=dB a8;have aa:=(ae.trans oR).trans rl;have N:=H2.still aa
  have Zs:Æ j [] nw key d.1:=by
   unfold Æ at*;cases G:d.1 with
   |none=>rw[G]at Xk;exact Xk
   |some v=>rw[G]at Xk;exact Xk.mono ((oR.trans rl).mono V)
  have a5:=((oR.trans rl).keep u.nx J V).trans ai;refine iO (λvs ew=>∃v,vs=[.ptr h 0,.ptr s1.nx 0,.ptr u.nx 0,v]/\Kp [] j ew/\Sl ew (own τ π) v 4 (pJ (hE S n L o c i k key w ol had).2.2)) ?_ ?_
  .intro Kq0 C;have hW:(hE S n L o c i k key w ol had).2.2=oZ n S.gen c i d.2 []::(match d.1 with|some v=>[vU n S.gen key v]|none=>if cur.isSome=true then [rX n S.gen key]else []):=by rw[G0]
   rw[hW]at C;have eg:∀m:Nat,R .gtr none true (I m) (.int .i64 0) j=.ok (.bool (decide (0<m))) j:=λm=>yZ
   have SU:∀q,q∈own τ π->q<Z.nx:=λq hq=>BP q QU;cases G:d.1 with
   |some v=>
    rw[G]at C;have Zr:Sl j [] nw 2 ([bR (key,v)]:List (List K)).flatten:=by have:=Zs;rw[G]at this;exact this
    rw[Zr.len 1 rfl J j,af,eg,af,ag,jp J,gq rfl];refine Zr.fj (i:=0) J ZA V _ ?_;rw[List.getElem_cons_zero];refine(Yz N.fr N.at_ (k:=key) (v:=v) J).mono ?_;rintro _ ew ⟨rfl,Q⟩;have YH:=Q.nx;rw[mO (k:=4) rfl rfl rfl,aP,aN];generalize a9:O.new ew (.cells (jj (vU n S.gen key v)) 107 false)=y;obtain⟨lH,XN,ad⟩:=dB a9;have bb:Sl y [] (.slice ew.nx 0 1 1 0) 4 (jj (vU n S.gen key v)):=.inr ⟨ew.nx,0,1,1,0,rfl,rfl,⟨hI _,.inl rfl⟩,.inr ⟨V,J,_,_,_,XN,by simp[jj],rfl⟩⟩;obtain⟨m,hm,vY⟩:=bb.src [.int .i64 0,.str [],.str [],.bool false];have Dk:m=1:=by simp[jj]at hm;omega
    subst Dk;have bc:=((Q.trans lH).keep cH.nx J V).trans Jk;rw[vY,MJ bc rfl rfl,aP];generalize ac:O.new y (.cells (jj (oZ n S.gen c i d.2 [])++jj (vU n S.gen key v)) 107 true)=dt;obtain⟨tP,Jj,ar⟩:=dB ac;exact C _ _ ⟨_,rfl,(Q.trans lH).trans tP,.inr ⟨y.nx,0,2,2,4,rfl,rfl,⟨hI _,.inr rfl⟩,.inr ⟨λhh=>afR,J,_,_,_,Jj,by simp[jj],rfl⟩⟩⟩
   |none=>
    rw[G]at C;have Gq:∀s,aY .slice nw s=.ok (I 0) s:=by have:=Zs;rw[G]at this;exact this
    have aW:R .gtr none true (I 0) (.int .i64 0) j=.ok (.bool false) j:=rfl;rw[Gq,af,aW,af,ag,B tW]
    have ap:Kq0 [.ptr h 0,.ptr s1.nx 0,.ptr u.nx 0,.slice cH.nx 0 1 1 0] j\/cur.isSome=true:=by
     by_cases W:cur.isSome=true
     .exact .inr W
     .left;rw[B W]at C;exact C _ _ ⟨_,rfl,Kp.refl _ _,.inr ⟨cH.nx,0,1,1,0,rfl,rfl,⟨hI _,.inl rfl⟩,.inr ⟨λhh=>afR,J,_,_,_,Jk,by simp[jj],rfl⟩⟩⟩
    by_cases W:cur.isSome=true
    .rw[ag,W,gq rfl];rw[gq W]at C;have gX:(O.skip j).m.g j.nx=none:=N.fr _ (hI _);have Q:=(Kp.refl [] j).skip;have YH:(O.skip j).nx=j.nx+1:=rfl;have F:=N.still Q;have bl:(O.skip j).m.g cH.nx=_:=Jk;have a2:(O.skip j).m.g Z.nx=_:=((aa.keep Z.nx J V).trans lV);rw[aZ];generalize O.skip j=ew at*;simp only[rr,F.at_.get,a2,f2,l1];refine(Lu F.fr F.at_ (k:=key) J).mono ?_;rintro _ y ⟨rfl,lH⟩;have ad:=lH.nx;have aI:aR [.int .i64 0,.str [],.str [],.bool false] [(0,1,I ((8+n:Nat):Int)),(1,1,.str (pK S.gen key)),(3,1,.bool true)] y=.ok (.agg (jj (rX n S.gen key))) y:=rfl;rw[aI,af,fY ((lH.keep j.nx J V).trans gX) (pH (k:=4) rfl rfl rfl),aP];have tP:Kp [] j (O.set y j.nx (.cells (K.agg (jj (rX n S.gen key))).bY 107 false)):=(Q.trans lH).set _ (.inr (hI _)) J;have Jj:(O.set y j.nx (.cells (K.agg (jj (rX n S.gen key))).bY 107 false)).m.g j.nx=some (.cells (jj (rX n S.gen key)) 107 false):=ao _ _ _;have ar:(O.set y j.nx (.cells (K.agg (jj (rX n S.gen key))).bY 107 false)).nx=y.nx:=rfl;generalize O.set y j.nx (.cells (K.agg (jj (rX n S.gen key))).bY 107 false)=dt at*;have VV:Sl dt [] (.slice j.nx 0 1 1 0) 4 (jj (rX n S.gen key)):=.inr ⟨j.nx,0,1,1,0,rfl,rfl,⟨hI _,.inl rfl⟩,.inr ⟨V,J,_,_,_,Jj,by simp[jj],rfl⟩⟩;obtain⟨m,hm,vY⟩:=VV.src [.int .i64 0,.str [],.str [],.bool false];have Dk:m=1:=by simp[jj]at hm;omega
     subst Dk;have bd:=(tP.keep cH.nx J V).trans Jk;rw[vY,MJ bd rfl rfl,aP];have bf:=N.still tP;simp only[bf.at_.get,lW,f2,sE,and_true];generalize ba:O.new dt (.cells (jj (oZ n S.gen c i d.2 [])++jj (rX n S.gen key)) 107 true)=dA;obtain⟨zn,yW,bg⟩:=dB ba;exact C _ _ ⟨_,rfl,tP.trans zn,.inr ⟨dt.nx,0,2,2,4,rfl,rfl,⟨hI _,.inr rfl⟩,.inr ⟨λhh=>afR,J,_,_,_,yW,by simp[jj],rfl⟩⟩⟩
    .rw[ag,B W];exact ap.resolve_right W
  .rintro vs ew ⟨v,rfl,Q,hv⟩;have YH:=Q.nx;simp only[ke];have ab:=aa.trans Q;have F:=H2.still ab;have a6:=(Q.keep u.nx J V).trans a5;unfold fP;rw[bk,af,ah,af,av,F.at_.get,ak,oa,f0,an]
   have tF:(∀ch∈(hE S n L o c i k key w ol had).2.2,QH (UInt8.ofNat (8+n)) S.gen ch)/\(hE S n L o c i k key w ol had).2.2.length<=5:=by
    have h1:QH (UInt8.ofNat (8+n)) S.gen (oZ n S.gen c i d.2 []):=YG H.nb (show c<=2147483647 from J) (show i<=2147483647 from J) V;rw[G0];cases G:d.1 with
    |some v=>
     have ay:v.length<=2000:=by
      rcases Ue (show(Ch k w ol had cur).1=some v by rw[hd];exact G)with rfl|e
      .omega
      .exact H.l.ig (vZ.trans e)
     refine⟨λch QB=>?_,V⟩;simp only[ip,wn,PP]at QB;rcases QB with rfl|rfl
     .exact h1
     .exact ahv H.nb ⟨J,J⟩ ay
    |none=>
     by_cases W:cur.isSome=true
     .simp only[W,ix];refine⟨λch QB=>?_,V⟩;simp only[ip,wn,PP]at QB;rcases QB with rfl|rfl
      .exact h1
      .exact akR H.nb J
     .rw[B W];refine⟨λch QB=>?_,V⟩;simp only[ip,wn,PP]at QB;rw[QB];exact h1
   refine(F.apply hT hL hv tF.1 tF.2).mono ?_;rintro _ y ⟨rfl,am,T',kf,wt⟩;have ad:=kf.nx;have qz:∀q,Z.nx<=q->q∉own τ π:=λq hq hh=>by have:=BP q É;omega
   have a7:=(kf.keep u.nx J (qz _ J)).trans a6;have a3:=(kf.keep s1.nx J (qz _ J)).trans ((ab.keep s1.nx J V).trans g2);rw[aj,af,ag,B tW,aG (n:=3) a7 rfl,af,aK,a3,aU,aN,db [.int .u8 0,.bool false,.str []] (sN 1 d.2 []) rfl];refine⟨⟨rfl,rfl,V⟩,?_⟩;rw[aG (n:=3) (ao _ _ _) rfl,af];generalize ac:O.set y s1.nx (.cells (sN 1 d.2 []) 43 false)=dt;have tP:Kp [s1.nx] y dt:=by rw[<-ac];exact(Kp.refl _ y).set _ (.inl V) J
   refine⟨by rw[G0];rfl,am,T',?_⟩;have w1:=wt.pre (K2.trans ab);refine⟨w1.kp.trans tP λq hq=>.inr abf,w1.own,w1.sh.off tP λb hb hh=>?_,w1.le⟩;have CP:b=s1.nx:=by simpa using hh
   have:=H.at_.lt;have:=H.eI;simp only[ip]at hb;rcases hb with hb|hb|hb
   .omega
   .omega
   .rcases wt.own b hb with h1|h1
    .have:=BP b à;omega
    .omega
end
end
section
variable {Z Z' s:O} {h κ τ id n T:Nat} {π:PI} {S S':mV} {L L':δ aT}
def mB (x:Int):Bool:=decide (0<=x/\x<=5)
def Lc (p q r:Int):Bool:=te p&&(mB q&&(mB r&&(!(decide (r≠0)&&decide (r=q))&&if q=0 then decide (p=0)&&decide (r=0)else decide (0<p))))
def ahN (x:Int):Rq0 74 [I x] Z λy s=>y=.bool (mB x)/\s=Z:=by
 refine bE ?_;rw[w74,au,rM,af];unfold mB
 by_cases h:0<=x
 .rw[jp h];simp only[ix,aW,af,au,jt,AC];exact⟨QO,gt⟩
 .rw[jo h];simp only[NE,ii,bA];exact⟨QO,gt⟩
def alz (x:Int)(Q:K->O->Prop)(a:Q (.bool (mB x)) Z):eJ Rq0 (.func (.func 74) [] []) [I x] Z Q:=by
 rw[dv];simp only[ow,ut];exact(ahN x).same a
def CK (p q r:Int):δ K:=[I p,I q,I r]
def ahO (p q r:Int):Rq0 34 [.agg (CK p q r)] Z λy s=>y=.bool (Lc p q r)/\Kp [] Z s:=by
 refine bE ?_;rw[w34,bz];refine⟨rfl,?_⟩;rw[aN];generalize D:O.new Z (Ü (CK p q r))=s1;obtain⟨F,d,n1⟩:=dB D;have w:(CK p q r)[0]?=Φ (I p):=rfl;have l1:(CK p q r)[1]?=Φ (I q):=rfl;have l2:(CK p q r)[2]?=Φ (I r):=rfl;unfold fl gG;simp only[ly,d,w];refine(yG p).same ?_;have c:∀b:Bool,Lc p q r=b->(K.bool b=K.bool (Lc p q r)/\Kp [] Z s1):=λb e=>⟨NL,F⟩;have X:∀x:Int,R .neq ψ θ (I x) μ s1=.ok (.bool (!decide (x=0))) s1:=λx=>by rw[au,dJ]
 have C:∀(b:Bool) (x y:Int),R .eql ψ b (I x) (I y) s1=.ok (.bool (decide (x=y))) s1:=λb x y=>by rw[au,cn]
 have o:∀x:Int,R .eql ψ θ (I x) μ s1=.ok (.bool (decide (x=0))) s1:=λx=>C θ x 0;have Y:∀x:Int,R .gtr ν θ (I x) μ s1=.ok (.bool (decide (0<x))) s1:=λx=>by rw[au,cQ]
 cases h0:te p with
 |false=>
  simp only[bZ,ra,ii,ix,xk,gP];exact c _ (by unfold Lc;rw[h0];rfl)
 |true=>
 simp only[Gz,ii,DI,dH,av,d,lW,l1];refine alz q _ ?_;cases h1:mB q with
 |false=>
  simp only[bZ,ra,ii,ix,xk,gP];exact c _ (by unfold Lc;rw[h0,h1];rfl)
 |true=>
 simp only[Gz,ii,DI,dH,av,d,lW,l2];refine alz r _ ?_;cases h2:mB r with
 |false=>
  simp only[bZ,ra,ii,ix,xk,gP];exact c _ (by unfold Lc;rw[h0,h1,h2];rfl)
 |true=>
 simp only[Gz,ii,DI,dH,av,d,lW,l2,X];have v:Lc p q r=(!(decide (r≠0)&&decide (r=q))&&if q=0 then decide (p=0)&&decide (r=0)else decide (0<p)):=by unfold Lc;rw[h0,h1,h2];rfl
 have f:(Lc p q r=if q=0 then decide (p=0)&&decide (r=0)else decide (0<p))->(U (R .eql ψ θ (I q) μ s1) λQ=>aA Q (Nh (s1.m.g Z.nx) λl=>YF l[0]? λW=>U (R .eql ψ θ W μ s1) λk=>U (kx (bj θ k) s1 (.ok (.ptr Z.nx 2) s1)) λa=>U (kx (bj θ k) s1 (aw a s1)) λN=>U (kx (bj θ k) s1 (R .eql ψ θ N μ s1)) λH=>U (bg k H Θ s1) λP=>P=.bool (Lc p q r)/\Kp [] Z s1) (Nh (s1.m.g Z.nx) λl=>YF l[0]? λM=>U (R .gtr ν θ M μ s1) λG=>G=.bool (Lc p q r)/\Kp [] Z s1)):=λe=>by
  simp only[o,rb,d,w,ag]
  by_cases j:q=0
  .rw[gq j]at e;rw[jp j,gq rfl]
   by_cases z:p=0
   .rw[jp z]at e⊢;simp only[ix,aW,rb,av,d,l2,o,AC];exact c _ (by rw[e,S5])
   .rw[jo z]at e⊢;simp only[NE,ii,bA];exact c _ (by rw[e,Bool.false_and])
  .rw[B j]at e;rw[jo j,B tW,Y,af];exact c _ e
 by_cases i:r=0
 .rw[jp i];have t:=f (by rw[v,jo (by simp[i]),Bool.false_and,ra,S5]);simp only[ii,ix,xk,l1,d,lW,o]at t⊢;exact t
 .rw[jo i];simp only[tw,ix,rb,av,d,l1,l2,C,AC,ag]
  by_cases u:r=q
  .rw[jp u];simp only[ix];exact c _ (by rw[v,jp (by simpa using i),jp u];rfl)
  .rw[jo u];have t:=f (by rw[v,jo u,Bool.and_false,ra,S5]);simp only[ii,ll,d,ak,o]at t⊢;exact t
def oq (S:mV)(id:Nat)(q r:Int):Nat×Bool:=
 if (id:Int)=r then (4,φ)else if (id:Int)=q then
  let np:=if r=0 then 2 else 3
  if S.phase=2\/S.phase=3\/S.phase=5 then (np,θ)else if S.phase=1/\S.jw=0 then (np,φ)else (1,φ)
 else (1,φ)
def abF (G:xr Z h κ id n S)(p q r:Int):Rq0 35 [.ptr h 0,.agg (CK p q r)] Z λy s=>y=.tuple [.int .u8 ((oq S id q r).1:Nat),.bool (oq S id q r).2]/\Kp [] Z s:=by
 refine bE ?_;rw[w35,bz];refine⟨rfl,?_⟩;rw[aN];generalize F:O.new Z (Ü (CK p q r))=s1;obtain⟨z,H,Y⟩:=dB F;have D:=G.still z;have l1:(CK p q r)[1]?=Φ (I q):=rfl;have l2:(CK p q r)[2]?=Φ (I r):=rfl;have P:(tI κ id n S)[1]?=Φ (I id):=rfl;have N:(tI κ id n S)[3]?=Φ (I S.jw):=rfl;have M:(tI κ id n S)[5]?=Φ (.int .u8 (S.phase:Nat)):=rfl;have C:∀(b:Bool) (x y:Int),R .eql ψ b (I x) (I y) s1=.ok (.bool (decide (x=y))) s1:=λb x y=>by rw[au,cn]
 have X:∀x:Int,R .eql ψ θ (I x) μ s1=.ok (.bool (decide (x=0))) s1:=λx=>C θ x 0;have W:∀x:Int,R .neq ψ θ (I x) μ s1=.ok (.bool (!decide (x=0))) s1:=λx=>by rw[au,dJ]
 have Q:∀m:Nat,R .eql ψ θ (.int .u8 (S.phase:Nat)) (.int .u8 (m:Nat)) s1=.ok (.bool (decide (S.phase=m))) s1:=λm=>CU
 have c:∀(a:Nat) (b:Bool),oq S id q r=(a,b)->(K.tuple [.int .u8 (a:Nat),.bool b]=K.tuple [.int .u8 ((oq S id q r).1:Nat),.bool (oq S id q r).2]/\Kp [] Z s1):=λa b e=>⟨NL,z⟩;unfold fl fP oE;simp only[rr,D.get,H,Nat.reduceAdd,P,l1,l2,C,W,ag]
 by_cases f:(id:Int)=r
 .rw[jp f,gq rfl];exact c 4 φ (by unfold oq;rw[gq f])
 rw[jo f,B tW]
 by_cases g:(id:Int)=q
 rotate_left
 .rw[jo g,B tW];exact c 1 φ (by unfold oq;rw[B f,B g])
 rw[jp g,gq rfl];refine iO (λw s=>w=[.ptr h 0,.int .u8 ((if r=0 then 2 else 3:Nat):Nat)]/\s=s1) ?_ ?_
 .intro Kq0 i
  by_cases k:r=0
  .rw[gq k]at i;rw[jp k,r8,B tW];exact i _ _ ⟨rfl,rfl⟩
  .rw[B k]at i;rw[jo k,ra,gq rfl];exact i _ _ ⟨rfl,rfl⟩
 .rintro w s ⟨rfl,rfl⟩;have d:oq S id q r=if S.phase=2\/S.phase=3\/S.phase=5 then ((if r=0 then 2 else 3:Nat),θ)else if S.phase=1/\S.jw=0 then ((if r=0 then 2 else 3:Nat),φ)else (1,φ):=by unfold oq;rw[B f,gq g]
  simp only[ke,rr,D.get,Nat.reduceAdd,N,M];rw[bU];rw[show K.int .u8 1=.int .u8 ((1:Nat):Int)from rfl,show K.int .u8 3=.int .u8 ((3:Nat):Int)from rfl,show K.int .u8 5=.int .u8 ((5:Nat):Int)from rfl,show K.int .u8 2=.int .u8 ((2:Nat):Int)from rfl];simp only[Q,DJ]
  by_cases v:S.phase=2
  .rw[jp v,gq rfl];exact c _ θ (by rw[d,gq (.inl v)])
  rw[jo v,B tW]
  by_cases u:S.phase=3
  .rw[jp u,gq rfl];exact c _ θ (by rw[d,gq (.inr (.inl u))])
  rw[jo u,B tW]
  by_cases o:S.phase=5
  .rw[jp o,gq rfl];exact c _ θ (by rw[d,gq (.inr (.inr o))])
  rw[jo o,B tW];rw[B J]at d
  by_cases j:S.phase=1
  .rw[jp j,gq rfl,X,af,ag]
   by_cases l:(S.jw:Int)=0
   .rw[jp l,gq rfl];exact c _ φ (by rw[d,gq ⟨j,J⟩])
   .rw[jo l,B tW];exact c 1 φ (by rw[d,B (λhh=>l J)])
  .rw[jo j,B tW];exact c 1 φ (by rw[d,B (λhh=>j hh.1)])
end
