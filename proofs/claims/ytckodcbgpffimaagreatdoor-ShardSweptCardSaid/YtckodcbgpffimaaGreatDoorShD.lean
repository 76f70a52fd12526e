import Derived.Test.YtckodcbgpffimaaGreatDoorShC
namespace Lim
open Go
noncomputable section
set_option linter.defProp false
set_option maxRecDepth 100000
section
variable {X:δ Nat}{v:K}{Y:δ Nat}
section
variable {Z Z' s s':O} {a b:K}
def WJ (p:Nat×Nat×Nat×Bool×δ Γ)(s:O):R .neq (Φ (.struct (.cons 0 1 φ .int (.cons 1 1 φ .int (.cons 2 3 θ (.struct (.cons 0 1 φ .int (.cons 1 1 φ .bool (.cons 2 1 φ .str .nil)))) .nil))))) φ (.agg (LK p)) (.agg (LK p)) s=.ok Θ s:=by
 rw[pB]
 have:mN (.struct (.cons 0 1 φ .int (.cons 1 1 φ .int (.cons 2 3 θ (.struct (.cons 0 1 φ .int (.cons 1 1 φ .bool (.cons 2 1 φ .str .nil)))) .nil)))) (.agg (LK p)) (.agg (LK p))=Φ θ:=by
  unfold LK;have i:fR φ 0 1 (ik p.2.1 p.2.2.1 p.2.2.2.1 p.2.2.2.2)=Φ (I p.2.1):=rfl;have g:fR φ 1 1 (ik p.2.1 p.2.2.1 p.2.2.2.1 p.2.2.2.2)=Φ (I p.2.2.1):=rfl;have f:fR θ 2 3 (ik p.2.1 p.2.2.1 p.2.2.2.1 p.2.2.2.2)=Φ (.agg [.int .u8 1,.bool p.2.2.2.1,.str p.2.2.2.2]):=rfl;have e:fR φ 0 1 [.int .u8 1,.bool p.2.2.2.1,.str p.2.2.2.2]=Φ (.int .u8 1):=rfl;have d:fR φ 1 1 [.int .u8 1,.bool p.2.2.2.1,.str p.2.2.2.2]=Φ (.bool p.2.2.2.1):=rfl;have c:fR φ 2 1 [.int .u8 1,.bool p.2.2.2.1,.str p.2.2.2.2]=Φ (.str p.2.2.2.2):=rfl;simp[mN,zE,andThen,i,g,f,e,d,c]
 rw[this];rfl
def Vz (S:mV)(s:O):R .neq (Φ (.struct (.cons 0 1 φ .int (.cons 1 1 φ .int (.cons 2 1 φ .int (.cons 3 3 θ (.struct (.cons 0 1 φ .int (.cons 1 1 φ .int (.cons 2 1 φ .int .nil)))) .nil)))))) φ (.agg (fM S)) (.agg (fM S)) s=.ok Θ s:=by
 rw[pB]
 have:mN (.struct (.cons 0 1 φ .int (.cons 1 1 φ .int (.cons 2 1 φ .int (.cons 3 3 θ (.struct (.cons 0 1 φ .int (.cons 1 1 φ .int (.cons 2 1 φ .int .nil)))) .nil))))) (.agg (fM S)) (.agg (fM S))=Φ θ:=by
  have j:fR φ 0 1 (fM S)=Φ (I S.jw):=rfl;have i:fR φ 1 1 (fM S)=Φ (I S.part):=rfl;have g:fR φ 2 1 (fM S)=Φ (.int .u8 (S.phase:Nat)):=rfl;have f:fR θ 3 3 (fM S)=Φ (.agg [I S.jw,I S.own,I S.to]):=rfl;have e:fR φ 0 1 [I S.jw,I S.own,I S.to]=Φ (I S.jw):=rfl;have d:fR φ 1 1 [I S.jw,I S.own,I S.to]=Φ (I S.own):=rfl;have c:fR φ 2 1 [I S.jw,I S.own,I S.to]=Φ (I S.to):=rfl;simp[mN,zE,andThen,j,i,g,f,e,d,c]
 rw[this];rfl
def Sl.ahP {l:δ (Nat×Nat×Nat×Bool×δ Γ)}(c:Sl Z X v 5 (uu l)){i:Nat}(hi:i<l.length)(Kq0:K->Prop)(hK:Kq0 (.agg (LK l[i]))):Lim.fj 5 5 v (I i) Z Kq0:=
 Sl.fj (L:=l.map LK) c J (Sm l) J9 _ adm
def Sl.Np {l:δ (Nat×Nat×Nat×Bool×δ Γ)}(c:Sl Z X v 5 (uu l))(s:O):aY .slice v s=.ok (I l.length) s:=c.len l.length (by unfold uu;rw[dU (Sm l)];simp) J s
def abe {P:δ aT}(d:Sl Z X a 2 (cT P))(f:Sl Z Y b 2 (cT P))(k:P.length<=1000000):Rq0 17 [a,b] Z λy s=>y=.bool θ/\s=Z:=by
 refine bE ?_;have g:R .neq ψ φ (I P.length) (I P.length) Z=.ok Θ Z:=by rw[au,dJ];simp
 rw[w17,d.ig,af,f.ig,af,g,af,ag,B tW,bU];simp only[ke];refine bD (λfu e s=>∃i,fu+i=P.length/\i<=P.length/\e=[a,b,I i]/\s=Z) ?_ (n:=P.length) ⟨0,rfl,sw _,rfl,rfl⟩;rintro fu e s j ⟨i,l,hi,rfl,rfl⟩ next;simp only[ke];rw[d.ig,af,dd,af,ag]
 by_cases c:i<P.length
 .rw[jp c,gq rfl,aZ];refine Sl.uk d c _ ?_;refine Sl.uk f c _ ?_;rw[Wh,af];refine⟨⟨gt,gt,gt⟩,gt,?_⟩;rw[ag,B tW,fV i J,af];exact next (fu-1) _ _ J ⟨i+1,J,J,rfl,rfl⟩
 .rw[jo c,B tW];exact⟨gt,gt⟩
def abd {l:δ (Nat×Nat×Nat×Bool×δ Γ)}(d:Sl Z X a 5 (uu l))(f:Sl Z Y b 5 (uu l))(k:l.length<=1000000):Rq0 18 [a,b] Z λy s=>y=.bool θ/\s=Z:=by
 refine bE ?_;have g:R .neq ψ φ (I l.length) (I l.length) Z=.ok Θ Z:=by rw[au,dJ];simp
 rw[w18,d.Np,af,f.Np,af,g,af,ag,B tW,bU];simp only[ke];refine bD (λfu e s=>∃i,fu+i=l.length/\i<=l.length/\e=[a,b,I i]/\s=Z) ?_ (n:=l.length) ⟨0,rfl,sw _,rfl,rfl⟩;rintro fu e s j ⟨i,m,hi,rfl,rfl⟩ next;simp only[ke];rw[d.Np,af,dd,af,ag]
 by_cases c:i<l.length
 .rw[jp c,gq rfl,aZ];refine Sl.ahP d c _ ?_;refine Sl.ahP f c _ ?_;rw[WJ,af];refine⟨⟨gt,gt,gt⟩,gt,?_⟩;rw[ag,B tW,fV i J,af];exact next (fu-1) _ _ J ⟨i+1,J,J,rfl,rfl⟩
 .rw[jo c,B tW];exact⟨gt,gt⟩
def S0:mV:=⟨0,0,1,0,0,0⟩
def aeg (p:dV Z){id n:Nat}(hi:1<=id/\id<=5)(C:n<=3):Rq0 9 [I id,I n] Z λy s=>∃a d τ π h,y=.tuple [.ptr a 0,.ptr d 0,.ptr h 0]/\Kp [] Z s/\wD s h d τ π id n S0 [] 0/\∀q∈h::d::own τ π,Z.nx<=q:=by
 refine bE ?_;rw[w9];refine(show Rq0 32 [I 6000] Z _ from abG (n:=6000) J J).mono ?_;rintro _ G ⟨i,a,F,rfl,r,u⟩;have n1:=i.nx;have l:∀s,R .neq ψ θ μ μ s=.ok Θ s:=λs=>rfl;rw[aE,af,aL,aE,af,l,af,ag,B tW];refine(Un (n:=6000) J J r (i.fresh p) r.lt).mono ?_;rintro _ s2 ⟨d,τ,π,rfl,H,m,x,f,z⟩;have n2:=m.nx;have w:=i.trans m λq c=>.inr (u q c);rw[aE,af,aL,aE,af,l,af,ag,B tW];refine(VW (id:=(id:Int)) (n:=n) f.at' J J).mono ?_;rintro _ D ⟨h,rfl,g,o,hh⟩;rw[aE,af,aL,aE,af,l,af,ag,B tW]
 have j:∀q∈d::own τ π,q<s2.nx:=λq c=>by
  rcases ip.1 c with e|c
  .rw[e];exact f.2.2.1
  .exact f.1.t2.Bn q c
 refine⟨a,d,τ,π,h,rfl,w.trans g,⟨⟨_,f.still g⟩,z,⟨o.1,o.2⟩,⟨sw _,sw _,tW,sw _,sw _,sw _⟩,hi,C,rB.nil,λk=>by have:=j h k;omega,(w.trans g).fresh p⟩,λq c=>?_⟩;rcases ip.1 c with e|c
 .rw[e];omega
 .rcases x q c with h1|h1
  .exact u q h1
  .omega
end
end
section
variable {Z s s':O} {h κ τ id n T T' k:Nat} {π π':PI} {S S':mV} {L L':δ aT} {Bq0:δ (Nat×δ K×Nat)} {W:δ (K×Nat×δ K)}
def uR.out (w:uR s s' h κ τ π π' id n S L T T'){b:Nat}(d:b<s.nx)(a:b∉h::Lim.own τ π):s'.m.g b=s.m.g b/\b∉h::Lim.own τ π'/\b<s'.nx:=by
 refine⟨w.kp.keep b d a,λhh=>?_,ov d w.kp.nx⟩;rcases ip.1 hh with e|hh
 .exact a (by rw[e];simp)
 .rcases w.own b hh with c|c
  .exact a (by simp[c])
  .omega
def uR.sl (w:uR s s' h κ τ π π' id n S L T T'){v:K}{j:Nat}{l:δ K}(a:Sl s (h::Lim.own τ π) v j l):Sl s' (h::Lim.own τ π') v j l:=by
 rcases a with a|⟨b,off,len,cap,grow,r,q,p,d⟩
 .exact .inl a
 .refine .inr ⟨b,off,len,cap,grow,r,q,p,?_⟩;rcases d with d|⟨o,m,c,t,g,i,f⟩
  .exact .inl d
  .obtain⟨q1,q2,e⟩:=w.out m o;exact .inr ⟨q2,e,c,t,g,q1.trans i,f⟩
def mn (Z s:O)(h κ τ id n:Nat)(S:mV)(L:δ aT)(k:Nat)(Bq0:δ (Nat×δ K×Nat))(W:δ (K×Nat×δ K)):Prop:=∃π T,wD s h κ τ π id n S L T/\T<=10000*k/\Kp [] Z s/\(∀q∈h::own τ π,Z.nx<=q)/\(∀b∈Bq0,b.1<s.nx/\b.1∉h::own τ π/\s.m.g b.1=Φ (.cells b.2.1 b.2.2 φ))/\∀w∈W,Sl s (h::own τ π) w.1 w.2.1 w.2.2
def mn.kp (H:mn Z s h κ τ id n S L k Bq0 W):Kp [] Z s:=by obtain⟨_,_,_,_,h,_⟩:=H;exact h
def mn.Vw (x:T<=10000*k)(d:Kp [] Z s)(c:∀q∈h::own τ π,Z.nx<=q)(r:∀b∈Bq0,b.1<s.nx/\b.1∉h::own τ π/\s.m.g b.1=Φ (.cells b.2.1 b.2.2 φ))(p:∀w∈W,Sl s (h::own τ π) w.1 w.2.1 w.2.2)(w:uR s s' h κ τ π π' id n S L T T'):mn Z s' h κ τ id n S L (k+1) Bq0 W:=by
 refine⟨π',T',w.sh,by have:=w.le;omega,d.trans w.kp λq a=>.inr (c q a),λq a=>?_,λb o=>?_,λv l=>w.sl (p v l)⟩
 .rcases ip.1 a with e|a
  .exact c q (by rw[e];simp)
  .rcases w.own q a with h1|h1
   .exact c q à
   .exact rx d.nx h1
 .obtain⟨h1,h2,u⟩:=r b o;obtain⟨j,i,f⟩:=w.out h1 h2;exact⟨f,i,j.trans u⟩
def mn.still (H:mn Z s h κ τ id n S L k Bq0 W)(a:Kp [] s s'):mn Z s' h κ τ id n S L k Bq0 W:=by
 obtain⟨π,T,l,j,i,g,d,f⟩:=H;exact⟨π,T,l.still a,j,i.trans a,g,λb c=>⟨ov (d b c).1 a.nx,(d b c).2.1,(a.keep _ (d b c).1 V).trans (d b c).2.2⟩,λw e=>(f w e).mono (a.mono V)⟩
def mn.box (H:mn Z s h κ τ id n S L k Bq0 W){b t:Nat}{c:δ K}(d:Kp [] s s')(v:s.nx<=b)(l:b<s'.nx)(j:s'.m.g b=Φ (.cells c t φ)):mn Z s' h κ τ id n S L k ((b,c,t)::Bq0) W:=by
 obtain⟨π,T,f,u,r,p,e,o⟩:=H;refine⟨π,T,f.still d,u,r.trans d,p,λq a=>?_,λw i=>(o w i).mono (d.mono V)⟩;rcases ip.1 a with rfl|a
 .exact⟨l,λhh=>by have:=f.lts b hh;omega,j⟩
 .exact⟨ov (e q a).1 d.nx,(e q a).2.1,(d.keep _ (e q a).1 V).trans (e q a).2.2⟩
def mn.row (H:mn Z s h κ τ id n S L k Bq0 W){x:K}{j:Nat}{l:δ K}(a:Fin s s' x j l):mn Z s' h κ τ id n S L k Bq0 ((x,j,l)::W):=by
 obtain⟨π,T,f,p,o,m,d,i⟩:=H;refine⟨π,T,f.still a.1,p,o.trans a.1,m,λb c=>⟨ov (d b c).1 a.1.nx,(d b c).2.1,(a.1.keep _ (d b c).1 V).trans (d b c).2.2⟩,λw e=>?_⟩;rcases ip.1 e with rfl|e
 .exact a.2 _ λq g=>f.lts q g
 .exact(i w e).mono (a.1.mono V)
def mn.see (H:mn Z s h κ τ id n S L k Bq0 W)(m:k<=80000)(b:L.length<=500)(a:S.gen<1000000)(p q r:Int):
 Rq0 10 [.ptr h 0,.agg (CK p q r)] s λy s'=>y=.tuple [.bool (rG S id n p q r).1,I (rG S id n p q r).2.1]/\mn Z s' h κ τ id n (rG S id n p q r).2.2.1 (gC L (rG S id n p q r).2.2.2) (k+1) Bq0 W:=by
 obtain⟨π,T,j,i,g,f,d,c⟩:=H;refine(ahl j J b a p q r).mono ?_;rintro y l ⟨e,π',T',w⟩;exact⟨e,mn.Vw i g f d c w⟩
def mn.write (H:mn Z s h κ τ id n S L k Bq0 W)(r:k<=80000)(b:L.length<=500){c i:Int}{m:Nat}{key w ol:δ Γ}{had:Bool}{o:υ (Nat×Bool×δ Γ)}(a:0<=c->zJ L (UInt8.ofNat (8+n)) S.gen c.toNat o):
 Rq0 11 [.ptr h 0,I c,I i,.agg (yh m key w ol had)] s λy s'=>y=.tuple [.agg (hE S n L o c i m key w ol had).1,I (hE S n L o c i m key w ol had).2.1]/\mn Z s' h κ τ id n S (gC L (hE S n L o c i m key w ol had).2.2) (k+1) Bq0 W:=by
 obtain⟨π,T,p,l,j,g,f,d⟩:=H;refine(Vv p J b a).mono ?_;rintro y q ⟨e,π',T',w⟩;exact⟨e,mn.Vw l j g f d w⟩
def mn.take (H:mn Z s h κ τ id n S L k Bq0 W)(v:k<=80000)(i:L.length<=500)(c:S.part<1000000){p:Int}{last:Bool}{a b:K}{P:δ aT}{Q:δ OA}(f:Rd s a 2 (P.map bR))(d:Rd s b 5 (Q.map CM))(g:P.length<=1000000/\Q.length<=1000000):
 Rq0 12 [.ptr h 0,I p,.bool last,a,b] s λy s'=>y=.tuple [I (mE S id n p last P Q).1,I (mE S id n p last P Q).2.1]/\mn Z s' h κ τ id n (mE S id n p last P Q).2.2.1 (gC L (mE S id n p last P Q).2.2.2) (k+1) Bq0 W:=by
 obtain⟨π,T,r,q,o,m,l,j⟩:=H;refine(aaV r J i c f d g).mono ?_;rintro y u ⟨e,π',T',w⟩;exact⟨e,mn.Vw q o m l j w⟩
def mn.Rg (H:mn Z s h κ τ id n S L k Bq0 W)(l:k<=80000)(a:L.length<=500):
 Rq0 16 [.ptr h 0] s λy s'=>y=.tuple [.bool (decide (3<(ku (UInt8.ofNat (8+n)) S.gen L).length)),μ]/\mn Z s' h κ τ id n S (re (UInt8.ofNat (8+n)) S.gen L) (k+1) Bq0 W:=by
 obtain⟨π,T,i,g,f,d,c,b⟩:=H;refine(VS i J a).mono ?_;rintro y j ⟨e,π',T',w⟩;exact⟨e,mn.Vw g f d c b w⟩
def mn.Ij (H:mn Z s h κ τ id n S L k Bq0 W)(b:L.length<=1000000):Rq0 14 [.ptr h 0] s λy s'=>∃x,y=.tuple [x,μ]/\mn Z s' h κ τ id n S L k Bq0 ((x,2,cT (lL (UInt8.ofNat (8+n)) S.gen L))::W):=by
 obtain⟨π,T,c,_⟩:=_root_.id H;refine(Wg c b).mono ?_;rintro y d ⟨x,e,a⟩;exact⟨x,e,H.row a⟩
def mn.aB (H:mn Z s h κ τ id n S L k Bq0 W)(b:L.length<=1000000):Rq0 15 [.ptr h 0] s λy s'=>∃x,y=.tuple [x,μ]/\mn Z s' h κ τ id n S L k Bq0 ((x,5,uu (rj (UInt8.ofNat (8+n)) S.gen L))::W):=by
 obtain⟨π,T,c,_⟩:=_root_.id H;refine(WI c b).mono ?_;rintro y d ⟨x,e,a⟩;exact⟨x,e,H.row a⟩
def mn.view (H:mn Z s h κ τ id n S L k Bq0 W):Rq0 13 [.ptr h 0] s λy s'=>y=.agg (fM S)/\mn Z s' h κ τ id n S L k Bq0 W:=by
 obtain⟨π,T,b,_⟩:=_root_.id H;refine(aaM b).mono ?_;rintro y c ⟨e,a⟩;exact⟨e,H.still a⟩
def mn.get (H:mn Z s h κ τ id n S L k Bq0 W)(key:δ Γ):Rq0 31 [.ptr h 0,.str key] s λy s'=>mn Z s' h κ τ id n S L k Bq0 W/\
 y=if S.phase≠2 then .tuple [ϑ,Θ,ζ 62]else if key.length<1\/32<key.length then .tuple [ϑ,Θ,ζ 40]else .tuple [.str ((ey L (UInt8.ofNat (8+n)::pK S.gen key)).getD []),.bool (ey L (UInt8.ofNat (8+n)::pK S.gen key)).isSome,μ]:=by
 obtain⟨π,T,b,_⟩:=_root_.id H;refine(Z9 b key).mono ?_;rintro y c ⟨a,e⟩;exact⟨H.still a,e⟩
def mn.l (H:mn Z s h κ τ id n S L k Bq0 W):rB (UInt8.ofNat (8+n)) S.gen L:=by obtain⟨π,T,a,_⟩:=_root_.id H;exact a.l
def mn.new (g:dV Z)(b:Kp [] Z s)(hi:1<=id/\id<=5)(f:n<=3):Rq0 9 [I id,I n] s λy s'=>∃a κ τ h,y=.tuple [.ptr a 0,.ptr κ 0,.ptr h 0]/\mn Z s' h κ τ id n S0 [] 0 [] []:=by
 refine(aeg (b.fresh g) hi f).mono ?_;rintro y i ⟨a,κ,τ,π,h,e,c,H,d⟩;refine⟨a,κ,τ,h,e,π,0,H,J,b.trans c,λq hh=>rx b.nx (d q ?_),V,V⟩;rcases ip.1 hh with e|hh
 .rw[e];simp
 .simp[hh]
end
def Oy:mV:=⟨1,0,2,1,0,1⟩
def ø:mV:=⟨2,0,3,1,2,1⟩
def á:mV:=⟨3,0,2,1,0,1⟩
def ö:mV:=⟨4,0,1,2,0,2⟩
def aW1:δ nH:=[oZ 0 1 201 5 φ [],vU 0 1 [97] [120]]
def UJ:δ aT:=gC [] [jn 1 0 Oy]
def UI:δ aT:=gC UJ aW1
def aL3:δ aT:=gC UI [jn 1 0 ø]
def í:δ aT:=gC aL3 [jn 1 0 á]
def aL5:δ aT:=gC í [jn 1 0 ö]
def alW:rG S0 1 0 1 1 0=(θ,0,Oy,[jn 1 0 Oy]):=rfl
def alV:rG Oy 1 0 2 1 2=(θ,0,ø,[jn 1 0 ø]):=rfl
def alU:rG ø 1 0 3 1 0=(θ,0,á,[jn 1 0 á]):=rfl
def alT:rG á 1 0 4 2 0=(θ,0,ö,[jn 1 0 ö]):=rfl
def alX:zJ UJ (UInt8.ofNat (8+0)) 1 201 ν:=by show ey UJ _=ν;decide+kernel
def aam:zJ UI (UInt8.ofNat (8+0)) 1 201 (Φ (5,φ,[])):=by
 refine⟨?_,tW,tW⟩;show ey (oO (oO UJ (UInt8.ofNat (8+0)::lK 1 201) (lG 5 φ [])) (UInt8.ofNat (8+0)::pK 1 [97]) [120]) _=_;rw[uC _ _ _ _ tW,Ds]
def Yc:hE Oy 0 UJ ν 201 5 2 [97] [120] [] φ=(sN 1 φ [],0,aW1):=by
 have e:ey UJ (UInt8.ofNat (8+0)::pK 1 [97])=ν:=acQ
 unfold hE;rw[B tW,B tW,B tW,B tW];dsimp only[Oy];rw[e];rfl
def Yb:hE Oy 0 UI (Φ (5,φ,[])) 201 5 3 [97] [] [] φ=(sN 1 φ [],0,[]):=by
 unfold hE;rw[B tW,B tW,B tW,gq tW];rfl
def Ya:hE Oy 0 UI (Φ (5,φ,[])) 201 4 3 [97] [] [] φ=(sN 0 φ [],6,[]):=by
 unfold hE;rw[B tW,B tW,B tW,gq tW];rfl
def axP:ey í (UInt8.ofNat (8+0)::pK 1 [97])=Φ [120]:=acQ
def aeE:lL (UInt8.ofNat (8+0)) 2 aL5=[]:=acQ
def axO:UJ.length<=500/\UI.length<=500/\aL3.length<=500/\í.length<=500/\aL5.length<=500:=by
 have h1:=mj [] [jn 1 0 Oy];have h2:=mj UJ aW1;have c:=mj UI [jn 1 0 ø];have b:=mj aL3 [jn 1 0 á];have a:=mj í [jn 1 0 ö];have i:UJ=gC [] [jn 1 0 Oy]:=rfl;have g:UI=gC UJ aW1:=rfl;have f:aL3=gC UI [jn 1 0 ø]:=rfl;have e:í=gC aL3 [jn 1 0 á]:=rfl;have d:aL5=gC í [jn 1 0 ö]:=rfl;rw[<-i]at h1;rw[<-g]at h2;rw[<-f]at c;rw[<-e]at b;rw[<-d]at a;simp only[aW1,lx,IR]at*;omega
section
variable {Z s s':O}
def abj (s:O):R .eql (Φ (.struct (.cons 0 1 φ .int (.cons 1 1 φ .bool (.cons 2 1 φ .str .nil))))) φ (.agg (sN 1 φ [])) (.agg (sN 1 φ [])) s=.ok ι s:=rfl
set_option maxHeartbeats 1000000 in
def UB (P:dV Z)(N:Kp [] Z s):Rq0 8 [] s λy s'=>y=.bool true/\Kp [] Z s':=by
 refine bE ?_;rw[w8];refine(show Rq0 9 [.int .i64 1,.int .i64 0] s _ from mn.new (id:=1) (n:=0) P N J J).mono ?_;rintro _ s1 ⟨a,b,τ,h,rfl,H⟩;have hh:∀s,R .eql (some .ptr) true (.ptr h 0) .bq s=.ok (.bool false) s:=λs=>rfl;have e0:∀s,R .eql (some .int) true (I ((0:Nat):Int)) (.int .i64 0) s=.ok (.bool true) s:=λs=>rfl;have j:∀s,R .eql (some .int) true (I 0) (.int .i64 0) s=.ok (.bool true) s:=λs=>rfl;have Y:∀s,R .eql (some .int) true (I ((6:Nat):Int)) (.int .i64 6) s=.ok (.bool true) s:=λs=>rfl;have g:∀s,R .eql (some .int) true (I ((62:Nat):Int)) (.int .i64 62) s=.ok (.bool true) s:=λs=>rfl;have b6:∀s,aR [.int .i64 0,.int .i64 0,.int .i64 0] [(0,1,.int .i64 1),(1,1,.int .i64 1)] s=.ok (.agg (CK 1 1 0)) s:=λs=>rfl;have q:∀s,aR [.int .i64 0,.int .i64 0,.int .i64 0] [(0,1,.int .i64 2),(1,1,.int .i64 1),(2,1,.int .i64 2)] s=.ok (.agg (CK 2 1 2)) s:=λs=>rfl;have p:∀s,aR [.int .i64 0,.int .i64 0,.int .i64 0] [(0,1,.int .i64 3),(1,1,.int .i64 1)] s=.ok (.agg (CK 3 1 0)) s:=λs=>rfl;have l:∀s,aR [.int .i64 0,.int .i64 0,.int .i64 0] [(0,1,.int .i64 4),(1,1,.int .i64 2)] s=.ok (.agg (CK 4 2 0)) s:=λs=>rfl;have r:∀s,aR [.int .u8 0,.str [],.str [],.str [],.bool false] [(0,1,.int .u8 2),(1,1,.str [97]),(2,1,.str [120])] s=.ok (.agg (yh 2 [97] [120] [] false)) s:=λs=>rfl;have e:∀s,aR [.int .u8 0,.str [],.str [],.str [],.bool false] [(0,1,.int .u8 3),(1,1,.str [97])] s=.ok (.agg (yh 3 [97] [] [] false)) s:=λs=>rfl;have k:∀s,aR [.int .u8 0,.bool false,.str []] [(0,1,.int .u8 1)] s=.ok (.agg (sN 1 false [])) s:=λs=>rfl;have Q:∀s,R .eql (some .str) true (.str [120]) (.str [120]) s=.ok (.bool true) s:=λs=>rfl;obtain⟨l1,l2,G,F,l5⟩:=axO;simp only[hh,zY,ii,b6];refine(H.see J V tW 1 1 0).mono ?_;rintro _ s2 ⟨rfl,H⟩;rw[alW]at H⊢
 replace H:mn Z s2 h b τ 1 0 Oy UJ 1 [] []:=H
 simp only[u6,r];refine(H.write J l1 (c:=201) (i:=5) (m:=2) (key:=[97]) (w:=[120]) (ol:=[]) (had:=false) (o:=none) λ_=>alX).mono ?_;rintro _ x ⟨rfl,H⟩;rw[Yc]at H⊢
 replace H:mn Z x h b τ 1 0 Oy UI 2 [] []:=H
 simp only[u6];refine gW rfl rfl rfl ?_;generalize Xh:O.new x (.cells (sN 1 false []) 43 false)=s5;obtain⟨M,W,n5⟩:=dB Xh
 replace H:=H.box M (hI _) J W
 rw[e,af];refine(H.write J l2 (c:=201) (i:=5) (m:=3) (key:=[97]) (w:=[]) (ol:=[]) (had:=false) (o:=some (5,false,[])) λ_=>aam).mono ?_;rintro _ v ⟨rfl,H⟩;rw[Yb]at H⊢
 replace H:mn Z v h b τ 1 0 Oy UI 3 _ []:=H
 simp only[u6];refine gW rfl rfl rfl ?_;generalize f:O.new v (.cells (sN 1 false []) 43 false)=s8;obtain⟨L,S,n8⟩:=dB f
 replace H:=H.box L (hI _) J S
 rw[e,af];refine(H.write J l2 (c:=201) (i:=4) (m:=3) (key:=[97]) (w:=[]) (ol:=[]) (had:=false) (o:=some (5,false,[])) λ_=>aam).mono ?_;rintro _ u ⟨rfl,H⟩;rw[Ya]at H⊢
 replace H:mn Z u h b τ 1 0 Oy UI 4 _ []:=H
 simp only[u6];refine gW rfl rfl rfl ?_;generalize BI:O.new u (.cells (sN 0 false []) 43 false)=eo;obtain⟨C,PZ,LI⟩:=dB BI
 replace H:=H.still C
 rw[q,af];refine(H.see J l2 tW 2 1 2).mono ?_;rintro _ cH ⟨rfl,H⟩;rw[alV]at H⊢
 replace H:mn Z cH h b τ 1 0 ø aL3 5 _ []:=H
 simp only[u6];refine(H.get [97]).mono ?_;rintro _ dw ⟨H,rfl⟩;rw[gq tW];simp only[u6,p];refine(H.see J G tW 3 1 0).mono ?_;rintro _ X ⟨rfl,H⟩;rw[alU]at H⊢
 replace H:mn Z X h b τ 1 0 á í 6 _ []:=H
 simp only[u6];refine(H.get [97]).mono ?_;rintro _ gJ ⟨H,rfl⟩;rw[B tW,B tW,show ey í (UInt8.ofNat (8+0)::pK á.gen [97])=some [120]from axP];simp only[u6,l];refine(H.see J F tW 4 2 0).mono ?_;rintro _ dt ⟨rfl,H⟩;rw[alT]at H⊢
 replace H:mn Z dt h b τ 1 0 ö aL5 7 _ []:=H
 simp only[u6];refine(H.Ij J).mono ?_;rintro _ dA ⟨D,rfl,H⟩;obtain⟨π,T,a1,a2,a3,a4,z,a6⟩:=_root_.id H;have Ax:=(z _ (EQ _ (zt ..))).2.2;have Ki:=(z _ (zt ..)).2.2;have hx:=a6 _ (zt ..)
 have d:∀s,aY .slice D s=.ok (I ((0:Nat):Int)) s:=λs=>by
  have:=hx.ig s;rw[show lL (UInt8.ofNat (8+0)) ö.gen aL5=[]from aeE]at this;exact this
 have p1:=aG (n:=3) Ax rfl;have p2:=aG (n:=3) Ki rfl;dsimp only at p1 p2;simp only[u6,ix,aW,AC,e0,j,Y,g,Q,d,p1,p2,k,abj,Jd,Zd,dH];refine H.view.mono ?_;rintro _ eP ⟨rfl,H⟩;exact⟨rfl,H.kp⟩
end
structure StepT where
 kind:Nat
 p:Int
 q:Int
 r:Int
 c:Int
 i:Int
 m:Nat
 key:List UInt8
 val:List UInt8
 Df:List UInt8
 had:Bool
 part:Int
 last:Bool
 ps:List aT
 ls:List OA
def E8 (x:StepT)(u w:K):δ K:=[.int .u8 (x.kind:Nat),I x.p,I x.q,I x.r,I x.c,I x.i,.int .u8 (x.m:Nat),.str x.key,.str x.val,.str x.Df,.bool x.had,I x.part,.bool x.last,u,w]
structure StepT.small (x:StepT):Prop where
 ps:x.ps.length<=140737488355328
 ls:x.ls.length<=140737488355328
 vs:∀q∈x.ps,q.2.length<=140737488355328
 key:x.key.length<=140737488355328
 val:x.val.length<=140737488355328
 Df:x.Df.length<=140737488355328
def DF (Z:O)(v:K)(S:δ StepT):Prop:=((v=.ae\/v=.oM)/\S=[])\/∃b off cap,v=.slice b off S.length cap 0/\b<Z.nx/\∀i (h:i<S.length),∃l o u w,Z.m.g b=Φ (.ro l o)/\(∀j x,(E8 S[i] u w)[j]?=Φ x->l[off+i*15+j]?=Φ x)/\Rd Z u 2 (S[i].ps.map bR)/\Rd Z w 5 (S[i].ls.map CM)
section
variable {Z s:O} {v:K} {S:δ StepT}
def DF.keep (h:DF Z v S)(a:Kp [] Z s):DF s v S:=by
 rcases h with h|⟨b,off,cap,rfl,c,d⟩
 .exact .inl h
 .refine .inr ⟨b,off,cap,rfl,ov c a.nx,λi hi=>?_⟩;obtain⟨l,o,u,w,j,g,f,e⟩:=d i hi;exact⟨l,o,u,w,(a.keep b c V).trans j,g,f.mono a,e.mono a⟩
def DF.len (h:DF Z v S)(t:O):aY .slice v t=.ok (I S.length) t:=by
 rcases h with⟨rfl|rfl,rfl⟩|⟨b,off,cap,rfl,_⟩<;>rfl
def DF.at' (h:DF Z v S){i:Nat}(hi:i<S.length):∃b p l o u w,(∀t,de 15 v (I i) t=.ok (.ptr b p) t)/\Z.m.g b=Φ (.ro l o)/\(∀j x,(E8 S[i] u w)[j]?=Φ x->l[p+j]?=Φ x)/\Rd Z u 2 (S[i].ps.map bR)/\Rd Z w 5 (S[i].ls.map CM):=by
 rcases h with⟨_,rfl⟩|⟨b,off,cap,rfl,e,a⟩
 .simp at hi
 .obtain⟨l,o,u,w,h1,h2,d,c⟩:=a i hi;exact⟨b,off+i*15,l,o,u,w,λt=>iq hi (.inl rfl) t,h1,h2,d,c⟩
end
def abb (S:mV)(id n:Nat)(p q r:Int):(rG S id n p q r).2.2.2.length<=1/\(rG S id n p q r).2.2.1.gen<=S.gen+1/\(rG S id n p q r).2.2.1.part<=S.part:=by
 unfold rG
 split
 .simp
 .split
  .simp
  .refine⟨V,?_,by simp[Fp]⟩;simp only[Fp];split<;>omega
def QP (S:mV)(n:Nat)(L:δ aT)(o:υ (Nat×Bool×δ Γ))(c i:Int)(k:Nat)(key w ol:δ Γ)(had:Bool):(hE S n L o c i k key w ol had).2.2.length<=2:=by
 unfold hE
 split
 .simp
 .split
  .simp
  .split
   .simp
   .split
    .simp
    .dsimp only
     split
     .simp
     .split<;>simp
def VP (S:mV)(id n:Nat)(p:Int)(last:Bool)(P:δ aT)(Q:δ OA):(mE S id n p last P Q).2.2.2.length<=5/\(mE S id n p last P Q).2.2.1.gen=S.gen/\(mE S id n p last P Q).2.2.1.part<=S.part+1:=by
 unfold mE
 split
 .simp
 .split
  .simp
  .rename_i a
   split
   .simp
   .split
    .simp
    .refine⟨by simp[Hu];omega,?_,?_⟩<;>(simp only[CW];split<;>simp)
section
variable {b:Γ} {gen:Nat} {L:δ aT}
def Ii (h:fq L):lL b gen (re b gen L)=lL b gen L:=by unfold lL;rw[EG 112 (.inr rfl) h]
def IF (h:fq L):rj b gen (re b gen L)=rj b gen L:=by unfold rj;rw[EG 108 (.inl rfl) h]
def zQ:(lL b gen L).length=(L.filter (iE b 112 gen)).length:=by unfold lL;simp
def Bw:(rj b gen L).length=(L.filter (iE b 108 gen)).length:=by unfold rj;simp
def Lo:(lL b gen L).length<=L.length:=by rw[zQ];exact Jf ..
def Pu:(rj b gen L).length<=L.length:=by rw[Bw];exact Jf ..
def OQ:(re b gen L).length<=L.length:=Jf ..
def Wq:(ku b gen L).length<=2*L.length:=by
 unfold ku;have h1:=Jf (mK b 108 gen) L;have h2:=Jf (mK b 112 gen) L;rw[km];omega
def O5 (sp:Int)(fm to:bS):(uj L sp fm to).length<=L.length:=by unfold uj;rw[so];exact Jf ..
end
section
variable {n:Nat}{L:δ aT}{x:K×Nat×δ K}{j:Nat}
section
variable {Z s s':O} {h κ τ id k:Nat} {Bq0:δ (Nat×δ K×Nat)} {W:δ (K×Nat×δ K)} {S:mV} {P:δ aT} {Q:δ (Nat×Nat×Nat×Bool×δ Γ)}
def GQ (Z s:O)(h κ τ id k:Nat):Prop:=∃S L,mn Z s h κ τ id 1 S L k [] []/\S.gen<=k/\S.part<=k/\L.length<=5*k
def GQ.skip (H:GQ Z s h κ τ id k):GQ Z s h κ τ id (k+1):=by
 obtain⟨S,L,⟨π,T,b,f,a⟩,e,d,c⟩:=H;exact⟨S,L,⟨π,T,b,J,a⟩,J,J,J⟩
def GQ.kp (H:GQ Z s h κ τ id k):Kp [] Z s:=by obtain⟨S,L,H,_⟩:=H;exact H.kp
def GQ.see (H:GQ Z s h κ τ id k)(c:k<=60)(p q r:Int):Rq0 10 [.ptr h 0,.agg (CK p q r)] s λy s'=>GQ Z s' h κ τ id (k+1):=by
 obtain⟨S,L,H,f,e,d⟩:=H;refine(H.see J J J p q r).mono ?_;rintro y b ⟨_,a⟩;obtain⟨l,i,g⟩:=abb S id 1 p q r;have:=mj L (rG S id 1 p q r).2.2.2;exact⟨_,_,a,J,J,J⟩
def GQ.write (H:GQ Z s h κ τ id k)(e:k<=60)(c i:Int)(m:Nat)(key w ol:δ Γ)(had:Bool):Rq0 11 [.ptr h 0,I c,I i,.agg (yh m key w ol had)] s λy s'=>GQ Z s' h κ τ id (k+1):=by
 obtain⟨S,L,H,q,p,f⟩:=H;obtain⟨o,a⟩:=H.l.abP (g:=S.gen) (c:=c.toNat);refine(H.write J J (c:=c) (i:=i) (m:=m) (key:=key) (w:=w) (ol:=ol) (had:=had) (o:=o) λ_=>a).mono ?_;rintro y d ⟨_,b⟩;have r:=QP S 1 L o c i m key w ol had;have:=mj L (hE S 1 L o c i m key w ol had).2.2;exact⟨_,_,b,J,J,J⟩
def GQ.take (H:GQ Z s h κ τ id k)(i:k<=60){p:Int}{last:Bool}{a b:K}{P:δ aT}{Q:δ OA}(d:Rd s a 2 (P.map bR))(c:Rd s b 5 (Q.map CM))(e:P.length<=1000000/\Q.length<=1000000):
 Rq0 12 [.ptr h 0,I p,.bool last,a,b] s λy s'=>GQ Z s' h κ τ id (k+1):=by
 obtain⟨S,L,H,o,m,l⟩:=H;refine(H.take J J J (p:=p) (last:=last) d c e).mono ?_;rintro y g ⟨_,f⟩;obtain⟨u,r,q⟩:=VP S id 1 p last P Q;have:=mj L (mE S id 1 p last P Q).2.2.2;exact⟨_,_,f,J,J,J⟩
def yX (Z s:O)(h κ τ id:Nat)(S:mV)(Bq0:δ (Nat×δ K×Nat))(W:δ (K×Nat×δ K))(P:δ aT)(Q:δ (Nat×Nat×Nat×Bool×δ Γ))(j:Nat)(a:Bool):Prop:=
 ∃L,mn Z s h κ τ id 1 S L (60+j) Bq0 W/\S.gen<=60/\lL (UInt8.ofNat (8+1)) S.gen L=P/\rj (UInt8.ofNat (8+1)) S.gen L=Q/\L.length<=300/\if a=θ then (ku (UInt8.ofNat (8+1)) S.gen L).length+3*j<=600 else ku (UInt8.ofNat (8+1)) S.gen L=[]
def mn.later {k':Nat}(H:mn Z s h κ τ id n S L k Bq0 W)(c:k<=k'):mn Z s h κ τ id n S L k' Bq0 W:=by
 obtain⟨π,T,b,d,a⟩:=H;exact⟨π,T,b,J,a⟩
def mn.drop (H:mn Z s h κ τ id n S L k Bq0 (x::W)):mn Z s h κ τ id n S L k Bq0 W:=by
 obtain⟨π,T,g,f,e,d,c,b⟩:=H;exact⟨π,T,g,f,e,d,c,λw a=>b w (by simp[a])⟩
def yX.Rg (H:yX Z s h κ τ id S Bq0 W P Q j θ)(p:j<=2000):Rq0 16 [.ptr h 0] s λy s'=>∃a,y=.tuple [.bool a,μ]/\yX Z s' h κ τ id S Bq0 W P Q (j+1) a:=by
 obtain⟨L,H,d,g,f,i,c⟩:=H;rw[gq rfl]at c;refine(H.Rg J J).mono ?_;rintro y o ⟨e,m⟩;have hs:=H.l.srt;refine⟨_,e,_,m,d,by rw[Ii hs];exact g,by rw[IF hs];exact f,rx OQ i,?_⟩;rw[LG hs]
 split
 .rename_i b;have b:=Xm b;rw[st];omega
 .rename_i b;have b:¬3<(ku (UInt8.ofNat (8+1)) S.gen L).length:=λhh=>b (jp hh);exact List.drop_eq_nil_of_le J
def yX.Ij {a:Bool}(H:yX Z s h κ τ id S Bq0 W P Q j a):Rq0 14 [.ptr h 0] s λy s'=>∃x,y=.tuple [x,μ]/\yX Z s' h κ τ id S Bq0 ((x,2,cT P)::W) P Q j a:=by
 obtain⟨L,H,f,b,g,i,d⟩:=H;refine(H.Ij J).mono ?_;rintro y l ⟨x,e,c⟩;rw[b]at c;exact⟨x,e,L,c,f,b,g,i,d⟩
def yX.aB {a:Bool}(H:yX Z s h κ τ id S Bq0 W P Q j a):Rq0 15 [.ptr h 0] s λy s'=>∃x,y=.tuple [x,μ]/\yX Z s' h κ τ id S Bq0 ((x,5,uu Q)::W) P Q j a:=by
 obtain⟨L,H,f,g,b,i,d⟩:=H;refine(H.aB J).mono ?_;rintro y l ⟨x,e,c⟩;rw[b]at c;exact⟨x,e,L,c,f,g,b,i,d⟩
def yX.view {a:Bool}(H:yX Z s h κ τ id S Bq0 W P Q j a):Rq0 13 [.ptr h 0] s λy s'=>y=.agg (fM S)/\yX Z s' h κ τ id S Bq0 W P Q j a:=by
 obtain⟨L,H,r⟩:=H;refine H.view.mono ?_;rintro y c ⟨e,b⟩;exact⟨e,L,b,r⟩
def yX.drop {a:Bool}(H:yX Z s h κ τ id S Bq0 (x::W) P Q j a):yX Z s h κ τ id S Bq0 W P Q j a:=by
 obtain⟨L,H,r⟩:=H;exact⟨L,H.drop,r⟩
def yX.kp {a:Bool}(H:yX Z s h κ τ id S Bq0 W P Q j a):Kp [] Z s:=by obtain⟨L,H,_⟩:=H;exact H.kp
def yX.lens {a:Bool}(H:yX Z s h κ τ id S Bq0 W P Q j a):P.length<=300/\Q.length<=300:=by
 obtain⟨L,H,d,rfl,rfl,b,c⟩:=H;exact⟨rx Lo b,rx Pu b⟩
def yX.rows {a:Bool}(H:yX Z s h κ τ id S Bq0 W P Q j a):∃X,∀w∈W,Sl s X w.1 w.2.1 w.2.2:=by
 obtain⟨L,⟨π,T,g,f,e,d,c,b⟩,_⟩:=H;exact⟨_,b⟩
def yX.box {a:Bool}(H:yX Z s h κ τ id S Bq0 W P Q j a):∀b∈Bq0,b.1<s.nx/\s.m.g b.1=Φ (.cells b.2.1 b.2.2 φ):=by
 obtain⟨L,⟨π,T,o,l,i,f,d,e⟩,_⟩:=H;exact λb c=>⟨(d b c).1,(d b c).2.2⟩
def yX.range (H:yX Z s h κ τ id S Bq0 W P Q j φ):Rq0 19 [.ptr κ 0,ζ (8+1),ϑ,ϑ] s λy s'=>∃x m,y=.tuple [x,μ]/\Kp [] s s'/\(∀t,aY .slice x t=.ok (I (m:Nat)) t)/\m<=P.length+Q.length+1:=by
 obtain⟨L,H,i,rfl,rfl,o,a⟩:=H;obtain⟨π,T,f,_⟩:=_root_.id H;obtain⟨fr,b⟩:=f.at';rw[B tW]at a;refine(AF b (sp:=((8+1:Nat):Int)) (fm:=[]) (to:=[]) ⟨⟨tW,tW⟩,tW⟩ ⟨⟨tW,tW⟩,tW⟩ J).mono ?_;rintro y g ⟨x,e,c,d⟩;refine⟨x,_,e,c,λt=>d.ig t,?_⟩;have h1:=O5 (L:=L) ((8+1:Nat):Int) [] [];have h2:=H.l.agU J a;rw[zQ,Bw];omega
def GQ.swp (H:GQ Z s h κ τ id k)(a:k<=60):∃S P Q,yX Z s h κ τ id S [] [] P Q 0 θ:=by
 obtain⟨S,L,H,e,d,c⟩:=H;refine⟨S,_,_,L,H.later J,J,rfl,rfl,J,?_⟩;rw[gq rfl];have:=Wq (b:=UInt8.ofNat (8+1)) (gen:=S.gen) (L:=L);omega
end
end
section
variable {Z s:O} {v a:K} {S:δ StepT}
def Rd.field {k:Nat}{L:δ (δ K)}(h:Rd s a k L)(n:0<k)(m:∀x∈L,x.length=k){i j:Nat}(hi:i<L.length){x:K}(c:L[i][j]?=Φ x){Kq0:K->Prop}(d:Kq0 x):yw k j a (I i) s Kq0:=by
 rcases h with h|⟨_,rfl⟩|⟨b,off,cap,rfl,q,f⟩
 .obtain⟨b,p,l,t,g,q1,q2,_,_,e⟩:=Sl.cellAt h n m hi;unfold yw;rw[q1,af,ah,af,av,q2,ak,e j x c,an];exact d
 .simp at hi
 .obtain⟨l,o,h1,h2⟩:=f i hi;unfold yw;rw[iq hi (.inl rfl),af,ah,af,av,h1,wQ,h2 j x c,an];exact d
def UG (a b:Nat)(h:a+b<=4000000000000000000)(c:Bool)(s:O):R .add ν c (I a) (I b) s=.ok (ζ (a+b)) s:=by
 rw[au,cE,bt J];rfl
def ahs (a:Nat)(h:a<=4000000000000000000)(s:O):R .quo ν θ (I a) (I 100) s=.ok (ζ (a/100)) s:=by
 have c:R .quo ν θ (I a) (I 100) s=.ok (I (IntKind.i64.wrap (Int.tdiv (a:Int) 100))) s:=rfl;have b:Int.tdiv (a:Int) 100=((a/100:Nat):Int):=rfl;rw[c,b,bt J]
set_option maxHeartbeats 1000000 in
def abR (h:DF Z v S)(hl:S.length<=9223372036854775807)(hb:∀p∈S,p.small):Rq0 7 [v] Z λy s=>∃b,y=.bool b/\s=Z/\(b=false->S.length<=60/\∀p∈S,p.ps.length<=1500/\p.ls.length<=1500):=by
 refine bE ?_;rw[w7,h.len,af,bU];simp only[ke];have L:∀(a b:Int) s,R .add none false (I a) (I b) s=.ok (I (IntKind.i64.wrap (a+b))) s:=λa b s=>by rw[au,cE]
 have el:∀(i n:Nat) s,R .lss none false (I i) (I n) s=.ok (.bool (decide (i<n))) s:=λi n s=>aai
 have ec:∀(c i:Nat) s,R .lss none true (I i) (.int .i64 (c:Nat)) s=.ok (.bool (decide (i<c))) s:=λc i s=>aai
 have f:∀(c i n:Nat) s (r Bq0:Prop),(i<n->i<c->r)->(¬(i<n/\i<c)->Bq0)->U (kx (bj true (.bool (decide (i<n)))) s (.ok (I i) s)) λx8=>U (kx (bj true (.bool (decide (i<n)))) s (R .lss none true x8 (.int .i64 (c:Nat)) s)) λx9=>U (bg (.bool (decide (i<n))) x9 (.bool false) s) λcG=>aA cG r Bq0:=by
  intro c i n s r Bq0 hA hB
  by_cases e:i<n
  .by_cases h2:i<c
   .simp only[jp e,ix,aW,xl,ec,jp h2,AC];exact hA e h2
   .simp only[jp e,ix,aW,ec,jo h2,Ut,ii];exact hB J
  .simp only[jo e,ix,bA,Ut,ii];exact hB J
 refine bD (λfu D s=>∃(i:Nat) (n:Int),fu+i=100/\D=[v,I n,I i]/\s=Z/\(S.length<=60->0<=n/\n<=60+i*10000000000000000/\∀p∈S.take i,(p.ps.length:Int)<=n/\(p.ls.length:Int)<=n)) ?_ (n:=100) ⟨0,S.length,rfl,rfl,rfl,λh=>xI⟩;rintro fu D s Kq0 ⟨i,n,hi,rfl,rfl,H⟩ next;simp only[ke];rw[h.len,af,el,af];refine f 100 _ _ _ _ _ (λG ad=>?_) (λG=>?_)
 .obtain⟨b,p,l,o,u,w,q1,q2,z,hu,hw⟩:=h.at' G;obtain⟨z1,z2,z3,z4,z5,z6⟩:=hb _ (mp G);generalize hX:S[i]=X at*;have C:l[p+13]?=some u:=z 13 _ rfl;have ab:l[p+14]?=some w:=z 14 _ rfl;have a7:l[p+6+1]?=some (.str X.key):=z 7 _ rfl;have a8:l[p+6+2]?=some (.str X.val):=z 8 _ rfl;have a9:l[p+6+3]?=some (.str X.Df):=z 9 _ rfl
  have f1:∀Kq0:K->Prop,Kq0 u->yw 15 13 v (I i) s Kq0:=λKq0 hK=>by
   unfold yw;rw[q1,af,ah,af,av,q2,wQ,C];exact hK
  simp only[aZ,q1,af,ah,av,q2,wQ,C,ab,a7,a8,a9,an,hu.ig,hw.Gd,eN];rw[L,af,L,af,UG _ _ J,af,UG _ _ J,af,ahs _ J,af,L,af];refine⟨⟨gt,gt,gt,gt,gt,gt⟩,gt,?_⟩
  have g:S.length<=60->n+X.ps.length<=IntKind.i64.wrap (IntKind.i64.wrap (IntKind.i64.wrap (n+X.ps.length)+X.ls.length)+((X.key.length+X.val.length+X.Df.length)/100:Nat))/\n+X.ls.length<=IntKind.i64.wrap (IntKind.i64.wrap (IntKind.i64.wrap (n+X.ps.length)+X.ls.length)+((X.key.length+X.val.length+X.Df.length)/100:Nat))/\IntKind.i64.wrap (IntKind.i64.wrap (IntKind.i64.wrap (n+X.ps.length)+X.ls.length)+((X.key.length+X.val.length+X.Df.length)/100:Nat))<=n+1000000000000000:=λd=>by
   obtain⟨Q,P,_⟩:=H d;rw[bt (x:=n+X.ps.length) J,bt (x:=n+X.ps.length+X.ls.length) J,bt J];omega
  generalize IntKind.i64.wrap (IntKind.i64.wrap (IntKind.i64.wrap (n+X.ps.length)+X.ls.length)+((X.key.length+X.val.length+X.Df.length)/100:Nat))=N at*;rw[bU];simp only[ke];refine bD (λfu D s'=>∃(k:Nat) (m:Int),fu+k=20/\D=[v,I m,I i,I k]/\s'=s/\(S.length<=60->N<=m/\m<=N+k*20000000000000)) ?_ (n:=20) ⟨0,N,rfl,rfl,rfl,λ_=>V⟩;rintro T ac s2 K2 ⟨k,m,hk,rfl,rfl,hM⟩ aa;simp only[ke];refine f1 _ ?_;rw[hu.ig,af,el,af];refine f 20 _ _ _ _ _ (λM Te=>?_) (λM=>?_)
  .refine f1 _ ?_;have hs:X.ps[k].2.length<=140737488355328:=z3 _ (mp M);refine hu.field J (pA _) (i:=k) (j:=1) (by simpa using M) (x:=.str X.ps[k].2) (by rw[S7];rfl) ?_;rw[eN,af,ahs _ J,af,L,af,fV k J,af];refine aa (T-1) _ _ J ⟨k+1,_,J,rfl,rfl,λd=>?_⟩;obtain⟨Q,P,_⟩:=H d;obtain⟨m1,m2⟩:=hM d;obtain⟨_,_,b3⟩:=g d;obtain⟨b1,_,_⟩:=g d;rw[bt J];omega
  .rw[fV i J,af];refine next (fu-1) _ _ J ⟨i+1,m,J,rfl,rfl,λd=>?_⟩;obtain⟨Q,P,F⟩:=H d;obtain⟨m1,m2⟩:=hM d;obtain⟨b1,b2,b3⟩:=g d;refine⟨J,J,λq hq=>?_⟩;rw[su G,lh]at hq;rcases hq with e|e
   .have:=F q e;omega
   .have:q=X:=by rw[<-hX];simpa using e
    subst this;omega
 .have Y:R .gtr none true (I n) (.int .i64 1500) s=.ok (.bool (decide (1500<n))) s:=by rw[au,cQ]
  have W:R .gtr none true (I S.length) (.int .i64 60) s=.ok (.bool (decide (60<S.length))) s:=yZ
  rw[Y,af]
  by_cases h4:1500<n
  .simp only[jp h4,r8,NE,ii,bA,ix];exact⟨true,rfl,gt,λh=>by cases h⟩
  .simp only[jo h4,DI,ii,h.len,W];refine⟨_,rfl,gt,λhf=>?_⟩
   have d:S.length<=60:=by have:¬60<S.length:=by simpa using hf
                           omega
   refine⟨d,λp hp=>?_⟩;obtain⟨Q,P,F⟩:=H d;rw[lw J]at F;have:=F p hp;omega
end
def arw (a:Int)(m:Nat)(k:0<m)(o:m<=100000):∃n:Nat,n<m/\∀(s:O) (Kq0:K->Prop),Kq0 (I n)->U (cX (.toInt .u64) (I a) s) λd=>U (R .rem ν θ d (.int .u64 m) s) λc=>U (cX (.toInt .i64) c s) Kq0:=by
 have g:0<=IntKind.u64.wrap a:=by rw[IntKind.wrap_u64];omega
 have f:(IntKind.u64.wrap a).tmod m=(IntKind.u64.wrap a)%m:=Int.tmod_eq_emod_of_nonneg g;have e:0<=(IntKind.u64.wrap a)%m:=Int.emod_nonneg _ J;have l:(IntKind.u64.wrap a)%m<m:=Int.emod_lt_of_pos _ J;refine⟨((IntKind.u64.wrap a)%m).toNat,J,λZ Kq0 b=>?_⟩;have j:cX (.toInt .u64) (I a) Z=.ok (.int .u64 (IntKind.u64.wrap a)) Z:=rfl;rw[j,af,au,RY,B J,af];have i:cX (.toInt .i64) (.int .u64 ((IntKind.u64.wrap a).tmod m)) Z=.ok (I (IntKind.i64.wrap ((IntKind.u64.wrap a).tmod m))) Z:=rfl;rw[i,af,f,bt J];rw[Int.toNat_of_nonneg e]at b;exact b
section
variable {Z s s':O} {v a:K} {S:δ StepT}
def Su (n:Nat)(m:Nat)(s:O):R .eql ψ θ (.int .u8 (n:Nat)) (.int .u8 (m:Nat)) s=.ok (.bool (decide (n=m))) s:=CU
def ahM (n:Nat)(h:n<=1000000)(s:O):R .mul ν θ (I 2) (I n) s=.ok (ζ (2*n)) s:=MR
def asp (m n:Nat)(s:O):R .leq ν φ (I m) (I n) s=.ok (.bool (decide (m<=n))) s:=Hl
set_option maxHeartbeats 2000000 in
def aaW (hv:DF Z v S)(hf:dV Z)(hl:S.length<=9223372036854775807)(ae:∀p∈S,p.small)(n:Int):Rq0 3 [I n,v] Z λy s=>y=.bool true/\Kp [] Z s:=by
 refine bE ?_;rw[w3];refine(abR hv hl ae).mono ?_;rintro _ s1 ⟨b,rfl,e1,hb⟩;obtain rfl:Z=s1:=e1.symm;cases b with
 |true=>
  simp only[Bool.true_eq_false,ii,r8,gP,bA,xl,AC,ix];exact UB hf (Kp.refl _ _)
 |false=>
 obtain⟨NY,Ev⟩:=hb rfl;simp only[aD,ix,ra,dH];refine(UB hf (Kp.refl _ _)).mono ?_;rintro _ s2 ⟨rfl,k2⟩;simp only[aW,aC,ll,Gz,ii];obtain⟨m,hm,hK⟩:=arw n 5 J J;refine hK s2 _ ?_;have ei:R .add none true (.int .i64 1) (I m) s2=.ok (I ((1+m:Nat):Int)) s2:=UG 1 m J true s2;rw[ei,af];refine(show Rq0 9 [I ((1+m:Nat):Int),.int .i64 1] s2 _ from mn.new (id:=1+m) (n:=1) hf k2 J J).mono ?_;rintro _ s4 ⟨a,g,τ,h,rfl,H0⟩;have H:GQ Z s4 h g τ (1+m) 0:=⟨S0,[],H0,hI _,hI _,V⟩;clear H0 hK ei;generalize aq:1+m=id at*;have hh:R .eql (some .ptr) true (.ptr h 0) .bq s4=.ok (.bool false) s4:=rfl;simp only[hh,zY,ii,yB];refine bD (λfu F s=>∃i,fu+i=S.length/\F=[v,.ptr g 0,.ptr h 0,I i]/\GQ Z s h g τ id i) ?_ (n:=S.length) ⟨0,rfl,rfl,H⟩;rintro fu F s6 aa ⟨i,hi,rfl,H⟩ next;have hs:=hv.keep H.kp;simp only[ke];rw[hs.len,af,dd,af,ag]
 by_cases D:i<S.length
 .rw[jp D,gq rfl];obtain⟨b,p,l,o,u,w,q1,q2,k,hu,hw⟩:=hs.at' D;obtain⟨z1,z2⟩:=Ev _ (mp D);generalize hX:S[i]=X at*
  have XK:∀f,GQ Z f h g τ id (i+1)->U (R .add none true (I i) (.int .i64 1) f) λfL=>aa [v,.ptr g 0,.ptr h 0,fL] f:=λf C=>by
   rw[fV i J,af];exact next (fu-1) _ _ J ⟨i+1,J,rfl,C⟩
  have a0:=k 0 _ rfl;have a4:=k 4 _ rfl;have a5:=k 5 _ rfl;have ap:=k 11 _ rfl;have ao:=k 12 _ rfl;have am:=k 13 _ rfl;have al:=k 14 _ rfl
  have r1:iv l (p+1) 3=some (CK X.p X.q X.r):=LN (row:=CK X.p X.q X.r) (by simp[CK]) λo x e=>by
   rw[ç];refine k (1+o) x ?_;rcases o with _|_|_|o
   .exact e
   .exact e
   .exact e
   .cases e
  have r6:iv l (p+6) 5=some (yh X.m X.key X.val X.Df X.had):=LN (row:=yh X.m X.key X.val X.Df X.had) (by simp[yh]) λo x e=>by
   rw[ç];refine k (6+o) x ?_;rcases o with _|_|_|_|_|o
   .exact e
   .exact e
   .exact e
   .exact e
   .exact e
   .cases e
  unfold yw Eo;simp only[q1,af,ah,av,nW,q2,wQ,a0,an,r1,yi];rw[show ϕ=.int .u8 ((0:Nat):Int)from rfl,show K.int .u8 3=.int .u8 ((3:Nat):Int)from rfl,show K.int .u8 4=.int .u8 ((4:Nat):Int)from rfl];rw[Su,af,ag]
  by_cases h0:X.kind=0
  .rw[jp h0,gq rfl];refine(H.see J X.p X.q X.r).mono ?_;rintro y f C;exact XK f C
  rw[jo h0,B tW,Su,af,ag]
  by_cases h3:X.kind=3
  .rw[jp h3,gq rfl];simp only[aZ,q1,af,ah,av,nW,q2,wQ,a4,a5,an,r6,yi];refine(H.write J X.c X.i X.m X.key X.val X.Df X.had).mono ?_;rintro y f C;exact⟨⟨gt,gt,gt,gt⟩,gt,XK f C⟩
  rw[jo h3,B tW,Su,af,ag]
  by_cases h4:X.kind=4
  .rw[jp h4,gq rfl];simp only[aZ,q1,af,ah,av,q2,wQ,ap,ao,am,al,an];refine(H.take J (p:=X.part) (last:=X.last) hu hw ⟨J,J⟩).mono ?_;rintro y f C;exact⟨⟨gt,gt,gt,gt,gt⟩,gt,XK f C⟩
  rw[jo h4,B tW];exact XK s6 H.skip
 .rw[jo D,B tW];obtain⟨d,P,Q,H⟩:=H.swp J;refine H.view.mono ?_;rintro _ z ⟨rfl,H⟩;refine gW rfl rfl rfl ?_;generalize ak:O.new z (.cells (fM d) 49 false)=cH;obtain⟨oR,lV,Nl⟩:=dB ak
  have H:yX Z cH h g τ id d [(z.nx,fM d,49)] [] P Q 0 true:=by
   obtain⟨L,H,r⟩:=H;exact⟨L,H.box oR (hI _) J lV,r⟩
  refine H.Ij.mono ?_;rintro _ dw ⟨pv,rfl,H⟩;simp only[u6];refine H.aB.mono ?_;rintro _ ew ⟨tO,rfl,H⟩;have n0:∀s,R .neq (some .int) true (I 0) (.int .i64 0) s=.ok (.bool false) s:=λs=>rfl;simp only[DK,n0,ix,GT,ii,yB];generalize z.nx=Bq0 at*;refine bD (λfu F s=>∃j,fu+j=2000/\F=[.ptr g 0,.ptr h 0,.ptr Bq0 0,pv,tO,I j]/\yX Z s h g τ id d [(Bq0,fM d,49)] [(tO,5,uu Q),(pv,2,cT P)] P Q j true) ?_ (n:=2000) ⟨0,rfl,rfl,H⟩;clear H next hi D hs Ev hb;rintro fu F dt aa ⟨j,hj,rfl,H⟩ next;simp only[ke];have ej:R .lss none true (I j) (.int .i64 2000) dt=.ok (.bool (decide (j<2000))) dt:=dd j 2000 dt none true
  have ai:j<2000:=by
   obtain⟨L,_,_,_,_,_,e⟩:=H;rw[gq rfl]at e;omega
  rw[ej,af,ag,jp ai,gq rfl];refine(H.Rg J).mono ?_;rintro _ dA ⟨N,rfl,H⟩;simp only[n0,zY,ii];refine H.Ij.mono ?_;rintro _ eP ⟨GV,rfl,H⟩;simp only[u6];refine H.aB.mono ?_;rintro _ oJ ⟨DH,rfl,H⟩;have Ki:=(H.box (Bq0,fM d,49) V).2;simp only[DK,n0,aZ,ix,DI,ii,dH];refine H.view.mono ?_;rintro _ jd ⟨rfl,H⟩;have aj:=(H.box (Bq0,fM d,49) V).2;have W:=aG (n:=6) Ki rfl;have T:=aG (n:=6) aj rfl;dsimp only at W T;simp only[T,Vz,ix,DI,ii,dH];obtain⟨X,jV⟩:=H.rows;obtain⟨p1,p2⟩:=H.lens;have M:=jV (pv,2,cT P) V;have G:=jV (tO,5,uu Q) V;have ac:=jV (GV,2,cT P) V;have ab:=jV (DH,5,uu Q) V;refine(abe M ac J).mono ?_;rintro _ fO ⟨rfl,rfl⟩;simp only[Gz,ix,DI,ii,dH];refine(abd G ab J).mono ?_;rintro _ ug ⟨rfl,rfl⟩;simp only[bZ,ï,ix,tw,ii,W];refine⟨⟨⟨gt,gt⟩,gt⟩,gt,?_⟩;cases N with
  |true=>
   simp only[r8,pi,ii];rw[fV j J,af];exact next (fu-1) _ _ J ⟨j+1,J,rfl,H.drop.drop⟩
  |false=>
   simp only[ra,ix];refine(show Rq0 19 [.ptr g 0,.int .i64 9,.str [],.str []] _ _ from H.range).mono ?_;rintro _ iV ⟨OI,c,rfl,ad,Y,D⟩;have e0:R .eql (some .int) true (I 0) (.int .i64 0) iV=.ok (.bool true) iV:=rfl;simp only[u6,e0,ix,aW,Y,M.ig,G.Np,AC];rw[ahM _ J,af,ahM _ J,af,UG _ _ J,af,show R .add none true (I ((2*P.length+2*Q.length:Nat):Int)) (.int .i64 4) iV=_ from UG _ 4 J true iV,af,asp,af,jp J];exact⟨rfl,H.kp.trans ad⟩
end
