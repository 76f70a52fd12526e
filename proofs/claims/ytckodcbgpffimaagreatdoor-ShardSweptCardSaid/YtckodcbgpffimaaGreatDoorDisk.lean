import Derived.Test.YtckodcbgpffimaaGreatDoorWa
import Derived.Test.YtckodcbgpffimaaGreatDoorLimJ
namespace Lim
open Go
noncomputable section
set_option linter.defProp false
set_option maxRecDepth 100000
section
variable {X:δ Nat}{v:K}{k:Nat}{L:δ K}{i:Int}
def Rq0.same {f:Nat}{args:δ K}{Z:O}{x:K}{Q:K->O->Prop}(h:Rq0 f args Z λv Z'=>v=x/\Z'=Z)(b:Q x Z):Rq0 f args Z Q:=Rq0.mono h (by rintro _ _ ⟨rfl,rfl⟩;exact b)
def JG (e:Nat)(z:δ K)(Z:O):bB e 0 (cr 0 z) [] Z=.ok (.slice Z.nx 0 0 0 0) (O.new Z (.cells [] e false)):=rfl
def Own.empty (Z:O)(k e:Nat):Own (O.new Z (.cells [] e false)) (.slice Z.nx 0 0 0 0) k e [] [Z.nx]:=.inr (.inl ⟨Z.nx,[],e,φ,rfl,rfl,rfl,V⟩)
def ry (k e:Nat)(v:K)(L:δ K)(Z:O)(x:K)(Z':O):Prop:=∃F',Kp [] Z Z'/\Own Z' x k e L F'/\(∀b∈F',Z.nx<=b/\b<Z'.nx)/\(v=.ae->x=.ae)
def Cl {Z:O}{e:Nat}(bytes:Nat){z:δ K}(h:Sl Z X v k L)(r:0<k)(p:bh L=θ)(d:L.length*(bytes+1)<=140737488355328):
 U (R .eql (Φ .slice) true v .ae Z) λo=>aA o (ry k e v L Z .ae Z)
  (E (bB e 0 (cr 0 z) [] Z) λm g=>E (bI e k bytes m (cZ .slice k z v g) g) λl s2=>ry k e v L Z l s2):=by
 by_cases c:v=.ae
 .subst c
  have:L=[]:=by
   rcases h with⟨_,h⟩|⟨b,off,len,cap,grow,f,_⟩
   .exact h
   .cases f
  subst this;simp;exact⟨[],Δ _ _,.inl ⟨rfl,rfl,rfl⟩,V,λ_=>rfl⟩
 .have f:U (R .eql (Φ .slice) true v .ae Z)=U (.ok Θ Z):=by
   rcases h with⟨h,_⟩|⟨b,off,len,cap,grow,h,_⟩
   .exact absurd h c
   .subst h;rfl
  rw[f];have j:Kp [] Z (O.new Z (.cells [] e false)):=(Δ [] Z).new _;have q:=(h.fc (Y:=[]) V).mono j;obtain⟨n,H,G⟩:=q.src z;obtain⟨v',Z',F',C,h5,y,x⟩:=(Own.empty Z k e).append (bytes:=bytes) (T:=L) r H p V (by simpa using d);simp only[ll,ii,JG,aP,G,C];refine⟨F',j.trans y V,aeq,λb s=>?_,λe=>absurd e c⟩;obtain⟨w,u⟩:=x b s;refine⟨?_,u⟩;simp only[If,ym]at w;omega
def yL {Z:O}{s:δ Γ}(h:Sl Z X v 1 (al s))(b:s.length<=1000000000):Rq0 134 [v] Z (ry 1 5 v (al s) Z):=by
 refine bE ?_;rw[aqx];exact Cl 1 h J (uq s) xI
def yK {Z:O}(h:Sl Z X v 4 L)(b:bh L=θ)(c:L.length<=1000000000):Rq0 177 [v] Z (ry 4 255 v L Z):=by
 refine bE ?_;rw[apS];exact Cl 48 h J b J
def Cm {Z:O}(h:Sl Z X v 1 L)(b:bh L=θ)(c:L.length<=1000000000):Rq0 215 [v] Z (ry 1 3 v L Z):=by
 refine bE ?_;rw[aps];exact Cl 8 h J b J
abbrev kh:=δ Γ
abbrev ru:=Nat×kh
structure aX where
 aB:List kh
 waits:List ru
 done:Int
 dead:Bool
 set:Bool
 left:Int
 keep:List Bool
def IG:δ ru->Int->υ Nat
 |[],_=>ν
 |w::r,i=>if i=w.1 then Φ r.length else IG r i
def qi (l:δ ru)(i:Int):υ Nat:=IG l.reverse i
def wV (i:Int):qi [] i=ν:=rfl
def zX (l:δ ru)(w:ru)(i:Int):qi (l++[w]) i=if i=w.1 then Φ l.length else qi l i:=by simp[qi,IG]
def Sr {l:δ ru}(h:IG l i=Φ k):k<l.length:=by
 induction l with
 |nil=>cases h
 |cons w r b=>
  simp only[IG]at h
  split at h
  .cases h;simp
  .have:=b h;simp;omega
def zm {l:δ ru}(h:qi l i=Φ k):k<l.length:=by simpa using Sr h
def aX.cur (D:aX)(i:Nat):kh:=match qi D.waits i with|some k=>(D.waits.getD k (0,[])).2|none=>D.aB.getD i []
def ie (kept:Nat->Bool):Nat->δ kh->δ ru->δ kh
 |_,L,[]=>L
 |i,L,w::r=>ie kept (i+1) (if kept i=θ then L.set w.1 w.2 else L) r
def qI (kept:Nat->Bool)(i:Nat)(L:δ kh)(W:δ ru):(ie kept i L W).length=L.length:=by
 induction W generalizing i L with
 |nil=>rfl
 |cons w r b=>simp only[ie];rw[b];split<;>simp
def aX.settle (D:aX)(kept:Nat->Bool):aX:={D with aB:=ie kept 0 D.aB D.waits,waits:=[]}
def Bz (l:δ Bool)(i:Nat):Bool:=l.getD i false
def aX.Ag (D:aX)(keep:δ Bool):aX:={D.settle (Bz keep)with dead:=θ}
def aX.tick (D:aX):aX:={D with left:=IntKind.i64.wrap (D.left-1),done:=IntKind.i64.wrap (D.done+1)}
def aX.out (D:aX):Prop:=D.set=θ/\D.left=0
instance (D:aX):Decidable D.out:=by unfold aX.out;infer_instance
def aX.write (D:aX)(i:Int)(b:kh):Int×aX:=
 if D.dead=θ then (20,D)else if i<0\/(D.aB.length:Int)<=i\/b.length≠512 then (1,D)
 else if D.out then (20,{D with waits:=D.waits++[(i.toNat,b)]}.Ag D.keep)else (0,{D with waits:=D.waits++[(i.toNat,b)]}.tick)
def aX.flush (D:aX):Int×aX:=if D.dead=θ then (20,D)else if D.out then (20,D.Ag D.keep)else (0,(D.tick).settle λ_=>true)
def aX.read (D:aX)(i:Int):Int×kh:=if D.dead=θ then (20,[])else if i<0\/(D.aB.length:Int)<=i then (1,[])else (0,D.cur i.toNat)
def oN (l:δ kh):δ K:=(l.map al).flatten
def wI (w:ru):δ K:=I w.1::al w.2
def iT (l:δ ru):δ K:=(l.map wI).flatten
structure jb (Z:O)(a:Nat)(F:List Nat)(D:aX)(vl vw vk:K)(bl bm:Nat)(Fw Fk:List Nat):Prop where
 eq:F=a::bl::bm::(Fw++Fk)
 nd:F.Nodup
 lt:∀b∈F,b<Z.nx
 main:Z.m.g a=some (.cells [vl,vw,.map bm,I D.done,.bool D.dead,.bool D.set,I D.left,vk] 153 false)
 aB:Row Z vl 512 D.aB.length (oN D.aB) bl
 waits:Own Z vw 513 272 (iT D.waits) Fw
 now:∃m,ef Z bm m/\∀i,kz m i=(qi D.waits i).map λk:Nat=>I (Int.ofNat k)
 keep:Own Z vk 1 4 (D.keep.map .bool) Fk
 C1:∀s∈D.aB,s.length=512
 Am:∀w∈D.waits,w.2.length=512/\w.1<D.aB.length
 size:D.aB.length<=65536
def dz (Z:O)(a:Nat)(F:δ Nat)(D:aX):Prop:=∃vl vw vk bl bm Fw Fk,jb Z a F D vl vw vk bl bm Fw Fk
def Fq {l:δ kh}(h:∀s∈l,s.length=512):∀x∈l.map al,x.length=512:=by
 intro x b;obtain⟨s,c,rfl⟩:=lm.1 b;simpa using h s c
def tY {l:δ ru}{n:Nat}(h:∀w∈l,w.2.length=512/\w.1<n):∀x∈l.map wI,x.length=513:=by
 intro x b;obtain⟨s,c,rfl⟩:=lm.1 b;simpa[wI]using (h s c).1
section
variable {Z Z':O} {a:Nat} {F:δ Nat} {D D':aX} {vl vw vk:K} {bl bm:Nat} {Fw Fk:δ Nat}
def jb.mono (h:jb Z a F D vl vw vk bl bm Fw Fk)(d:Z.nx<=Z'.nx)(e:∀b∈F,Z'.m.g b=Z.m.g b):jb Z' a F D vl vw vk bl bm Fw Fk:=by
 have c:=λb hb=>e b afi;obtain⟨m,j,f⟩:=h.now
 exact⟨h.eq,h.nd,λb hb=>ov (h.lt b hb) d,by rw[c a (.inl rfl)];exact h.main,h.aB.mono (c bl (.inr (.inl rfl))),h.waits.mono λb hb=>c b (.inr (.inr (.inr (.inl hb)))),
  ⟨m,j.mono (c bm (.inr (.inr (.inl rfl)))),f⟩,h.keep.mono λb hb=>c b (.inr (.inr (.inr (.inr hb)))),h.C1,h.Am,h.size⟩
def dz.keep (h:dz Z a F D)(c:Kp X Z Z')(e:∀b∈F,b∉X):dz Z' a F D:=by
 obtain⟨vl,vw,vk,bl,bm,Fw,Fk,h⟩:=h;exact⟨vl,vw,vk,bl,bm,Fw,Fk,h.mono c.nx λb d=>c.keep b (h.lt b d) (e b d)⟩
def dz.lt (h:dz Z a F D):∀b∈F,b<Z.nx:=by obtain⟨vl,vw,vk,bl,bm,Fw,Fk,h⟩:=h;exact h.lt
def jb.m (h:jb Z a F D vl vw vk bl bm Fw Fk):a∈F:=afV
def jb.apart (h:jb Z a F D vl vw vk bl bm Fw Fk):(a≠bl/\a≠bm/\a∉Fw/\a∉Fk)/\(bl≠bm/\bl∉Fw/\bl∉Fk)/\(bm∉Fw/\bm∉Fk)/\Fw.Nodup/\Fk.Nodup/\∀b∈Fw,b∉Fk:=by
 have nd:=h.nd;rw[h.eq]at nd;simp only[me,ip,lh,rt,zy]at nd;obtain⟨⟨n,m,l,j⟩,⟨g,f,e⟩,⟨d,c⟩,q,s,r⟩:=nd;exact⟨⟨n,m,l,j⟩,⟨g,f,e⟩,⟨d,c⟩,q,s,λb p o=>r b p b o rfl⟩
def jb.Kq (h:jb Z a F D vl vw vk bl bm Fw Fk)(d:D'.aB=D.aB)(f:D'.waits=D.waits)(x:D'.keep=D.keep)
 (p:Z.nx<=Z'.nx) (q:Z'.m.g a=Φ (Ð [vl,vw,.map bm,I D'.done,.bool D'.dead,.bool D'.set,I D'.left,vk])) (r:∀b∈F,b≠a->Z'.m.g b=Z.m.g b):jb Z' a F D' vl vw vk bl bm Fw Fk:=by
 obtain⟨⟨o,n,l,j⟩,_⟩:=h.apart;have s:∀b,b=bl\/b=bm\/b∈Fw\/b∈Fk->b∈F:=λb c=>by rw[h.eq];simp only[ip,lh];exact .inr c
 have kp:=λb c=>r b (s b c) (by
  intro e;subst e;rcases c with e|e|e|e
  .exact o e
  .exact n e
  .exact l e
  .exact j e)
 obtain⟨m,w,u⟩:=h.now
 exact⟨h.eq,h.nd,λb c=>ov (h.lt b c) p,q,by rw[d];exact h.aB.mono (kp bl (.inl rfl)),by rw[f];exact h.waits.mono λb c=>kp b (.inr (.inr (.inl c))),
  ⟨m,w.mono (kp bm (.inr (.inl rfl))),by rw[f];exact u⟩,by rw[x];exact h.keep.mono λb c=>kp b (.inr (.inr (.inr c))),
  by rw[d];exact h.C1,by rw[d,f];exact h.Am,by rw[d];exact h.size⟩
def Cu (h:dz Z a F D):Rq0 61 [.ptr a 0] Z λv Z'=>v=I (if D.dead=θ then 20 else 0)/\Z'=Z:=by
 obtain⟨vl,vw,vk,bl,bm,Fw,Fk,h⟩:=h;refine bE ?_;rw[w61];simp[fP,h.main]
def zl (h:dz Z a F D):Rq0 108 [.ptr a 0] Z λv Z'=>v=I D.aB.length/\Z'=Z:=by
 obtain⟨vl,vw,vk,bl,bm,Fw,Fk,h⟩:=h;obtain⟨t,g,gr,b,e,d,c⟩:=h.aB;refine bE ?_;rw[aqR];subst b;simp[fP,h.main]
def XW (h:dz Z a F D):Rq0 26 [.ptr a 0] Z λv Z'=>v=.bool D.dead/\Z'=Z:=by
 obtain⟨vl,vw,vk,bl,bm,Fw,Fk,h⟩:=h;refine bE ?_;rw[w26];simp[lI,h.main]
def JF (h:jb Z a F D vl vw vk bl bm Fw Fk):
 Rq0 167 [.ptr a 0] Z λv Z'=>if D.out then v=.bool true/\Z'=Z else v=.bool false/\Kp F Z Z'/\Z'.nx=Z.nx/\jb Z' a F D.tick vl vw vk bl bm Fw Fk:=by
 refine bE ?_;rw[aqc]
 by_cases d:D.set=θ<;>by_cases c:D.left=0<;>
  simp[fP,zu,oE,CY,sq,h.main,bC,eK,cW,yd,mN,zE,fR,andThen,iv,d,c,aX.out]
 all_goals exact⟨(Δ F Z).set _ (.inl h.m) (h.lt a h.m),h.Kq rfl rfl rfl (hI _) (by simp[d,c,aX.tick]) λb f e=>ar _ _ _ _ e⟩
end
end
section
variable {Z Z':O} {a:Nat} {F:δ Nat} {D D':aX} {vl vw vk:K} {bl bm:Nat} {Fw Fk:δ Nat}
def AL {b:Type}{l:δ b}{i:Nat}(h:i<l.length)(d:b):l.getD i d=l[i]:=by simp[List.getD,h]
def XX (h:jb Z a F D vl vw vk bl bm Fw Fk){i:Nat}(hi:i<D.aB.length):(D.cur i).length=512:=by
 unfold aX.cur;cases hx:qi D.waits i with
 |none=>
  show(D.aB.getD i []).length=_;rw[AL hi];exact h.C1 _ (mp ..)
 |some k=>
  have:=zm hx;show((D.waits.getD k (0,[])).2).length=_;rw[AL this];exact(h.Am _ (mp ..)).1
def bK (s:kh):bh (al s)=θ:=uq s
def db (l t:δ K)(h:t.length=l.length):bC l 0 t=t:=by
 unfold bC;rw[S6,ow,ys J,zo]
def Row.Bt {v:K}{k n b:Nat}{L:δ (δ K)}(h:Row Z v k n L.flatten b)(c:∀x∈L,x.length=k)(j:L.length=n){i:Nat}(hi:i<n)(Q:K->Prop)(d:Q (.agg L[i])):Lim.fj k k v (I i) Z Q:=by
 obtain⟨t,g,gr,rfl,l,f,e⟩:=h;unfold Lim.fj;rw[iq hi (.inr (hI _))];simp only[af,nW,e,ak,yj,oa];rw[uE c i J]
 exact⟨by rw[f];calc i*k+k=(i+1)*k:=by rw[tx,Li]
  _<=n*k:=zv k hi,d⟩
def Own.row {v:K}{k e:Nat}{L:δ K}{F:δ Nat}(h:Own Z v k e L F)(c:0<L.length):∃b n,F=[b]/\Row Z v k n L b/\v=.slice b 0 n n k/\L.length=n*k/\Z.m.g b=Φ (.cells L e true):=by
 rcases h with⟨rfl,rfl,rfl⟩|⟨b,l,t,g,rfl,rfl,rfl,i⟩|⟨b,m,rfl,j,f,rfl,d⟩
 .simp at c
 .simp at c
 .exact⟨b,m,rfl,⟨e,θ,k,rfl,.inr rfl,f,d⟩,rfl,f,d⟩
def uX (h:jb Z a F D vl vw vk bl bm Fw Fk)(f:0<D.waits.length):∃b,Fw=[b]/\vw=.slice b 0 D.waits.length D.waits.length 513/\Z.m.g b=Φ (.cells (iT D.waits) 272 true):=by
 have i:(iT D.waits).length=D.waits.length*513:=by
  unfold iT;rw[dU (tY h.Am)];simp
 obtain⟨b,n,e,k,d,j,c⟩:=h.waits.row J;have:n=D.waits.length:=J
 subst this;exact⟨b,e,d,c⟩
def Got (s:kh)(Z:O)(v:K)(Z':O):Prop:=Kp [] Z Z'/\s.length=512/\∃b,v=.tuple [.slice b 0 512 512 1,μ]/\Z'.m.g b=Φ (.cells (al s) 5 true)/\Z.nx<=b/\b<Z'.nx
def FC (h:dz Z a F D)(i:Int):Rq0 107 [.ptr a 0,I i] Z λv Z'=>if (D.read i).1=0 then Got (D.read i).2 Z v Z' else v=.tuple [.ae,I (D.read i).1]/\Z'=Z:=by
 have h0:=h;obtain⟨vl,vw,vk,bl,bm,Fw,Fk,h⟩:=h;refine bE ?_;rw[aqS];refine(Cu h0).mono ?_;rintro _ _ ⟨rfl,rfl⟩;rename_i c;unfold aX.read
 by_cases q:D.dead=θ
 .simp[q]
 .obtain⟨t,g,gr,hv,h1,h2,h3⟩:=h.aB;have f:∀s:O,aY .slice vl s=.ok (I D.aB.length) s:=by intro s;subst hv;rfl
  by_cases H:i<0
  .simp[q,H,lI]
  .by_cases I7:(D.aB.length:Int)<=i
   .simp[q,H,I7,lI,h.main,f]
   .obtain⟨n,rfl⟩:∃n:Nat,i=n:=⟨i.toNat,J⟩;have w:n<D.aB.length:=by omega
    have jV:=h.aB;have ha:=h.lt a h.m;have C:=h.lt bm afV;have j:=XX h w;obtain⟨m,Dk,Ve⟩:=h.now
    have p:∀d:O,Kp [] c d->c.nx<d.nx->d.m.g c.nx=Φ (Ó (al (D.cur n)))->
     U (cD 512 1 (.ptr c.nx 0) ν ν d) λdP=>Rq0 134 [dP] d λdE Y=>Got (D.cur n) c (.tuple [dE,μ]) Y:=by
     intro d l hb hg;have e:cD 512 1 (.ptr c.nx 0) ν ν d=.ok (.slice c.nx 0 512 512 0) d:=rfl;rw[e,af];have lP:Sl d [] (.slice c.nx 0 512 512 0) 1 (al (D.cur n)):=.inr ⟨c.nx,0,512,512,0,rfl,by simp[j],⟨hI _,.inl rfl⟩,.inr ⟨V,hb,_,156,φ,hg,by simp[j],by rw[tu,lw (by simp[j])]⟩⟩;refine(yL lP J).mono ?_;rintro x X ⟨F',k1,k2,N,k4⟩;refine⟨l.trans k1 V,j,?_⟩;obtain⟨b,n',M,q2,q3,q4,q5⟩:=k2.row (by simp[j]);have:n'=512:=by simp[j]at q4;omega
     subst this;exact⟨b,by rw[q3],q5,rx l.nx (N b (by simp[M])).1,(N b (by simp[M])).2⟩
    simp[q,H,lI,fP,h.main,f,Int.not_le.mpr (show(n:Int)<D.aB.length by omega)];refine jV.Bt (L:=D.aB.map al) (Fq h.C1) V w _ ?_;have y:(O.new c (Ó (zr 512))).m.g a=_:=(bo _ _ _ ha).trans h.main;have S:(al (D.aB[n])).length=512:=by simpa using h.C1 _ (mp ..)
    have G:a≠c.nx:=J
    have BO:(O.set (O.new c (Ó (zr 512))) c.nx (Ó (bC (zr 512) 0 (al D.aB[n])))).m.g bm=c.m.g bm:=by rw[ar _ _ _ _ J,bo _ _ _ C]
    have T:=(IsMap.lookup (.inl Dk) μ true n _ BO);rw[gq rfl,Ve]at T;simp[aN,S,bK,ar _ _ _ _ G,y,T];have o:∀blk,Kp [] c (O.set (O.new c (Ó (zr 512))) c.nx blk):=λblk=>((Δ [] c).new _).set blk (.inr (hI _)) V;have P:(zr 512).length=512:=F0;cases hx:qi D.waits n with
    |none=>
     simp;refine p _ (o _) V ?_;rw[ao,db _ _ (by rw[S,P])];have e:D.cur n=D.aB[n]:=by unfold aX.cur;rw[hx];exact AL w _
     rw[e]
    |some k=>
     have l:=zm hx;obtain⟨Q,LY,G0,U9⟩:=uX h J;have z:=h.lt Q (by rw[h.eq,LY];simp);have r:(al (D.waits[k]).2).length=512:=by simpa using (h.Am _ (mp ..)).1
     have W:(((iT D.waits).drop (k*513+1)).take 512)=al (D.waits[k]).2:=by
      unfold iT;rw[TN (tY h.Am) k (by simpa using l) 1 512 J];simp only[S7,wI,List.drop_succ_cons,tu];rw[lw J]
     have u:k*513+1+512<=(iT D.waits).length:=by
      unfold iT;rw[dU (tY h.Am)];simp;omega
     simp[Eo,G0,iq l (.inr (hI _)),ar _ _ _ _ (show Q≠c.nx from J),bo _ _ _ z,U9,W,u,bK];refine⟨J,p _ (o _) V ?_⟩;rw[ao,db _ _ (by rw[om _ _ _ J,r,P])];have e:D.cur n=(D.waits[k]).2:=by unfold aX.cur;rw[hx];exact congrArg Prod.snd (AL l _)
     rw[e]
end
section
variable {Z Z':O} {a:Nat} {F:δ Nat} {D D':aX} {vl vw vk:K} {bl bm:Nat} {Fw Fk:δ Nat}
def amd (Z:O)(F:δ Nat)(f:K)(n:Nat)(kept:Nat->Bool):Prop:=∀i<n,∀s,Kp F Z s->∀Q:K->O->Prop,Q (.bool (kept i)) s->eJ Rq0 f [I i] s Q
def Ye (a:Nat)(F:δ Nat)(Z:O)(D:aX)(v:K)(Z':O):Prop:=v=.undef/\Kp F Z Z'/\∃F',dz Z' a F' D/\(∀b∈F',b∈F\/Z.nx<=b)
def DR {f:K}{kept:Nat->Bool}(h:jb Z a F D vl vw vk bl bm Fw Fk)(hw:D.waits.length<=1000000000)(hf:amd Z [a,bl] f D.waits.length kept):Rq0 170 [.ptr a 0,f] Z (Ye a F Z (D.settle kept)):=by
 refine bE ?_;rw[apZ]
 have N:∀s:O,aY .slice vw s=.ok (I D.waits.length) s:=by
  intro s
  by_cases h0:0<D.waits.length
  .obtain⟨b,h1,h2,S⟩:=uX h h0;subst h2;rfl
  .have e:iT D.waits=[]:=by
    have:D.waits=[]:=sS.1 J;rw[this];rfl
   have W:D.waits.length=0:=J
   rcases h.waits with⟨rfl,_⟩|⟨b,l,t,g,rfl,_⟩|⟨b,n,rfl,h2,S,_⟩
   .rw[W];rfl
   .rw[W];rfl
   .rw[e]at S;simp at S;omega
 simp[fP,h.main,N];refine bD (λn vs s=>∃i L,i+n=D.waits.length/\vs=[.ptr a 0,f,vw,I D.waits.length,I i]/\Kp [a,bl] Z s/\jb s a F {D with aB:=L} vl vw vk bl bm Fw Fk/\L.length=D.aB.length/\ie kept i L (D.waits.drop i)=(D.settle kept).aB) ?_ (n:=D.waits.length) ⟨0,D.aB,V,rfl,Δ _ _,h,rfl,by simp[aX.settle]⟩;rintro n vs s k ⟨i,L,hi,rfl,u,c,hL,hs⟩ next;obtain⟨⟨M,n2,n3,n4⟩,⟨n5,n6,n7⟩,⟨n8,n9⟩,Po,LI,Nl⟩:=c.apart
 have d:∀b,b=a\/b=bl\/b=bm\/b∈Fw\/b∈Fk->b∈F/\b<s.nx:=λb hb=>by
  have:b∈F:=afi
  exact⟨this,c.lt b this⟩
 by_cases hc:i<D.waits.length
 .have fB:(i:Int)<D.waits.length:=by omega
  obtain⟨bw,LY,H,U9⟩:=uX c (by simpa using Nat.lt_of_le_of_lt (sw _) hc);simp at H U9;have ac:=d bw (by simp[LY]);have y:=tY c.Am
  have jV:((iT D.waits).drop (i*513)).take 513=wI D.waits[i]:=by
   unfold iT;rw[uE y i EV];simp
  have SY:i*513+513<=(iT D.waits).length:=by unfold iT;rw[dU y];simp;omega
  have j:=c.Am _ (mp (l:=D.waits) hc);have wy:(wI D.waits[i]).length=513:=by simp[wI,j.1]
  have ln:bh (wI D.waits[i])=θ:=by simp[wI,bK]
  have hz:([K.int .i64 0]++zr 512).length=513:=V
  have wr:IntKind.i64.wrap ((i:Int)+1)=((i+1:Nat):Int):=aaD
  simp[fB,fj,H,iq hc (.inr (hI _)),U9,jV,SY,ln];rw[db _ _ (by rw[wy];simp)];refine⟨J,hf i hc _ ((u.new _).set _ (.inr u.nx) V) _ ?_⟩;have v:=c.main;have r:=d a (.inl rfl);have vu:=d bl (.inr (.inl rfl));obtain⟨t,g,gr,hv,e1,W,e3⟩:=c.aB;simp at hv;have G:(D.waits[i]).1<L.length:=j.2;have Hc:Kp [a,bl] Z (O.set (O.new s (Ñ (K.int .i64 0::zr 512))) s.nx (Ñ (wI D.waits[i]))):=(u.new _).set _ (.inr u.nx) V
  have o:jb (O.set (O.new s (Ñ (K.int .i64 0::zr 512))) s.nx (Ñ (wI D.waits[i]))) a F {D with aB:=L} vl vw vk bl bm Fw Fk:=c.mono V λb hb=>by
   have:=c.lt b hb;rw[ar _ _ _ _ J,bo _ _ _ this]
  have Y:=(show bl∈F/\bl<_ from⟨vu.1,o.lt bl vu.1⟩);have Tl:=vT hc;rw[Tl]at hs;simp only[ie]at hs;cases Dm:kept i with
  |false=>
   rw[Dm]at hs;simp[wr];exact next (n-1) _ _ J ⟨i+1,L,J,by simp[H],Hc,o,hL,acp⟩
  |true=>
   rw[Dm]at hs;have CP:(al (D.waits[i]).2).length=512:=by simpa using j.1
   have z:=Fq (l:=L) c.C1;have Zx:(D.waits[i]).1*512+512<=(oN L).length:=by unfold oN;rw[dU z];simp;omega
   have P:∀h:0<(wI (D.waits[i]'hc)).length,(wI (D.waits[i]'hc))[0]'h=I (D.waits[i]'hc).1:=λ_=>rfl
   have ab:List.take 512 (wI D.waits[i]).tail=al (D.waits[i]).2:=by
    show List.take 512 (al (D.waits[i]).2)=_;rw[lw J]
   have Ve:=o.main;have PN:=o.aB;obtain⟨t',g',T,G8,X,ad,C⟩:=PN;simp only at C;simp[Ve,P,wy,ab,hv,iq G (.inr (hI _)),C,Zx,CP,bK,wr];refine next (n-1) _ _ J ⟨i+1,L.set (D.waits[i]).1 (D.waits[i]).2,J,by simp[H],Hc.set _ (.inl V) Y.2,?_,by simpa using hL,acp⟩
   have BH:bC (oN L) ((D.waits[i]).1*512) (al (D.waits[i]).2)=oN (L.set (D.waits[i]).1 (D.waits[i]).2):=by
    unfold oN;rw[zw z _ (by simpa using G) _ CP,List.map_set]
   rw[BH];obtain⟨m,Dk,aa⟩:=o.now;refine⟨o.eq,o.nd,o.lt,?_,⟨t',g',T,by simpa using G8,X,?_,V⟩,o.waits.mono λb hb=>ar _ _ _ _ λe=>n6 (e▸hb),⟨m,Dk.mono (ar _ _ _ _ (ny n5)),aa⟩,o.keep.mono λb hb=>ar _ _ _ _ λe=>n7 (e▸hb),?_,?_,?_⟩
   .rw[ar _ _ _ _ M];exact o.main
   .have:∀x∈L.set (D.waits[i]).1 (D.waits[i]).2,x.length=512:=λx p=>by
     rcases aNh p with p|rfl
     .exact c.C1 x p
     .exact j.1
    unfold oN;rw[dU (Fq this)];simp
   .intro x p;rcases aNh p with p|rfl
    .exact c.C1 x p
    .exact j.1
   .intro w hw;simpa using c.Am w hw
   .simpa using c.size
 .have fB:¬(i:Int)<D.waits.length:=by omega
  have r:=d a (.inl rfl);have v:(O.new s (.map [] 0)).m.g a=_:=(bo _ _ _ r.2).trans c.main;simp[fB,sq,v,bC];have xB:i=D.waits.length:=J
  rw[xB,List.drop_length]at hs;simp only[ie]at hs;have Q:Kp F Z (O.set (O.new s (.map [] 0)) a (Ð [vl,.ae,.map s.nx,I D.done,.bool D.dead,.bool D.set,I D.left,vk])):=((u.mono (by simp only[ip,wn,PP];rintro q (rfl|rfl);exact .inl r.1;exact .inl (d _ V).1)).new _).set _ (.inl r.1) (by have:=r.2;simp;omega);refine⟨rfl,Q,a::bl::s.nx::([]++Fk),⟨vl,.ae,vk,bl,s.nx,[],Fk,rfl,?_,?_,by simp[aX.settle],?_,.inl ⟨rfl,rfl,rfl⟩,⟨[],?_,λi=>rfl⟩,?_,?_,by simp[aX.settle],?_⟩,?_⟩
  .have hF:∀b∈Fk,b≠s.nx:=λb hb=>Nat.ne_of_lt (d b OG).2;simp only[me,ip,ow,rt];exact⟨⟨M,Nat.ne_of_lt r.2,n4⟩,⟨Nat.ne_of_lt (d bl V).2,n7⟩,λh=>hF _ h rfl,LI⟩
  .intro b hb;simp only[ip,ow]at hb;simp;rcases hb with rfl|rfl|rfl|hb
   .omega
   .have:=(d b V).2;omega
   .omega
   .have:=(d b OG).2;omega
  .have:=c.aB;have xi:L=ie kept 0 D.aB D.waits:=hs;simp only[aX.settle,<-xi];exact this.mono ((ar _ _ _ _ (ny M)).trans (bo _ _ _ (d bl V).2))
  .refine(ef.new s).mono ?_;exact ar _ _ _ _ J
  .refine c.keep.mono λb hb=>?_;exact(ar _ _ _ _ (λe:b=a=>n4 (e▸hb))).trans (bo _ _ _ (d b OG).2)
  .simp only[aX.settle]at hs⊢;rw[<-hs];exact c.C1
  .simp only[aX.settle,qI];exact h.size
  .intro b hb;simp only[ip,ow]at hb;rcases hb with rfl|rfl|rfl|hb
   .exact .inl r.1
   .exact .inl (d b V).1
   .exact .inr u.nx
   .exact .inl (d b OG).1
end
section
variable {Z Z':O} {a:Nat} {F:δ Nat} {D D':aX} {vl vw vk:K} {bl bm:Nat} {Fw Fk:δ Nat}
abbrev Ux (l:δ Bool):δ K:=l.map .bool
def Sl.bM {X:δ Nat}{v:K}{k:Nat}{L:δ K}(h:Sl Z X v k L):v.isAny=φ/\cI v=θ/\v.bY=[v]:=by
 rcases h with⟨rfl,_⟩|⟨b,off,len,cap,grow,rfl,_⟩<;>exact⟨rfl,rfl,rfl⟩
def WO {v:K}{keep:δ Bool}{b:Nat}(h:Sl Z [] v 1 (Ux keep))(d:Z.m.g b=Φ (.cells [v] 70 false))(i:Nat){Q:K->O->Prop}(c:Q (.bool (Bz keep i)) Z):Rq0 210 [I i,.ptr b 0] Z Q:=by
 refine bE ?_;rw[apx];have hl:=h.len keep.length V J Z;simp only[av,d,io,hl,rb]
 by_cases hi:i<keep.length
 .simp[hi,d];have:Gh (Φ true) 1 v (I i) Z=Lim.idx 1 v (I i) Z:=rfl;rw[this];refine h.idx J9 _ ?_
  simpa[Bz,List.getD,hi]using c
 .simp[hi,Gh,de]
  simpa[Bz,List.getD,In (show keep.length<=i from J)]using c
def zG (a:Nat)(F:δ Nat)(Z:O)(D:aX)(Z':O):Prop:=Kp F Z Z'/\∃F',dz Z' a F' D/\(∀b∈F',b∈F\/Z.nx<=b)
def Jy (h:jb Z a F D vl vw vk bl bm Fw Fk){v:K}{keep:δ Bool}(n:D.waits.length<=1000000000)(g:Sl Z [a,bl] v 1 (Ux keep)):Rq0 168 [.ptr a 0,v] Z λ_ Z'=>zG a F Z (D.Ag keep) Z':=by
 refine bE ?_;rw[aqb];obtain⟨k,q,j⟩:=g.bM;have r:=h.lt a h.m;simp[k];rw[j];have d:Kp [] Z (O.new Z (.cells [v] 70 false)):=(Δ [] Z).new _;have h1:=h.mono d.nx λb e=>bo _ _ _ (h.lt b e);refine(DR h1 n (kept:=Bz keep) ?_).mono ?_
 .intro i hi s hs Q o;rw[dv];refine WO (v:=v) (keep:=keep) ?_ (b:=Z.nx) ?_ i o
  .exact((g.mono (d.mono V)).mono hs).fc V
  .rw[hs.keep _ V (by simp;exact⟨J,by have:=h.lt bl afV;omega⟩)];simp
 .rintro _ s ⟨rfl,h2,F',c,p⟩;obtain⟨vl,vw,vk,bl,bm,Fw,Fk,c⟩:=c;have f:=λb e=>(p b e).imp id λh=>rx d.nx h;simp[sq,c.main,bC];refine⟨((d.mono (G:=F) V).trans h2 lk).set _ (.inl h.m) (c.lt a c.m),F',⟨vl,vw,vk,bl,bm,Fw,Fk,c.Kq rfl rfl rfl (hI _) ?_ λb e l=>ar _ _ _ _ l⟩,f⟩;simp[aX.Ag,aX.settle]
def Ny (h:jb Z a F D vl vw vk bl bm Fw Fk):Sl Z [a,bl] vk 1 (Ux D.keep):=h.keep.sl λb c=>by
 obtain⟨⟨l,k,j,f⟩,⟨i,g,d⟩,_⟩:=h.apart;refine⟨?_,h.lt b (by rw[h.eq];simp[c])⟩;simp only[ip,wn,GZ];exact⟨λe=>f (e▸c),λe=>d (e▸c)⟩
def yC (h:dz Z a F D)(e:D.waits.length<=1000000000):Rq0 125 [.ptr a 0] Z λx Z'=>x=I D.flush.1/\zG a F Z D.flush.2 Z':=by
 have g:=h;obtain⟨vl,vw,vk,bl,bm,Fw,Fk,h⟩:=h;refine bE ?_;rw[aqG];refine(Cu g).mono ?_;rintro _ _ ⟨rfl,rfl⟩;rename_i p;unfold aX.flush
 by_cases f:D.dead=θ
 .simp[f];exact⟨Δ _ _,F,g,lk⟩
 .simp[f];refine(JF h).mono ?_;intro v s2 c
  by_cases d:D.out
  .rw[gq d]at c;obtain⟨rfl,rfl⟩:=c;simp[d,fP,h.main];exact Jy h e (Ny h)
  .rw[B d]at c;obtain⟨rfl,k,q,o⟩:=c;simp[d];refine(DR o (kept:=λ_=>true) e ?_).mono ?_
   .intro i hi s hs Q j;rw[dv];refine bE ?_;simp only[ow,zo];rw[apY];exact j
   .rintro _ s ⟨rfl,n,F',m,l⟩;exact⟨k.trans n lk,F',m,λb c=>(l b c).imp id λh=>J⟩
end
section
variable {Z Z':O} {a:Nat} {F:δ Nat} {D D':aX} {vl vw vk:K} {bl bm:Nat} {Fw Fk:δ Nat}
def xH (h:dz Z a F D){i:Int}{v:K}{s:kh}(lR:dV Z)(z:D.waits.length<100000000)(hv:Sl Z F v 1 (al s))(hs:s.length=512):Rq0 123 [.ptr a 0,I i,v] Z λx Z'=>x=I (D.write i s).1/\zG a F Z (D.write i s).2 Z':=by
 have h0:=h;obtain⟨vl,vw,vk,bl,bm,Fw,Fk,h⟩:=h;refine bE ?_;rw[aqI];refine(Cu h0).mono ?_;rintro _ _ ⟨rfl,rfl⟩;rename_i s1;unfold aX.write;have Ab:zG a F s1 D s1:=⟨Kp.refl _ _,F,h0,lk⟩
 by_cases P:D.dead=true
 .simp[P,Ab]
 .obtain⟨t,g,gr,aa,S,f,o⟩:=h.aB;have u:∀s:O,aY .slice vl s=.ok (I D.aB.length) s:=by intro s;subst aa;rfl
  by_cases Zz:i<0
  .simp[P,Zz,Ab,lI]
  .by_cases I7:(D.aB.length:Int)<=i
   .simp[P,Zz,I7,lI,h.main,u,Ab]
   .obtain⟨n,rfl⟩:∃n:Nat,i=n:=⟨i.toNat,J⟩;have hn:n<D.aB.length:=by omega
    obtain⟨p,off,cap,grow,k⟩:∃p off cap grow,v=.slice p off 512 cap grow:=by
     rcases hv with⟨_,h⟩|⟨b,off,len,cap,grow,rfl,f,_⟩
     .have:=congrArg List.length h;simp[hs]at this
     .have:len=512:=by simp[hs]at f;omega
      subst this;exact⟨b,off,cap,grow,rfl⟩
    obtain⟨C,aj,l,tv,gv,N,Za,NC⟩:p∉F/\p<s1.nx/\∃l t g,s1.m.g p=some (.cells l t g)/\off+512<=l.length/\(l.drop off).take 512=al s:=by
     rcases hv with⟨h,_⟩|⟨b,off,len,cap,grow,h,f,o,j⟩
     .rw[k]at h;cases h
     .rw[k]at h;cases h;rcases j with j|j
      .cases j
      .exact j
    obtain⟨m,Dk,Ve⟩:=h.now
    have SY:∀s:O,aY .slice vw s=.ok (I D.waits.length) s:=by
     intro s
     by_cases h0:0<D.waits.length
     .obtain⟨b,S,f,o⟩:=uX h h0;subst f;rfl
     .have e:iT D.waits=[]:=by
       have:D.waits=[]:=sS.1 J;rw[this];rfl
      have e2:D.waits.length=0:=J
      rcases h.waits with⟨rfl,_⟩|⟨b,l,t,g,rfl,_⟩|⟨b,n,rfl,f,o,_⟩
      .rw[e2];rfl
      .rw[e2];rfl
      .rw[e]at o;simp at o;omega
    obtain⟨blk,ab,an,Va⟩:=IsMap.update (.inl Dk) n (I D.waits.length);have ha:=h.lt a h.m;have ae:=h.lt bm afV;obtain⟨⟨n1,M,X,n4⟩,⟨n5,n6,n7⟩,⟨n8,n9⟩,Po,LI,Nl⟩:=h.apart;have W:p≠bm:=λe=>C (by rw[h.eq,e];simp);have am:p≠a:=λe=>C (by rw[e];exact h.m);have e1:(O.set s1 bm blk).m.g a=s1.m.g a:=ar _ _ _ _ M;have e2:(O.set s1 bm blk).m.g p=s1.m.g p:=ar _ _ _ _ W
    have ak:grow=0\/1<=cap/\512<=cap:=by
     rcases hv with⟨h,_⟩|⟨b,off,len,cap,grow,h,f,o,j⟩
     .rw[k]at h;cases h
     .rw[k]at h;cases h;omega
    have NW:(al s).length=512:=acp
    have gX:(O.skip (O.set s1 bm blk)).m.g s1.nx=none:=by
     rw[HD,ar _ _ _ _ J];exact lR _ (hI _)
    have BV:gY [(0,513,.agg (I n::al s))] (cr 1 (I 0::zr 512))=some (I n::al s):=by
     simp[cW,cr,bC,NW]
    have ql:aR (I 0::zr 512) [(0,1,I n),(1,512,.agg (al s))] (O.skip (O.set s1 bm blk))=.ok (.agg (I n::al s)) (O.skip (O.set s1 bm blk)):=by
     rw[eK];simp[cW,bC,NW]
    have wA:=fY (e:=272) (n:=1) gX BV;simp[P,Zz,lI,fP,h.main,u,Int.not_le.mpr (show(n:Int)<D.aB.length by omega),k,SY,ab,e1,e2,N,qL,NC];refine⟨ak,Za,?_⟩;rw[ql,af,wA,aP];have lQ:Kp (bm::Fw) s1 (O.set (O.skip (O.set s1 bm blk)) s1.nx (.cells (I n::al s) 272 false)):=(((Kp.refl _ s1).set _ (.inl V) ae).skip).set _ (.inr (hI _)) V
    have vY:cZ .slice 513 (I 0::zr 512) (.slice s1.nx 0 1 1 0) (O.set (O.skip (O.set s1 bm blk)) s1.nx (.cells (I n::al s) 272 false))=some (1,I n::al s):=
     wm (ao _ _ _) J (by simp[hs])
    rw[vY]
    have ah:Own (O.set (O.skip (O.set s1 bm blk)) s1.nx (.cells (I n::al s) 272 false)) vw 513 272 (iT D.waits) Fw:=h.waits.mono λb hb=>by
     have:=h.lt b (by rw[h.eq];simp[hb]);exact(ar _ _ _ _ J).trans (ar _ _ _ _ (λe:b=bm=>n8 (e▸hb)))
    obtain⟨v',H,c,Tx,Hi,XC,Q⟩:=ah.append (n:=1) (bytes:=520) (T:=I n::al s) J (by simp[hs]) (by simp[bK]) (λb hb=>by
     have:=h.lt b (by rw[h.eq];simp[hb]);simp;omega) (by
     have e:(iT D.waits).length=D.waits.length*513:=by unfold iT;rw[dU (tY h.Am)];simp
     rw[e];simp[hs];omega)
    rw[Tx,aP];obtain⟨o1,o2⟩:=Hi.cI;have L:=lQ.trans XC λq hq=>.inl QU;have ac:=(L.keep a ha (by simp;exact⟨M,X⟩)).trans h.main;have ad:=(lQ.keep a ha (by simp;exact⟨M,X⟩)).trans h.main;have ag:=(lQ.keep p aj (by simp;exact⟨W,λe=>C (by rw[h.eq];simp[e])⟩)).trans N;simp[ac,ad,ag,o1,o2,Za,NC,bC];have yA:D.dead=false:=by simpa using P
    have ed:({aB:=D.aB,waits:=D.waits++[(n,s)],done:=D.done,dead:=false,set:=D.set,left:=D.left,keep:=D.keep}:aX)={D with waits:=D.waits++[(n,s)]}:=by rw[<-yA]
    rw[ed,gq hs];have d:∀b,b=a\/b=bl\/b=bm\/b∈Fw\/b∈Fk->b∈F:=λb hb=>afi
    have lA:∀b∈c,(b∈Fw\/s1.nx<=b):=λb hb=>(Q b hb).1.imp id λh=>by simp at h;omega
    have Au:=h.lt
    have G:jb (O.set H a (.cells [vl,v',.map bm,I D.done,.bool D.dead,.bool D.set,I D.left,vk] 153 false)) a (a::bl::bm::(c++Fk)) {D with waits:=D.waits++[(n,s)]} vl v' vk bl bm c Fk:=by
     have PL:=λb hb=>ov (Au b hb) L.nx;have Y:∀b,b≠a->(O.set H a (.cells [vl,v',.map bm,I D.done,.bool D.dead,.bool D.set,I D.left,vk] 153 false)).m.g b=H.m.g b:=λb hb=>ar _ _ _ _ hb;have Td:∀b∈F,b≠bm->b∉Fw->H.m.g b=s1.m.g b:=λb S f o=>L.keep b (Au b S) (by simp;exact⟨f,o⟩);refine⟨rfl,?_,?_,V,h.aB.mono ?_,?_,⟨_,(Va Dk).mono ?_,?_⟩,h.keep.mono ?_,h.C1,?_,h.size⟩
     .have ai:c.Nodup:=by rcases Hi with⟨_,_,rfl⟩|⟨_,_,_,_,_,_,rfl,_⟩|⟨_,_,_,_,_,rfl,_⟩<;>simp
      have r:∀b,b∈F->b∉Fw->b∉c:=λb S f o=>by
       rcases lA b o with j|j
       .exact f j
       .have:=Au b S;omega
      simp only[me,ip,lh,rt,zy];exact⟨⟨n1,M,r a h.m X,n4⟩,⟨n5,r bl (d _ V) n6,n7⟩,⟨r bm (d _ V) n8,n9⟩,ai,LI,λx hx y hy e=>r y (d y (by simp[hy])) (λh=>Nl y h hy) (e▸hx)⟩
     .intro b hb;show b<H.nx;simp only[ip,lh]at hb;rcases hb with rfl|rfl|rfl|hb|hb
      .exact PL _ h.m
      .exact PL _ (d _ V)
      .exact PL _ (d _ V)
      .exact(Q b hb).2
      .exact PL _ (d _ OG)
     .exact(Y _ (ny n1)).trans (Td bl (d _ V) n5 n6)
     .have e:iT (D.waits++[(n,s)])=iT D.waits++(I n::al s):=by simp[iT,wI]
      show Own _ v' 513 272 (iT (D.waits++[(n,s)])) c;rw[e]
      exact Hi.mono λb hb=>Y b λe=>by
       rcases lA b hb with j|j
       .exact X (e▸j)
       .omega
     .rw[Y _ (ny M),XC.keep bm xI n8,ar _ _ _ _ J,HD]
     .intro i;show _=Option.map _ (qi (D.waits++[(n,s)]) i);rw[Iw,zX]
      split
      .rfl
      .exact Ve i
     .intro b hb;exact(Y _ (λe=>n4 (e▸hb))).trans (Td b (d _ OG) (λe=>n9 (e▸hb)) (λh=>Nl b h hb))
     .intro w z;rcases lh.1 z with z|z
      .exact h.Am w z
      .simp only[If]at z;subst z;exact⟨hs,hn⟩
    have I4:Kp F s1 (O.set H a (.cells [vl,v',.map bm,I D.done,.bool D.dead,.bool D.set,I D.left,vk] 153 false)):=(L.mono λq hq=>.inl (d q (by simp at hq;rcases hq with rfl|hq<;>simp[*]))).set _ (.inl h.m) (ov ha L.nx)
    have Ez:∀b∈a::bl::bm::(c++Fk),b∈F\/s1.nx<=b:=by
     intro b hb;simp only[ip,lh]at hb;rcases hb with rfl|rfl|rfl|hb|hb
     .exact .inl h.m
     .exact .inl (d _ V)
     .exact .inl (d _ V)
     .exact(lA b hb).imp (λh=>d _ QO) id
     .exact .inl (d _ OG)
    refine(JF G).mono ?_;intro x s6 hb
    by_cases ho:D.out
    .rw[gq (show aX.out {D with waits:=D.waits++[(n,s)]}from ho)]at hb;obtain⟨rfl,rfl⟩:=hb;simp[ho];refine(Jy G xI (Ny G)).mono ?_;rintro _ s7 ⟨h7,F',h8,h9⟩;exact⟨I4.trans h7 Ez,F',h8,λb hb=>(h9 b hb).elim (Ez b) λh=>.inr (rx I4.nx h)⟩
    .rw[B (show¬aX.out {D with waits:=D.waits++[(n,s)]}from ho)]at hb;obtain⟨rfl,hk,hn,f⟩:=hb;simp[ho];exact⟨I4.trans hk Ez,_,⟨_,_,_,_,_,_,_,f⟩,Ez⟩
def uI (L:δ kh):aX:=⟨L,[],0,φ,φ,0,[]⟩
def JV (L:δ kh)(Z:O)(v:K)(Z':O):Prop:=Kp [] Z Z'/\∃a F,v=.tuple [.ptr a 0,μ]/\dz Z' a F (uI L)/\∀b∈F,Z.nx<=b
def WB {c:O}{x:K}{L:δ kh}{t:TypeId}{g:Bool}{gr b:Nat}(f:Kp [] Z c)(k:x=.slice b 0 L.length L.length gr)(e:gr=0\/gr=512)(n:c.m.g b=Φ (.cells (oN L) t g))(p:Z.nx<=b)(o:b<c.nx)(j:∀s∈L,s.length=512)(l:L.length<=65536):
 JV L Z (.tuple [.ptr (c.nx+1) 0,μ]) (O.new (O.new c (.map [] 0)) (Ð [x,.ae,.map c.nx,μ,Θ,Θ,μ,.ae])):=by
 refine⟨(f.new _).new _,c.nx+1,(c.nx+1)::b::c.nx::([]++[]),rfl,⟨x,.ae,.ae,b,c.nx,[],[],rfl,?_,?_,?_,⟨t,g,gr,k,e,?_,?_⟩,.inl ⟨rfl,rfl,rfl⟩,⟨[],?_,λi=>rfl⟩,.inl ⟨rfl,rfl,rfl⟩,j,?_,l⟩,?_⟩
 .simp;omega
 .intro q d;simp at d;simp;rcases d with rfl|rfl|rfl<;>omega
 .exact ay _ _
 .show(oN L).length=_;unfold oN;rw[dU (Fq j)];simp[uI]
 .show(O.new (O.new c _) _).m.g b=_;rw[bo _ _ _ xI,bo _ _ _ o];exact n
 .refine(ef.new c).mono ?_;rw[bo _ _ _ V]
 .intro w hw;simp[uI]at hw
 .intro q d;have:=f.nx;simp at d;rcases d with rfl|rfl|rfl<;>omega
def mq:kh:=List.replicate 512 0
def rH:mq.length=512:=F0
def ahm (n:Nat):cr n (zr 512)=oN (List.replicate n mq):=by
 unfold cr oN mq;rw[List.map_replicate]
 congr 2
def abG {n:Nat}(f:1<=n)(h2:n<=65536):Rq0 32 [I n] Z λv Z'=>JV (List.replicate n mq) Z v Z':=by
 refine bE ?_;rw[w32];have e:¬(n:Int)<1:=J
 have d:¬(65536:Int)<n:=J
 simp[e,d,uo,eK,cW,bC];refine⟨J,?_⟩;have c:Kp [] Z (O.new Z (Ó (cr n (zr 512)))):=(Δ [] Z).new _;refine WB (x:=.slice Z.nx 0 n n 0) c V (.inl rfl) (b:=Z.nx) (g:=φ) (t:=156) ?_ (hI _) V ?_ Vl
 .rw[<-ahm];exact ay Z _
 .intro s hs;rw[List.eq_of_mem_replicate hs];exact rH
end
section
variable {v:K}{X:δ Nat}{n:Nat}
def ahC (k:Nat)(h:k<256):lr .or .u8 (k:Int) 128=Φ ((k%128+128:Nat):Int):=by
 have:∀k:Fin 256,lr .or .u8 ((k.val:Nat):Int) 128=Φ ((k.val%128+128:Nat):Int):=acQ
 exact this ⟨k,h⟩
def QQ (k:Nat):IntKind.u8.wrap (k:Int)=((k%256:Nat):Int):=by
 unfold IntKind.wrap;simp[IntKind.bits,IntKind.signed]
def uW (k:Nat)(h:k<18446744073709551616):IntKind.u64.wrap (k:Int)=(k:Int):=by
 unfold IntKind.wrap;simp[IntKind.bits,IntKind.signed];omega
def jG (k:Nat)(h:k<256):bG (UInt8.ofNat k)=.int .u8 (k:Int):=by
 unfold bG;have:(UInt8.ofNat k).toNat=k:=xI
 rw[this]
def R8 (k:Nat)(h:k<256)(d:υ lB)(c:Bool)(Z:O):R .or d c (.int .u8 (k:Int)) (.int .u8 128) Z=.ok (.int .u8 ((k%128+128:Nat):Int)) Z:=by
 have:R .or d c (.int .u8 (k:Int)) (.int .u8 128) Z=(match lr .or .u8 (k:Int) 128 with|some r=>.ok (.int .u8 r) Z|none=>.bad):=rfl;rw[this,ahC k h]
def Pc (k:Nat)(d:υ lB)(c:Bool)(Z:O):R .shr d c (.int .u64 (k:Int)) (.int .u64 7) Z=.ok (.int .u64 ((k/128:Nat):Int)) Z:=by
 have:R .shr d c (.int .u64 (k:Int)) (.int .u64 7) Z=.ok (.int .u64 ((k:Int).fdiv 128)) Z:=rfl;rw[this]
 congr 2
 rw[aNu _ J];omega
section
variable {Z Z':O}
def ry.made {k e:Nat}{L:δ K}{x:K}(h:ry k e v L Z x Z'):Made k e L Z x Z':=by obtain⟨F,c,b,a,_⟩:=h;exact⟨F,c,b,a⟩
def bQ (a b:δ Γ):al (a++b)=al a++al b:=ZO
def Kn {b:δ Γ}(h:Sl Z X v 1 (al b))(Y:b.length<=1000000)(I:n<=2147483647):Rq0 135 [v,.int .u64 n] Z (Made 1 5 (al (b++uv n)) Z):=by
 refine bE ?_;rw[aqw];simp only[yB];refine(yL h J).mono ?_;intro x W L;obtain⟨S,P,N,M⟩:=L.made;refine bD (λm z s=>∃u:Nat,∃x F a,m=u/\z=[.int .u64 u,x]/\a++uv u=uv n/\Kp [] Z s/\Own s x 1 5 (al (b++a)) F/\∀q∈F,Z.nx<=q/\q<s.nx) ?_ (n:=n) ⟨n,x,S,[],rfl,rfl,rfl,P,by simpa using N,M⟩;rintro m z s k ⟨u,x,F,a,G,rfl,l,i,D,f⟩ next;have T:=G;clear G;subst T;have d:∃u,u=m:=⟨m,rfl⟩;obtain⟨u,d⟩:=d;subst d;have Q:a.length<=5:=by have:=congrArg List.length l;have j:=(gf n I).2;rw[km]at this;omega
 have C:([K.int .u8 0]:δ K).length=1:=rfl
 by_cases H:127<u
 .have e:(127:Int)<u:=by omega
  simp only[DJ,au,cQ,e,PO,ix]
  have y:cX (.toInt .u8) (.int .u64 u) s=.ok (.int .u8 ((u%256:Nat):Int)) s:=by
   show OR.ok (.int .u8 (IntKind.u8.wrap u)) s=_;rw[QQ]
  rw[y,af,R8 _ J,af];refine aeA 1 D J (λq c=>(f q c).2) C rfl rfl rfl xI ?_;intro v' s' F' w r p;have g:=Pc u ν true s';rw[au]at g;rw[g,af];refine next (u/128) _ _ J ⟨u/128,v',F',a++[UInt8.ofNat (u%128+128)],rfl,rfl,?_,i.trans r λq c=>.inr (f q c).1,?_,λq c=>?_⟩
  .rw[<-l,jI H];simp
  .have:al (b++(a++[UInt8.ofNat (u%128+128)]))=al (b++a)++(K.int .u8 ((u%256%128+128:Nat):Int)).bY:=by
    rw[<-we,bQ (b++a)]
    congr 1
    show [bG _]=[_];rw[jG _ J]
    congr 3;omega
   rw[this];exact w
  .obtain⟨o,j⟩:=p q c;exact⟨o.elim (λh=>(f q h).1) (λh=>rx i.nx h),j⟩
 .have e:¬(127:Int)<u:=by omega
  simp only[ke,au,cQ,ll,e,FS,ii]
  have y:cX (.toInt .u8) (.int .u64 u) s=.ok (.int .u8 ((u%256:Nat):Int)) s:=by
   show OR.ok (.int .u8 (IntKind.u8.wrap u)) s=_;rw[QQ]
  rw[y,af];refine aeA 1 D J (λq c=>(f q c).2) C rfl rfl rfl xI ?_;intro v' s' F' w r p;refine⟨F',i.trans r λq c=>.inr (f q c).1,?_,λq c=>?_⟩
  .have:al (b++uv n)=al (b++a)++(K.int .u8 ((u%256:Nat):Int)).bY:=by
    rw[<-l,<-we,bQ (b++a),kH J]
    congr 1
   rw[this];exact w
  .obtain⟨o,j⟩:=p q c;exact⟨o.elim (λh=>(f q h).1) (λh=>rx i.nx h),j⟩
def qp {b:δ Γ}(h:Sl Z X v 1 (al b))(c:b.length<=1000000)(a:n<=2147483647):Rq0 80 [v,I n] Z (Made 1 5 (al (b++uv n)) Z):=by
 refine bE ?_;rw[w80];have f:¬(n:Int)<0:=J
 have e:¬(2147483647:Int)<n:=J
 have d:cX (.toInt .u64) (I n) Z=.ok (.int .u64 n) Z:=by
  show OR.ok (.int .u64 (IntKind.u64.wrap n)) Z=_;rw[uW n J]
 simp[f,e,d];exact Kn h c a
def Jn {b:δ Γ}{f:Bool}(h:Sl Z X v 1 (al b))(a:b.length<=1000000):Rq0 142 [v,.bool f] Z (Made 1 5 (al (b++uv (if f=θ then 1 else 0))) Z):=by
 refine bE ?_;rw[aqq];cases f
 .simp;exact qp (n:=0) h a J
 .simp;exact qp (n:=1) h a J
def AB {b s:δ Γ}(h:Sl Z X v 1 (al b))(a:b.length<=1000000)(p:s.length<=1000000):Rq0 141 [v,.str s] Z (Made 1 5 (al (b++(uv s.length++s))) Z):=by
 refine bE ?_;rw[aqr];have k:¬(2147483647:Int)<s.length:=J
 simp[k];refine(qp h a J).mono ?_;rintro x f ⟨F,d,i,c⟩;have hl:=(gf s.length J).2;obtain⟨v',s2,F',o,m,l,e⟩:=i.append (n:=s.length) (bytes:=1) (T:=al s) J V (bK s) (λb a=>(c b a).2) xI;have j:cZ .str 1 [ϕ] (.str s) f=Φ (s.length,al s):=rfl;rw[j,o,aP];refine⟨F',d.trans l λq g=>.inr (c q g).1,by simpa[al]using m,λb a=>⟨(e b a).1.elim (λh=>(c b h).1) (λh=>by have:=d.nx;omega),(e b a).2⟩⟩
end
end
section
variable {X:δ Nat}{v:K}{k n:Nat}
section
variable {Z Z':O}
def mP (Z:O)(F:δ Nat)(v:K)(k:Nat)(L:δ K):Prop:=∀X,(∀b∈F,b∉X)->Sl Z X v k L
def mP.keep {F:δ Nat}{L:δ K}(h:mP Z F v k L)(e:Kp X Z Z')(d:∀b∈F,b∉X):mP Z' F v k L:=λY c=>by
 have h1:=h (X++Y) λb a=>by simp;exact⟨d b a,c b a⟩
 exact(h1.mono (e.mono λq hq=>.inl QU)).fc λq hq=>.inl QU
def Own.ahd {e:Nat}{L:δ K}{F:δ Nat}(h:Own Z v k e L F)(c:∀b∈F,b<Z.nx):mP Z F v k L:=λX d=>h.sl λb a=>⟨d b a,c b a⟩
def mP.nil {F:δ Nat}{L:δ K}(h:mP Z F v k L):Sl Z [] v k L:=h [] V
def mP.lo {F:δ Nat}{L:δ K}(h:mP Z F v k L)(c:0<k)(a:L.length=n*k){l:Nat}(b:l<=n)(s:O):∃v',aQ k v (Φ (I l)) ν s=.ok v' s/\mP Z F v' k (L.drop (l*k)):=by
 obtain⟨v',e,_⟩:=h.nil.lo c a b s;refine⟨v',e,λX f=>?_⟩;obtain⟨i,d,g⟩:=(h X f).lo c a b s;rw[e]at d;cases d;exact g
def mP.hi {F:δ Nat}{L:δ K}(h:mP Z F v k L)(c:0<k)(a:L.length=n*k){l:Nat}(b:l<=n)(s:O):∃v',aQ k v ν (Φ (I l)) s=.ok v' s/\mP Z F v' k (L.take (l*k)):=by
 obtain⟨v',e,_⟩:=h.nil.hi c a b s;refine⟨v',e,λX f=>?_⟩;obtain⟨i,d,g⟩:=(h X f).hi c a b s;rw[e]at d;cases d;exact g
def qw (Z:O)(r:Nat)(F:δ Nat)(L:δ Γ):Prop:=∃q v G,F=r::q::G/\F.Nodup/\(∀b∈F,b<Z.nx)/\Z.m.g r=Φ (Ù [.ptr q 0])/\Z.m.g q=Φ (Õ [v,Θ])/\mP Z G v 1 (al L)
def qw.keep {r:Nat}{F:δ Nat}{L:δ Γ}(h:qw Z r F L)(a:Kp X Z Z')(c:∀b∈F,b∉X):qw Z' r F L:=by
 obtain⟨q,v,G,rfl,i,d,g,f,e⟩:=h;exact⟨q,v,G,rfl,i,λb hb=>ov (d b hb) a.nx,by rw[a.keep r (d r V) (c r V)];exact g,by rw[a.keep q (d q V) (c q V)];exact f,e.keep a λb hb=>c b OG⟩
def yn {L:δ Γ}(h:Sl Z X v 1 (al L))(p:L.length<=1000000):Rq0 91 [v] Z λx Z'=>∃r F,x=.ptr r 0/\Kp [] Z Z'/\qw Z' r F L/\∀b∈F,Z.nx<=b:=by
 refine bE ?_;rw[w91];refine(yL h J).mono ?_;intro x f l;obtain⟨g,i,d,c⟩:=l.made;obtain⟨o,j⟩:=d.cI;have o3:=(d.sl (X:=[]) λb a=>⟨V,(c b a).2⟩).bM.1;simp[eK,cW,bC,j,o3];have m:g.Nodup:=by rcases d with⟨_,_,rfl⟩|⟨_,_,_,_,_,_,rfl,_⟩|⟨_,_,_,_,_,rfl,_⟩<;>simp
 refine⟨(i.new _).new _,(f.nx+1)::f.nx::g,⟨f.nx,x,g,rfl,?_,?_,ay _ _,?_,?_⟩,?_⟩
 .simp only[me,ip,rt];exact⟨⟨J,λh=>by have:=(c _ h).2;omega⟩,λh=>by have:=(c _ h).2;omega,m⟩
 .intro b a;simp only[ip]at a;simp;rcases a with rfl|rfl|a
  .omega
  .omega
  .have:=(c b a).2;omega
 .rw[bo _ _ _ V];exact ay _ _
 .refine Own.ahd (e:=5) (d.mono λb a=>?_) λb a=>?_
  .have:=(c b a).2;rw[bo _ _ _ xI,bo _ _ _ this]
  .have:=(c b a).2;simp;omega
 .intro b a;have:=i.nx;simp only[ip]at a;rcases a with rfl|rfl|a
  .omega
  .omega
  .exact(c b a).1
variable {r:Nat} {F:δ Nat} {L:δ Γ}
def wN (h:qw Z r F L):Rq0 145 [.ptr r 0] Z λv Z'=>v=.bool true/\Z'=Z:=by
 obtain⟨q,v,G,rfl,e,d,b,a,c⟩:=h;refine bE ?_;rw[aqn];simp[lI,b];refine bE ?_;rw[apI];simp[lI,a]
def Nw (h:qw Z r F L):Rq0 148 [.ptr r 0] Z λv Z'=>v=I L.length/\Z'=Z:=by
 obtain⟨q,v,G,rfl,e,d,c,b,a⟩:=h;refine bE ?_;rw[aqk];simp[fP,c];refine bE ?_;rw[apH];simp[fP,lI,b,a.nil.len L.length V J]
def XU (h:qw Z r F L):Rq0 95 [.ptr r 0] Z λv Z'=>v=.bool (decide (L=[]))/\Z'=Z:=by
 refine bE ?_;rw[w95];refine(wN h).mono ?_;rintro _ _ ⟨rfl,rfl⟩;simp;refine(Nw h).mono ?_;rintro _ _ ⟨rfl,rfl⟩;simp
def mP.mono {F G:δ Nat}{L:δ K}(h:mP Z G v k L)(c:∀b∈G,b∈F):mP Z F v k L:=λX a=>h X λb d=>a b (c b d)
def MX (h:qw Z r F L){q:Nat}(o:Z.m.g r=Φ (Ù [.ptr q 0]))(p:n<=L.length):Rq0 147 [.ptr q 0,I n] Z λx Z'=>mP Z' F x 1 (al (L.take n))/\Kp F Z Z'/\Z'.nx=Z.nx/\qw Z' r F (L.drop n)/\Z'.m.g r=Z.m.g r:=by
 obtain⟨a,v,G,rfl,f,i,w,C,u⟩:=h;have:a=q:=by rw[w]at o;cases o;rfl
 subst this;refine bE ?_;rw[aql];obtain⟨T,S,Q⟩:=u.hi (n:=L.length) J V p Z;obtain⟨d,P,y⟩:=u.lo (n:=L.length) J V p Z;obtain⟨W,N,M⟩:=y.nil.bM;have j:=f;simp only[me,ip,rt]at f;simp[fP,sq,C,S,P,bC,N,M];have z:Kp (r::a::G) Z (O.set Z a (Õ [d,Θ])):=(Δ _ Z).set _ (.inl V) (i a V);have c:Kp [a] Z (O.set Z a (Õ [d,Θ])):=(Δ _ Z).set _ (.inl V) (i a V);have s:∀b∈G,b∉[a]:=λb hb e=>f.2.1 (by simp at e;exact e▸hb);have l:(O.set Z a (Õ [d,Θ])).m.g r=Z.m.g r:=ar _ _ _ _ f.1.1;have H:al (L.take n)=(al L).take (n*1):=ZO
 have D:al (L.drop n)=(al L).drop (n*1):=ZO
 refine⟨?_,z,⟨a,d,G,rfl,j,i,by rw[l];exact w,ao ..,?_⟩,l⟩
 .rw[H];exact(Q.keep c s).mono (λb hb=>OG)
 .rw[D];exact y.keep c s
def MW {f:Nat}(a:f=144\/f=146)(h:qw Z r F L)(v:K):Rq0 f [.ptr r 0,v,ι] Z λx Z'=>x=v/\Z'=Z:=by
 obtain⟨q,v',G,rfl,g,e,c,b,d⟩:=h;refine bE ?_ (by rcases a with rfl|rfl<;>rfl);rcases a with rfl|rfl
 .rw[aqo];simp[fP,c,b]
 .rw[aqm];simp[fP,c,b]
def aeB (k:Nat)(h:k<256):lr .and .u8 (k:Int) 127=Φ ((k%128:Nat):Int):=by
 have:∀k:Fin 256,lr .and .u8 ((k.val:Nat):Int) 127=Φ ((k.val%128:Nat):Int):=acQ
 exact this ⟨k,h⟩
def ahB (a m:Nat)(k:Nat)(h:a<2^k)(b:a+m*2^k<18446744073709551616):lr .or .u64 (a:Int) ((m*2^k:Nat):Int)=Φ ((a+m*2^k:Nat):Int):=by
 have e:lr .or .u64 (a:Int) ((m*2^k:Nat):Int)=Φ (IntKind.u64.wrap ((BitVec.ofInt 64 (a:Int)|||BitVec.ofInt 64 ((m*2^k:Nat):Int)).toNat:Int)):=rfl;rw[e,aNn,aNn,BitVec.toNat_or,aNz,aNz,QF J,QF J,Nat.or_comm,LH m,<-Nat.two_pow_add_eq_or_of_lt h,uW _ (by rw[LH];omega),LH,æ]
def TP (h:Sl Z X v 1 (al (uv n++L)))(D:n<=2147483647):Rq0 191 [v] Z λx Z'=>x=.tuple [.int .u64 n,I (uv n).length]/\Z'=Z:=by
 refine bE ?_;rw[apJ];have hlen:=h.len (uv n++L).length V J Z;simp only[yB,hlen,af];have C:=(gf n D).2;refine bD (λm q s=>∃i u a:Nat,∃b,m+i=(uv n).length/\q=[.int .u64 a,v,I (uv n++L).length,I i]/\b++uv u=uv n/\b.length=i/\a+u*128^i=n/\a<128^i/\s=Z) ?_ (n:=(uv n).length) ⟨0,n,0,[],V,rfl,rfl,rfl,V,V,rfl⟩;rintro m q s k ⟨i,u,a,b,hm,rfl,j,hi,H,G,rfl⟩ next;have z:0<(uv u).length:=by by_cases d:127<u;rw[jI d];simp;rw[kH J];simp
 have Hd:i<(uv n).length:=by rw[<-j,km];omega
 have M:(i:Int)<(uv n++L).length:=by rw[km];omega
 have I8:∀hh,(al (uv n++L))[i]'hh=.int .u8 ((if 127<u then u%128+128 else u:Nat):Int):=by
  intro hh;have e:uv n++L=b++(uv u++L):=by rw[<-j,we]
  have:(al (uv n++L))[i]?=Φ (.int .u8 ((if 127<u then u%128+128 else u:Nat):Int)):=by
   rw[e,bQ,é xI];simp only[bP,hi,Nat.sub_self]
   by_cases d:127<u
   .rw[jI d,gq d];show Φ (bG _)=_;rw[jG _ J]
   .rw[kH J,B d];show Φ (bG _)=_;rw[jG _ J]
  rw[li hh]at this;exact Â this
 have l:i<(al (uv n++L)).length:=xI
 simp only[DJ,au,cU,M,PO,ix];refine h.idx l _ ?_;rw[I8];have Od:¬(i:Int)=10:=J
 have N:¬(i:Int)=9:=J
 simp only[cn,Od,FS,DI,ii];have w:(if 127<u then u%128+128 else u)<256:=Ys
 generalize p:(if 127<u then u%128+128 else u)=c at w;have o:c%128=u%128:=by rw[<-p];split<;>omega
 have a1:∀s,R .and ν true (.int .u8 (c:Int)) (.int .u8 127) s=.ok (.int .u8 ((c%128:Nat):Int)) s:=λs=>by
  have:R .and ν true (.int .u8 (c:Int)) (.int .u8 127) s=(match lr .and .u8 (c:Int) 127 with|some r=>.ok (.int .u8 r) s|none=>.bad):=rfl;rw[this,aeB c w]
 have g:2^(7*i)=128^i:=by rw[Nat.pow_mul]
 have S:u%128*128^i<=n:=by
  have:u%128*128^i<=u*128^i:=zv _ (Nat.mod_le _ _);omega
 have a2:∀s,cX (.toInt .u64) (.int .u8 ((c%128:Nat):Int)) s=.ok (.int .u64 ((c%128:Nat):Int)) s:=λs=>by
  show OR.ok (.int .u64 (IntKind.u64.wrap _)) s=_;rw[uW _ J]
 have a3:IntKind.i64.wrap (7*(i:Int))=((7*i:Nat):Int):=aaD
 have a4:∀s,R .shl ν false (.int .u64 ((c%128:Nat):Int)) (ζ (7*i)) s=.ok (.int .u64 ((u%128*2^(7*i):Nat):Int)) s:=λs=>by
  have e:R .shl ν false (.int .u64 ((c%128:Nat):Int)) (ζ (7*i)) s=if ((7*i:Nat):Int)<0 then .bad else .ok (.int .u64 (IntKind.u64.wrap (((c%128:Nat):Int)*2^(min ((7*i:Nat):Int).toNat 64)))) s:=rfl
  rw[e,B J,û,us J,o];have Q:((u%128:Nat):Int)*2^(7*i)=((u%128*2^(7*i):Nat):Int):=V
  rw[Q,uW _ (by rw[g];omega)]
 have a5:∀s,R .or ν false (.int .u64 (a:Int)) (.int .u64 ((u%128*2^(7*i):Nat):Int)) s=.ok (.int .u64 ((a+u%128*2^(7*i):Nat):Int)) s:=λs=>by
  have e:R .or ν false (.int .u64 (a:Int)) (.int .u64 ((u%128*2^(7*i):Nat):Int)) s=(match lr .or .u64 (a:Int) ((u%128*2^(7*i):Nat):Int)with|some r=>.ok (.int .u64 r) s|none=>.bad):=rfl;rw[e,ahB a (u%128) (7*i) (by rw[g];exact G) (by rw[g];omega)]
 have Y:IntKind.i64.wrap ((i:Int)+1)=((i+1:Nat):Int):=aaD
 have W:R .eql ψ true (I i) (I 9) s=.ok Θ s:=by rw[au,cn];simp only[N,FS]
 have T:∀s,R .lss ν true (.int .u8 (c:Int)) (.int .u8 128) s=.ok (.bool (decide (c<128))) s:=λs=>by
  rw[au,cU];congr 2;simp only[CI];omega
 simp only[W,bA,ix,ii,ra,Ut,a1,a2,jS,a3,a4,a5,T,cE,Y];have BG:=(Nat.mod_add_div u 128).symm
 by_cases d:127<u
 .have f:¬c<128:=by rw[<-p,gq d];omega
  simp only[f,FS,pi,ii]
  have y:u*128^i=u%128*128^i+u/128*128^(i+1):=by
   conv=>lhs;rw[BG]
   rw[tx,WP,LH 128 (u/128),Nat.mul_assoc,LH 128]
  have e7:u%128*128^i<=127*128^i:=zv _ J;refine next (m-1) _ _ J ⟨i+1,u/128,a+u%128*2^(7*i),b++[UInt8.ofNat (u%128+128)],J,rfl,?_,xI,by rw[g];omega,by rw[g,WP];omega,rfl⟩;rw[<-j,jI d];simp
 .have f:c<128:=by rw[<-p,B d];omega
  simp only[f,PO,ix];have P:(uv n).length=i+1:=by rw[<-j,kH J];simp;omega
  rw[P];have y:u%128=u:=J
  rw[y,g,H];exact⟨rfl,gt⟩
end
end
section
variable {Z Z':O} {r:Nat} {F:δ Nat} {L:δ Γ}
def UM (r:Nat)(F:δ Nat)(L:δ Γ)(Z Z':O):Prop:=Kp F Z Z'/\Z'.nx=Z.nx/\qw Z' r F L
def VD {n:Nat}(h:1<(uv n).length):∃b,(uv n)[(uv n).length-1]?=Φ b/\b≠0:=by
 have key:∀m n,n<=m->0<n->∃b,(uv n)[(uv n).length-1]?=Φ b/\b≠0:=by
  intro m
  induction m with
  |zero=>intro n l j;omega
  |succ m d=>
   intro n l j
   by_cases g:127<n
   .obtain⟨b,c,i⟩:=d (n/128) J J;have p:0<(uv (n/128)).length:=by by_cases f:127<n/128;rw[jI f];simp;rw[kH J];simp
    refine⟨b,?_,i⟩;rw[jI g,lx,Pi];obtain⟨k,a⟩:∃k,(uv (n/128)).length=k+1:=⟨(uv (n/128)).length-1,J⟩;rw[a,kc];rw[a,Pi]at c;exact c
   .rw[kH J];refine⟨_,rfl,λe=>?_⟩;have:=congrArg UInt8.toNat e;simp at this;omega
 refine key n n (hI _) ?_
 by_cases o:n=0
 .subst o;rw[kH J]at h;simp at h
 .omega
def qw.sl (h:qw Z r F L):∃q v,Z.m.g r=Φ (Ù [.ptr q 0])/\Z.m.g q=Φ (Õ [v,Θ])/\Sl Z [] v 1 (al L):=by
 obtain⟨q,v,G,rfl,e,d,c,b,a⟩:=h;exact⟨q,v,c,b,a.nil⟩
def abh {n:Nat}(h:qw Z r F (uv n++L))(g:n<=2147483647):Rq0 143 [.ptr r 0] Z λx Z'=>x=.tuple [.int .u64 n,ι]/\UM r F L Z Z':=by
 refine bE ?_;rw[aqp];refine(wN h).same ?_;obtain⟨q,v,f,m,l⟩:=h.sl;simp[fP,f,m];refine(TP l g).same ?_;have hl:=(gf n g).1;have z:=(gf n g).2;have p:Rq0 147 [.ptr q 0,I (uv n).length] Z λS s3=>UM r F L Z s3:=(MX h f (n:=(uv n).length) V).mono λx s ⟨_,k1,w,u,_⟩=>⟨k1,w,by simpa using u⟩
 have Q:1<(uv n).length->Lim.idx 1 v (ζ ((uv n).length-1)) Z λM=>∃c:Nat,M=.int .u8 c/\c≠0:=λi=>by
  obtain⟨b,P,N⟩:=VD i;have d:(uv n).length-1<(al (uv n++L)).length:=xI
  refine l.idx d _ ?_
  have G:(al (uv n++L))[(uv n).length-1]'d=bG b:=by
   have:(al (uv n++L))[(uv n).length-1]?=Φ (bG b):=by
    rw[bQ,Å xI];simp only[al,ul,P];rfl
   rw[li d]at this;exact Â this
  exact⟨b.toNat,G,λe=>N (by apply aNZ.1;simp;omega)⟩
 generalize (uv n).length=k at*;have o:¬k=0:=J
 by_cases i:1<k
 .have H:IntKind.i64.wrap ((k:Int)-1)=((k-1:Nat):Int):=by rw[bt J];omega
  have key:=Q i;unfold Lim.idx at key;have j:(1:Int)<k:=J
  simp[o,j,H,lI,Gh,f,m];refine mC key λa D=>mC D λx y=>?_;obtain⟨c,rfl,C⟩:=y;simp[C,p]
 .have j:¬(1:Int)<k:=by omega
  simp[o,j,lI,Gh,f,p]
def l6 {n m:Nat}(h:qw Z r F (uv n++L))(b:n<=m)(g:m<=2147483647):Rq0 92 [.ptr r 0,I m] Z λx Z'=>x=I n/\UM r F L Z Z':=by
 refine bE ?_;rw[w92];simp;refine(abh h J).mono ?_;rintro _ s1 ⟨rfl,d,c,a⟩
 have f:cX (.toInt .i64) (.int .u64 (n:Int)) s1=.ok (I n) s1:=by
  show OR.ok (I (IntKind.i64.wrap _)) s1=_;rw[bt J]
 have e:(n:Int)<=2147483647:=J
 simp[f,e,b];refine(MW (.inl rfl) a (I n)).same ?_;exact⟨rfl,d,c,a⟩
def HR {f:Bool}(h:qw Z r F (uv (if f=θ then 1 else 0)++L)):Rq0 93 [.ptr r 0] Z λx Z'=>x=.bool f/\UM r F L Z Z':=by
 refine bE ?_;rw[w93];simp;refine(l6 (m:=1) h Ys J).mono ?_;rintro _ b ⟨rfl,a⟩;cases f<;>simp[a]
def Fu {s:δ Γ}{m:Nat}(h:qw Z r F (uv s.length++(s++L)))(f:s.length<=m)(g:m<=2147483647):Rq0 94 [.ptr r 0,I m] Z λx Z'=>x=.str s/\UM r F L Z Z':=by
 refine bE ?_;rw[w94];simp;refine(l6 h f g).mono ?_;rintro _ u ⟨rfl,i,z,b⟩;refine(wN b).same ?_;obtain⟨q,v,d,k,j⟩:=b.sl;simp[lI,fP,d,k,j.len (s++L).length V J];have p:¬((s.length:Int)+L.length<s.length):=J
 simp[p];refine(MX b d (n:=s.length) V).mono ?_;rintro x s2 ⟨c,e,y,a,w⟩;have o:(s++L).take s.length=s:=V
 have l:(s++L).drop s.length=L:=V
 rw[o]at c;rw[l]at a;rw[c.nil.str,af];refine(MW (.inr rfl) a (.str s)).same ?_;exact⟨rfl,i.trans e lk,J,a⟩
end
