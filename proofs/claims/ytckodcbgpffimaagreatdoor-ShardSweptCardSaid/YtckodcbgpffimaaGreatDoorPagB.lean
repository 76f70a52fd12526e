import Derived.Test.YtckodcbgpffimaaGreatDoorPagA
namespace Lim
open Go
noncomputable section
set_option linter.defProp false
set_option maxRecDepth 100000
section
variable {Z Z':O} {p a:Nat} {lg:K} {M:cA} {bd bn bi bc:Nat} {F:δ Nat} {D:aX}
def YJ:mQ:=⟨0,0,0,0⟩
def ic (n:Nat):cA:=⟨1+n/4,n-1-n/4,[],[],YJ,YJ,[],[]⟩
def WD (c:dz Z a F D)(u:4<=D.aB.length):Rq0 109 [.ptr a 0] Z λv Z'=>Kp [] Z Z'/\∃p bd bn bi bc,v=.ptr p 0/\dx Z' p a .bq (ic D.aB.length) bd bn bi bc/\∀b∈[p,bd,bn,bi,bc],Z.nx<=b:=by
 refine bE ?_;rw[agG];refine(vf c).same ?_;have l:=(show D.aB.length<=65536 from by obtain⟨_,_,_,_,_,_,_,h⟩:=c;exact h.size);generalize n:D.aB.length=N at*;have r:R .add ν true ϖ (ζ (N/4)) Z=.ok (ζ (1+N/4)) Z:=EW
 rw[r,af];refine(zl c).same ?_;rw[n];have q:R .sub ν true (I N) ϖ Z=.ok (ζ (N-1)) Z:=CS
 have o:R .sub ν false (ζ (N-1)) (ζ (N/4)) Z=.ok (ζ (N-1-N/4)) Z:=CS
 simp only[q,o,af,og,aP]
 have j:∀s:O,aR [.bq,.bq,μ,μ,.gM,.gM,μ,μ,μ,μ,μ,μ,μ,μ,.gM,.gM] [(0,1,.ptr a 0),(2,1,ζ (1+N/4)),(3,1,ζ (N-1-N/4)),(4,1,.map Z.nx),(5,1,.map (Z.nx+1)),(14,1,.map (Z.nx+2)),(15,1,.map (Z.nx+3))] s=.ok (.agg [.ptr a 0,.bq,ζ (1+N/4),ζ (N-1-N/4),.map Z.nx,.map (Z.nx+1),μ,μ,μ,μ,μ,μ,μ,μ,.map (Z.nx+2),.map (Z.nx+3)]) s:=by
  intro s;rw[eK];have:gY [(0,1,K.ptr a 0),(2,1,ζ (1+N/4)),(3,1,ζ (N-1-N/4)),(4,1,.map Z.nx),(5,1,.map (Z.nx+1)),(14,1,.map (Z.nx+2)),(15,1,.map (Z.nx+3))] [.bq,.bq,μ,μ,.gM,.gM,μ,μ,μ,μ,μ,μ,μ,μ,.gM,.gM]=Φ [.ptr a 0,.bq,ζ (1+N/4),ζ (N-1-N/4),.map Z.nx,.map (Z.nx+1),μ,μ,μ,μ,μ,μ,μ,μ,.map (Z.nx+2),.map (Z.nx+3)]:=rfl;rw[this]
 have i:(O.new Z (.map [] 0)).nx=Z.nx+1:=rfl;have f:(O.new (O.new Z (.map [] 0)) (.map [] 0)).nx=Z.nx+2:=rfl;have e:(O.new (O.new (O.new Z (.map [] 0)) (.map [] 0)) (.map [] 0)).nx=Z.nx+3:=rfl;rw[i,f,e,j,af,bz];have k:Kp [] Z (O.new (O.new (O.new (O.new Z (.map [] 0)) (.map [] 0)) (.map [] 0)) (.map [] 0)):=((((Δ [] Z).new _).new _).new _).new _;refine⟨rfl,k.new _,Z.nx+4,Z.nx,Z.nx+1,Z.nx+2,Z.nx+3,rfl,⟨ay (O.new (O.new (O.new (O.new Z (.map [] 0)) (.map [] 0)) (.map [] 0)) (.map [] 0)) _,.inl ((ef.new Z).mono ?_),(ef.new (O.new Z (.map [] 0))).mono ?_,(ef.new (O.new (O.new Z (.map [] 0)) (.map [] 0))).mono ?_,(ef.new (O.new (O.new (O.new Z (.map [] 0)) (.map [] 0)) (.map [] 0))).mono ?_,V,(by intro b d;simp at d;simp;omega),⟨rfl,rfl,rfl⟩⟩,(by intro b d;simp at d;omega)⟩
 .rw[bo _ _ _ (by first|(simp;done)|(simp;omega)),bo _ _ _ (by first|(simp;done)|(simp;omega)),bo _ _ _ (by first|(simp;done)|(simp;omega)),bo _ _ _ V]
 .show(O.new _ _).m.g (Z.nx+1)=_;rw[bo _ _ _ (by first|(simp;done)|(simp;omega)),bo _ _ _ (by first|(simp;done)|(simp;omega)),bo _ _ _ V];rfl
 .show(O.new _ _).m.g (Z.nx+2)=_;rw[bo _ _ _ (by first|(simp;done)|(simp;omega)),bo _ _ _ V];rfl
 .show(O.new _ _).m.g (Z.nx+3)=_;rw[bo _ _ _ V];rfl
end
section
variable {Z Z':O}
end
section
variable {Z Z':O}
def ot (m:mQ):δ Nat:=[m.root,m.used,m.head,m.free]
def wu (l:δ Nat):δ Γ:=(l.map (be 4)).flatten
def Ec (l:δ Nat):(wu l).length=l.length*4:=by
 unfold wu;rw[dU (w:=4) (by intro x a;obtain⟨n,_,rfl⟩:=lm.1 a;exact kV 4 n),so]
def cB (m:mQ):kh:=wu (ot m)++List.replicate 496 0
def jN (m:mQ):(cB m).length=512:=by
 unfold cB;rw[km,Ec,F0];rfl
def F6 {m:mQ}(P:∀n∈ot m,n<9223372036854775808):Rq0 124 [.agg [I m.root,I m.used,I m.head,I m.free]] Z λv Z'=>v=.agg (al (cB m))/\Kp [] Z Z':=by
 refine bE ?_;rw[aqH];rw[bz,aN];refine⟨rfl,?_⟩;rw[bW,aP,bW,aP];have M:Kp [] Z (O.new (O.new (O.new Z (Ë [I m.root,I m.used,I m.head,I m.free])) (ϛ (zr 512))) (ϛ (zr 512))):=(((Δ [] Z).new _).new _).new _;have D:(O.new Z (Ë [I m.root,I m.used,I m.head,I m.free])).nx=Z.nx+1:=rfl;have C:(O.new (O.new Z (Ë [I m.root,I m.used,I m.head,I m.free])) (ϛ (zr 512))).nx=Z.nx+2:=rfl
 have Y:(O.new (O.new (O.new Z (Ë [I m.root,I m.used,I m.head,I m.free])) (ϛ (zr 512))) (ϛ (zr 512))).m.g Z.nx=Φ (Ë [I m.root,I m.used,I m.head,I m.free]):=by
  rw[bo _ _ _ J,bo _ _ _ J];exact ay _ _
 have X:(O.new (O.new (O.new Z (Ë [I m.root,I m.used,I m.head,I m.free])) (ϛ (zr 512))) (ϛ (zr 512))).m.g (Z.nx+1)=Φ (ϛ (zr 512)):=by
  rw[bo _ _ _ J];exact ay (O.new Z (Ë [I m.root,I m.used,I m.head,I m.free])) _
 have W:(O.new (O.new (O.new Z (Ë [I m.root,I m.used,I m.head,I m.free])) (ϛ (zr 512))) (ϛ (zr 512))).m.g (Z.nx+2)=Φ (ϛ (zr 512)):=
  ay (O.new (O.new Z (Ë [I m.root,I m.used,I m.head,I m.free])) (ϛ (zr 512))) _
 have u:(O.new (O.new (O.new Z (Ë [I m.root,I m.used,I m.head,I m.free])) (ϛ (zr 512))) (ϛ (zr 512))).nx=Z.nx+3:=rfl;rw[D,C];generalize O.new (O.new (O.new Z (Ë [I m.root,I m.used,I m.head,I m.free])) (ϛ (zr 512))) (ϛ (zr 512))=s3 at*;have NW:bB 3 4 (cr 4 [μ]) [(0,1,I m.root),(1,1,I m.used),(2,1,I m.head),(3,1,I m.free)] s3=.ok (.slice s3.nx 0 4 4 0) (O.new s3 (Ϝ [I m.root,I m.used,I m.head,I m.free])):=rfl;simp only[yB,fl,ly,Y,kc,io,NW,aP,jM];have L:Kp [] Z (O.new s3 (Ϝ [I m.root,I m.used,I m.head,I m.free])):=M.new _;have S:(O.new s3 (Ϝ [I m.root,I m.used,I m.head,I m.free])).m.g (Z.nx+1)=Φ (ϛ (zr 512)):=by rw[bo _ _ _ J];exact X
 have Q:(O.new s3 (Ϝ [I m.root,I m.used,I m.head,I m.free])).m.g (Z.nx+2)=Φ (ϛ (al (List.replicate 512 0))):=by rw[bo _ _ _ J,<-rD];exact W
 have y:(O.new s3 (Ϝ [I m.root,I m.used,I m.head,I m.free])).m.g s3.nx=Φ (Ϝ [I m.root,I m.used,I m.head,I m.free]):=ay _ _;have G:(O.new s3 (Ϝ [I m.root,I m.used,I m.head,I m.free])).nx=Z.nx+4:=by rw[ym,u]
 rw[u]at y⊢
 refine bD (λfu o s=>∃i,fu+i=4/\o=[.ptr (Z.nx+1) 0,.ptr (Z.nx+2) 0,.slice (Z.nx+3) 0 4 4 0,I 4,I i]/\Kp [] Z s/\s.nx=Z.nx+4/\s.m.g (Z.nx+1)=Φ (ϛ (zr 512))/\
  s.m.g (Z.nx+2)=Φ (ϛ (al (wu ((ot m).take i)++List.replicate (512-4*i) 0)))/\s.m.g (Z.nx+3)=Φ (Ϝ [I m.root,I m.used,I m.head,I m.free])) ?_ (n:=4) ⟨0,rfl,rfl,L,G,S,Q,y⟩
 rintro fu o s k ⟨i,hi,rfl,w,hn,r,a,q⟩ next;simp only[ke]
 by_cases hc:i<4
 .have hL:(ot m).length=4:=rfl
  have N:∀h,([I m.root,I m.used,I m.head,I m.free]:δ K)[i]'h=I ((ot m)[i]' J):=by
   intro h
   match i,hc with
   |0,_=>rfl
   |1,_=>rfl
   |2,_=>rfl
   |3,_=>rfl
  have j:R .lss ν false (I i) (I 4) s=.ok ι s:=by rw[au,cU,jp J]
  have a2:R .mul ν true (I 4) (I i) s=.ok (ζ (4*i)) s:=MR
  have a3:R .add ν true (ζ (4*i)) (I 4) s=.ok (ζ (4*i+4)) s:=AU
  have z:=xX (n:=512) (b:=Z.nx+2) (l:=4*i) (h:=4*i+4) J J J s;rw[aMZ]at z;have H:Sl s [] (.slice (Z.nx+3) 0 4 4 0) 1 [I m.root,I m.used,I m.head,I m.free]:=.inr ⟨Z.nx+3,0,4,4,0,rfl,rfl,⟨hI _,.inl rfl⟩,.inr ⟨V,J,_,_,_,q,V,rfl⟩⟩;rw[j,af,ag,gq rfl];refine H.idx (i:=i) EV _ ?_;rw[N,a2,af,af,a3,af,z,af];have x:(wu ((ot m).take i)).length=4*i:=by rw[Ec,pu,hL];omega
  refine(KU (n:=(ot m)[i]) (len:=4) (off:=4*i) (cap:=512-4*i) a J (by simp[x];omega) J (P _ (mp ..))).mono ?_;rintro _ p ⟨c,n6,T⟩;have a5:R .add ν true (I i) ϖ p=.ok (ζ (i+1)) p:=AU
  rw[a5,af];refine next (fu-1) _ _ J ⟨i+1,J,rfl,w.trans c V,J,(c.keep _ J V).trans r,?_,(c.keep _ J V).trans q⟩;rw[T]
  congr 2
  have e:=rO (al (wu ((ot m).take i))) (al (List.replicate (512-4*i) 0)) (al (be 4 (ot m)[i]));rw[bP,x]at e;rw[bQ,e]
  have e2:(al (List.replicate (512-4*i) 0)).drop (al (be 4 (ot m)[i])).length=al (List.replicate (512-4*(i+1)) 0):=by
   unfold al;rw[<-JO,aNP,so,kV];congr 2
  have e3:wu ((ot m).take (i+1))=wu ((ot m).take i)++be 4 (ot m)[i]:=by
   rw[su J];unfold wu;rw[wd,aNQ];simp only[pw,List.map_nil,YN,List.flatten_nil,zo]
   try rfl
  rw[e2,e3,bQ,bQ,we]
 .have f:i=4:=by omega
  subst f;have j:R .lss ν false (ζ 4) (I 4) s=.ok Θ s:=rfl;have F:al (wu ((ot m).take 4)++List.replicate (512-4*4) 0)=al (cB m):=rfl;rw[F]at a;have d:(al (cB m)).length=512:=by simpa using jN m
  rw[j,af,ag,B tW,aG a d,af,aK,r,aU,aN,Ng _ (jN m)];refine⟨⟨d,bK _,by rw[tU];exact hI _⟩,?_⟩;rw[aG (n:=512) (ao s (Z.nx+1) _) d,af];exact⟨rfl,w.set _ (.inr J) J⟩
end
section
variable {Z Z':O}
def TV {X Y:δ Nat}{v w:K}{a b:δ Γ}(d:Sl Z X v 1 (al a))(c:Sl Z Y w 1 (al b)):Rq0 122 [v,w] Z λx Z'=>x=.bool (a==b)/\Z'=Z:=by
 refine bE ?_;rw[aqJ];have e:R .eql ω false (.str a) (.str b) Z=sO .eql a b Z:=rfl;rw[d.str,af,c.str,af,e];simp[sO]
end
section
variable {Z Z':O}
def mD (l:δ Γ):δ Γ:=(l.reverse.dropWhile (λb=>b==0)).reverse
def Kr (l:δ Γ):mD (l++[0])=mD l:=by simp[mD]
def QW (l:δ Γ)(b:Γ)(h:b≠0):mD (l++[b])=l++[b]:=by simp[mD,h]
def QX {F:δ Nat}{v:K}{l:δ Γ}(h:mP Z F v 1 (al l))(z:l.length<=1000000):Rq0 226 [v,ϕ] Z λx Z'=>mP Z F x 1 (al (mD l))/\Z'=Z:=by
 refine bE ?_;rw[apj];show cV ..;simp only[ke];refine bD (λk m s=>∃x,m=[x,ϕ]/\k<=l.length/\mP Z F x 1 (al (l.take k))/\mD (l.take k)=mD l/\s=Z) ?_ (n:=l.length) ⟨v,rfl,hI _,by rw[List.take_length];exact h,by rw[List.take_length],rfl⟩;rintro k m s y ⟨x,rfl,C,b,f,rfl⟩ next;have hlen:=b.nil.len k xI J s;simp only[ke,hlen,af]
 by_cases r:k=0
 .subst r;have g:R .gtr ν true (ζ 0) μ s=.ok Θ s:=rfl;simp only[g,ix,bA,Gh,ii,Ut];rw[<-f];exact⟨by simpa[mD]using b,gt⟩
 .have g:R .gtr ν true (I k) μ s=.ok ι s:=by rw[au,cQ,jp J]
  have w:R .sub ν true (I k) ϖ s=.ok (ζ (k-1)) s:=CS
  have a:k-1<l.length:=J
  have c:k-1<(al (l.take k)).length:=by rw[bP,pu];omega
  have j:l.take k=l.take (k-1)++[l[k-1]'a]:=by
   conv=>lhs;rw[show k=(k-1)+1 from J]
   rw[su]
  simp only[g,af,aD,ix,aW,Gh,hlen,w];have q:(al (l.take k))[k-1]'c=bG (l[k-1]'a):=ZO
  have key:=λQ (p:Q (bG (l[k-1]'a)))=>b.nil.idx (i:=k-1) c Q (by rw[q];exact p);unfold Lim.idx at key;refine key _ ?_
  have u:R .eql ψ false (bG (l[k-1]'a)) ϕ s=.ok (.bool (decide (l[k-1]'a=0))) s:=by
   unfold bG;rw[au,cn];congr 2;simp only[CI];constructor
   .intro e;apply aNZ.1;simp;omega
   .intro e;rw[e];rfl
  simp only[u,xl,aC,ix]
  by_cases d:l[k-1]'a=0
  .obtain⟨o,c1,c2⟩:=b.hi (n:=k) J xI (l:=k-1) J s;simp only[d,PO,ix,c1,af];refine next (k-1) _ _ J ⟨o,rfl,J,?_,?_,rfl⟩
   .have e:List.take ((k-1)*1) (al (l.take k))=al (l.take (k-1)):=by
     unfold al;rw[Fi,<-L3,AQ,us J]
    rw[<-e];exact c2
   .rw[<-f,j,d,Kr]
  .simp only[d,FS,pi,ii];rw[<-f,j,QW _ _ d,<-j];exact⟨b,gt⟩
end
section
variable {Z Z':O}
def VI {F:δ Nat}{v:K}{l:δ Γ}(h:mP Z F v 1 (al l))(a:l.length<=1000000)(i:0<l.length):Rq0 185 [v,.str [0]] Z λx Z'=>mP Z F x 1 (al (mD l))/\Z'=Z:=by
 refine bE ?_;rw[apL];have hlen:=h.nil.len l.length V J Z;have g:R .eql ψ true (I l.length) μ Z=.ok Θ Z:=GW
 have f:R .eql ω true (.str [0]) ϑ Z=.ok Θ Z:=rfl;have e:aY .str (.str [0]) Z=.ok ϖ Z:=rfl;have d:R .eql ψ true ϖ ϖ Z=.ok ι Z:=rfl;have c:nJ (.str [0]) μ Z=.ok ϕ Z:=rfl;have b:R .lss ν true ϕ (.int .u8 128) Z=.ok ι Z:=rfl;simp only[hlen,g,ii,f,GT,e,d,ix,c,b];exact QX h a
end
