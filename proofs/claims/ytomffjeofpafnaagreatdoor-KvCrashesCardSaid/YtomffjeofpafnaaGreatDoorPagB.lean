import Derived.Test.YtomffjeofpafnaaGreatDoorPagA
namespace Lim
open Go
noncomputable section
set_option linter.defProp false
set_option maxRecDepth 100000
section
variable {st st':St} {p a:Nat} {lg:CV} {M:bR} {bd bn bi bc:Nat} {F:List Nat} {D:aU}
def gq:iZ:=⟨0,0,0,0⟩
def ey (n:Nat):bR:=⟨1+n/4,n-1-n/4,[],[],gq,gq,[],[]⟩
def LN (c:cQ st a F D)(u:4<=D.aq.length):R 68 [.ptr a 0] st λv st'=>Kp [] st st'/\∃p bd bn bi bc,v=.ptr p 0/\bZ st' p a .bq (ey D.aq.length) bd bn bi bc/\∀b∈[p,bd,bn,bi,bc],st.nx<=b:=by
 refine bK ?_;rw[w68];refine(qA c).same ?_;have l:=(show D.aq.length<=65536 from by obtain⟨_,_,_,_,_,_,_,h⟩:=c;exact h.size);generalize n:D.aq.length=N at*;have r:aj .add none true (.int .i64 1) (I ((N/4:Nat):Int)) st=.ok (I ((1+N/4:Nat):Int)) st:=O8
 rw[r,af];refine(vD c).same ?_;rw[n];have q:aj .sub none true (I N) (.int .i64 1) st=.ok (I ((N-1:Nat):Int)) st:=Gd
 have o:aj .sub none false (I ((N-1:Nat):Int)) (I ((N/4:Nat):Int)) st=.ok (I ((N-1-N/4:Nat):Int)) st:=Gd
 simp only[q,o,af,fV,aP]
 have j:∀s:St,aZ [.bq,.bq,.int .i64 0,.int .i64 0,.fJ,.fJ,.int .i64 0,.int .i64 0,.int .i64 0,.int .i64 0,.int .i64 0,.int .i64 0,.int .i64 0,.int .i64 0,.fJ,.fJ] [(0,1,.ptr a 0),(2,1,I ((1+N/4:Nat):Int)),(3,1,I ((N-1-N/4:Nat):Int)),(4,1,.map st.nx),(5,1,.map (st.nx+1)),(14,1,.map (st.nx+2)),(15,1,.map (st.nx+3))] s=.ok (.agg [.ptr a 0,.bq,I ((1+N/4:Nat):Int),I ((N-1-N/4:Nat):Int),.map st.nx,.map (st.nx+1),.int .i64 0,.int .i64 0,.int .i64 0,.int .i64 0,.int .i64 0,.int .i64 0,.int .i64 0,.int .i64 0,.map (st.nx+2),.map (st.nx+3)]) s:=by
  intro s;rw[dB];have:gC [(0,1,CV.ptr a 0),(2,1,I ((1+N/4:Nat):Int)),(3,1,I ((N-1-N/4:Nat):Int)),(4,1,.map st.nx),(5,1,.map (st.nx+1)),(14,1,.map (st.nx+2)),(15,1,.map (st.nx+3))] [.bq,.bq,.int .i64 0,.int .i64 0,.fJ,.fJ,.int .i64 0,.int .i64 0,.int .i64 0,.int .i64 0,.int .i64 0,.int .i64 0,.int .i64 0,.int .i64 0,.fJ,.fJ]=some [.ptr a 0,.bq,I ((1+N/4:Nat):Int),I ((N-1-N/4:Nat):Int),.map st.nx,.map (st.nx+1),.int .i64 0,.int .i64 0,.int .i64 0,.int .i64 0,.int .i64 0,.int .i64 0,.int .i64 0,.int .i64 0,.map (st.nx+2),.map (st.nx+3)]:=rfl;rw[this]
 have i:(St.new st (.map [] 0)).nx=st.nx+1:=rfl;have f:(St.new (St.new st (.map [] 0)) (.map [] 0)).nx=st.nx+2:=rfl;have e:(St.new (St.new (St.new st (.map [] 0)) (.map [] 0)) (.map [] 0)).nx=st.nx+3:=rfl;rw[i,f,e,j,af,bS];have k:Kp [] st (St.new (St.new (St.new (St.new st (.map [] 0)) (.map [] 0)) (.map [] 0)) (.map [] 0)):=((((Kp.refl [] st).new _).new _).new _).new _;refine⟨rfl,k.new _,st.nx+4,st.nx,st.nx+1,st.nx+2,st.nx+3,rfl,⟨au (St.new (St.new (St.new (St.new st (.map [] 0)) (.map [] 0)) (.map [] 0)) (.map [] 0)) _,.inl ((dd.new st).mono ?_),(dd.new (St.new st (.map [] 0))).mono ?_,(dd.new (St.new (St.new st (.map [] 0)) (.map [] 0))).mono ?_,(dd.new (St.new (St.new (St.new st (.map [] 0)) (.map [] 0)) (.map [] 0))).mono ?_,wb,(by intro b d;simp at d;simp;omega),⟨rfl,rfl,rfl⟩⟩,(by intro b d;simp at d;omega)⟩
 .rw[aX _ _ _ (by first|(simp;done)|(simp;omega)),aX _ _ _ (by first|(simp;done)|(simp;omega)),aX _ _ _ (by first|(simp;done)|(simp;omega)),aX _ _ _ wb]
 .show(St.new _ _).m.g (st.nx+1)=_;rw[aX _ _ _ (by first|(simp;done)|(simp;omega)),aX _ _ _ (by first|(simp;done)|(simp;omega)),aX _ _ _ wb];rfl
 .show(St.new _ _).m.g (st.nx+2)=_;rw[aX _ _ _ (by first|(simp;done)|(simp;omega)),aX _ _ _ wb];rfl
 .show(St.new _ _).m.g (st.nx+3)=_;rw[aX _ _ _ wb];rfl
end
section
variable {st st':St}
def Th (s:iT):iZ:=⟨ph (s.take 4),ph ((s.drop 4).take 4),ph ((s.drop 8).take 4),ph ((s.drop 12).take 4)⟩
def EM {b i:Nat}{s:iT}{t:TypeId}{g:Bool}(f:st.m.g b=some (.cells (ai s) t g))(o:b<st.nx)(hs:s.length=512)(hi:i<4):R 164 [I i,.ptr b 0] st λv st'=>v=I (ph ((s.drop (4*i)).take 4))/\st'=st:=by
 refine bK ?_;rw[amF];have k:aj .mul none true (.int .i64 4) (I i) st=.ok (I ((4*i:Nat):Int)) st:=Ww
 have j:aj .add none true (I ((4*i:Nat):Int)) (.int .i64 4) st=.ok (I ((4*i+4:Nat):Int)) st:=F7
 have c:=rp (n:=512) (b:=b) (l:=4*i) (h:=4*i+4) uM uM uM st;rw[aJn]at c;simp only[k,j,af,c];have p:(ai s).length=512:=aco
 have d:ai ((s.drop (4*i)).take 4)=((ai s).drop (4*i)).take 4:=ack
 have a:((s.drop (4*i)).take 4).length=4:=by rw[aHZ,aIl];omega
 have e:Sl st [] (.slice b (4*i) 4 (512-4*i) 0) 1 (ai ((s.drop (4*i)).take 4)):=.inr ⟨b,4*i,4,512-4*i,0,rfl,by rw[bF,a],⟨uM,.inl rfl⟩,.inr ⟨wb,o,_,_,_,f,uM,by rw[d]⟩⟩;exact qH e uM (qV _ uM)
def WN {s:iT}(f:s.length=512):R 124 [.agg (ai s)] st λv st'=>v=.agg [I (Th s).root,I (Th s).used,I (Th s).head,I (Th s).free]/\Kp [] st st':=by
 refine bK ?_;rw[ann];have C:(CV.agg (ai s)).isAny=false:=rfl;rw[bS,aT];refine⟨C,?_⟩;have p:Kp [] st (St.new (St.new st (.cells (ai s) 173 false)) (.cells [.int .i64 0,.int .i64 0,.int .i64 0,.int .i64 0] 155 false)):=((Kp.refl [] st).new _).new _
 have j:(St.new (St.new st (.cells (ai s) 173 false)) (.cells [.int .i64 0,.int .i64 0,.int .i64 0,.int .i64 0] 155 false)).m.g st.nx=some (.cells (ai s) 173 false):=by
  rw[aX _ _ _ wb];exact au _ _
 have B:(St.new (St.new st (.cells (ai s) 173 false)) (.cells [.int .i64 0,.int .i64 0,.int .i64 0,.int .i64 0] 155 false)).m.g (st.nx+1)=some (.cells [.int .i64 0,.int .i64 0,.int .i64 0,.int .i64 0] 155 false):=au (St.new st (.cells (ai s) 173 false)) _;have D:(St.new (St.new st (.cells (ai s) 173 false)) (.cells [.int .i64 0,.int .i64 0,.int .i64 0,.int .i64 0] 155 false)).nx=st.nx+2:=rfl;have k:(St.new st (.cells (ai s) 173 false)).nx=st.nx+1:=rfl;rw[cz,aP,k];generalize St.new (St.new st (.cells (ai s) 173 false)) (.cells [.int .i64 0,.int .i64 0,.int .i64 0,.int .i64 0] 155 false)=s2 at*;rw[lV,af];have e:st.nx<s2.nx:=uM
 rw[dM];refine(EM (i:=0) j e f uM).same ?_;rw[dM];refine(EM (i:=1) j e f uM).same ?_;rw[dM];refine(EM (i:=2) j e f uM).same ?_;rw[dM];refine(EM (i:=3) j e f uM).same ?_
 have l:∀a b c d:CV,a.cK=[a]->b.cK=[b]->c.cK=[c]->d.cK=[d]->a.isAny=false->b.isAny=false->c.isAny=false->d.isAny=false->aZ [.int .i64 0,.int .i64 0,.int .i64 0,.int .i64 0] [(0,1,a),(1,1,b),(2,1,c),(3,1,d)] s2=.ok (.agg [a,b,c,d]) s2:=by
  intro a b c d A z y x w u r q;rw[dB];simp[cE,bz,A,z,y,x,w,u,r,q]
 rw[l _ _ _ _ rfl rfl rfl rfl rfl rfl rfl rfl,af,aH,B,aS,aT];refine⟨⟨rfl,rfl,wb⟩,?_⟩;have o:∀a b c d:CV,bz [.int .i64 0,.int .i64 0,.int .i64 0,.int .i64 0] 0 [a,b,c,d]=[a,b,c,d]:=λa b c d=>rfl;rw[o,aM (n:=4) (an s2 (st.nx+1) _) rfl,af];refine⟨?_,p.set _ (.inr uM) uM⟩;simp[Th]
end
section
variable {st st':St}
def mn (m:iZ):List Nat:=[m.root,m.used,m.head,m.free]
def sW (l:List Nat):List UInt8:=(l.map (be 4)).flatten
def Df (l:List Nat):(sW l).length=l.length*4:=by
 unfold sW;rw[fg (w:=4) (by intro x a;obtain⟨n,_,rfl⟩:=aIk.1 a;exact iC 4 n),aIx]
def bO (m:iZ):iT:=sW (mn m)++List.replicate 496 0
def il (m:iZ):(bO m).length=512:=by
 unfold bO;rw[aHR,Df,aIF];rfl
def ER {m:iZ}(J:∀n∈mn m,n<9223372036854775808):R 87 [.agg [I m.root,I m.used,I m.head,I m.free]] st λv st'=>v=.agg (ai (bO m))/\Kp [] st st':=by
 refine bK ?_;rw[w87];rw[bS,aT];refine⟨rfl,?_⟩;rw[cz,aP,cz,aP];have F:Kp [] st (St.new (St.new (St.new st (.cells [I m.root,I m.used,I m.head,I m.free] 155 false)) (.cells (zr 512) 173 false)) (.cells (zr 512) 173 false)):=(((Kp.refl [] st).new _).new _).new _;have B:(St.new st (.cells [I m.root,I m.used,I m.head,I m.free] 155 false)).nx=st.nx+1:=rfl;have A:(St.new (St.new st (.cells [I m.root,I m.used,I m.head,I m.free] 155 false)) (.cells (zr 512) 173 false)).nx=st.nx+2:=rfl
 have P:(St.new (St.new (St.new st (.cells [I m.root,I m.used,I m.head,I m.free] 155 false)) (.cells (zr 512) 173 false)) (.cells (zr 512) 173 false)).m.g st.nx=some (.cells [I m.root,I m.used,I m.head,I m.free] 155 false):=by
  rw[aX _ _ _ uM,aX _ _ _ uM];exact au _ _
 have O:(St.new (St.new (St.new st (.cells [I m.root,I m.used,I m.head,I m.free] 155 false)) (.cells (zr 512) 173 false)) (.cells (zr 512) 173 false)).m.g (st.nx+1)=some (.cells (zr 512) 173 false):=by
  rw[aX _ _ _ uM];exact au (St.new st (.cells [I m.root,I m.used,I m.head,I m.free] 155 false)) _
 have N:(St.new (St.new (St.new st (.cells [I m.root,I m.used,I m.head,I m.free] 155 false)) (.cells (zr 512) 173 false)) (.cells (zr 512) 173 false)).m.g (st.nx+2)=some (.cells (zr 512) 173 false):=
  au (St.new (St.new st (.cells [I m.root,I m.used,I m.head,I m.free] 155 false)) (.cells (zr 512) 173 false)) _
 have u:(St.new (St.new (St.new st (.cells [I m.root,I m.used,I m.head,I m.free] 155 false)) (.cells (zr 512) 173 false)) (.cells (zr 512) 173 false)).nx=st.nx+3:=rfl;rw[B,A];generalize St.new (St.new (St.new st (.cells [I m.root,I m.used,I m.head,I m.free] 155 false)) (.cells (zr 512) 173 false)) (.cells (zr 512) 173 false)=s3 at*;have W:bC 3 4 (cH 4 [(.int .i64 0)]) [(0,1,I m.root),(1,1,I m.used),(2,1,I m.head),(3,1,I m.free)] s3=.ok (.slice s3.nx 0 4 4 0) (St.new s3 (.cells [I m.root,I m.used,I m.head,I m.free] 3 false)):=rfl;simp only[cM,fl,ah,af,az,P,ar,aHN,aHI,aHG,aw,W,aP,oM,aK,aL];have E:Kp [] st (St.new s3 (.cells [I m.root,I m.used,I m.head,I m.free] 3 false)):=F.new _;have L:(St.new s3 (.cells [I m.root,I m.used,I m.head,I m.free] 3 false)).m.g (st.nx+1)=some (.cells (zr 512) 173 false):=by rw[aX _ _ _ uM];exact O
 have K:(St.new s3 (.cells [I m.root,I m.used,I m.head,I m.free] 3 false)).m.g (st.nx+2)=some (.cells (ai (List.replicate 512 0)) 173 false):=by rw[aX _ _ _ uM,<-oz];exact N
 have y:(St.new s3 (.cells [I m.root,I m.used,I m.head,I m.free] 3 false)).m.g s3.nx=some (.cells [I m.root,I m.used,I m.head,I m.free] 3 false):=au _ _;have D:(St.new s3 (.cells [I m.root,I m.used,I m.head,I m.free] 3 false)).nx=st.nx+4:=by rw[wP,u]
 rw[u]at y⊢
 refine bG (λfu o s=>∃i,fu+i=4/\o=[.ptr (st.nx+1) 0,.ptr (st.nx+2) 0,.slice (st.nx+3) 0 4 4 0,.int .i64 4,I i]/\Kp [] st s/\s.nx=st.nx+4/\s.m.g (st.nx+1)=some (.cells (zr 512) 173 false)/\
  s.m.g (st.nx+2)=some (.cells (ai (sW ((mn m).take i)++List.replicate (512-4*i) 0)) 173 false)/\s.m.g (st.nx+3)=some (.cells [I m.root,I m.used,I m.head,I m.free] 3 false)) ?_ (n:=4) ⟨0,rfl,rfl,E,D,L,K,y⟩
 rintro fu o s k ⟨i,hi,rfl,w,Y,r,a,q⟩ next;simp only[aK,aL]
 by_cases hc:i<4
 .have hL:(mn m).length=4:=rfl
  have H:∀h,([I m.root,I m.used,I m.head,I m.free]:List CV)[i]'h=I ((mn m)[i]' uM):=by
   intro h
   match i,hc with
   |0,_=>rfl
   |1,_=>rfl
   |2,_=>rfl
   |3,_=>rfl
  have j:aj .lss none false (I i) (.int .i64 4) s=.ok (.bool true) s:=by rw[av,c8,aHQ uM]
  have V:aj .mul none true (.int .i64 4) (I i) s=.ok (I ((4*i:Nat):Int)) s:=Ww
  have U:aj .add none true (I ((4*i:Nat):Int)) (.int .i64 4) s=.ok (I ((4*i+4:Nat):Int)) s:=F7
  have z:=rp (n:=512) (b:=st.nx+2) (l:=4*i) (h:=4*i+4) uM uM uM s;rw[aJn]at z;have G:Sl s [] (.slice (st.nx+3) 0 4 4 0) 1 [I m.root,I m.used,I m.head,I m.free]:=.inr ⟨st.nx+3,0,4,4,0,rfl,rfl,⟨aHK _,.inl rfl⟩,.inr ⟨wb,uM,_,_,_,q,wb,rfl⟩⟩;rw[j,af,ag,aHP rfl];refine G.idx (i:=i) I2 _ ?_;rw[H,V,af,af,U,af,z,af];have x:(sW ((mn m).take i)).length=4*i:=by rw[Df,aHZ,hL];omega
  refine(JI (n:=(mn m)[i]) (len:=4) (off:=4*i) (cap:=512-4*i) a uM (by simp[x];omega) uM (J _ (aIc ..))).mono ?_;rintro _ p ⟨c,X,M⟩;have T:aj .add none true (I i) (.int .i64 1) p=.ok (I ((i+1:Nat):Int)) p:=F7
  rw[T,af];refine next (fu-1) _ _ uM ⟨i+1,uM,rfl,w.trans c wb,uM,(c.keep _ uM wb).trans r,?_,(c.keep _ uM wb).trans q⟩;rw[M]
  congr 2
  have e:=qG (ai (sW ((mn m).take i))) (ai (List.replicate (512-4*i) 0)) (ai (be 4 (mn m)[i]));rw[bF,x]at e;rw[bI,e]
  have S:(ai (List.replicate (512-4*i) 0)).drop (ai (be 4 (mn m)[i])).length=ai (List.replicate (512-4*(i+1)) 0):=by
   unfold ai;rw[<-aJs,aJY,aIx,iC];congr 2
  have Q:sW ((mn m).take (i+1))=sW ((mn m).take i)++be 4 (mn m)[i]:=by
   rw[aIa uM];unfold sW;rw[aIQ,aKa];simp only[aIt,List.map_nil,aJx,List.flatten_nil,aIJ]
   try rfl
  rw[S,Q,bI,bI,aIq]
 .have f:i=4:=by omega
  subst f;have j:aj .lss none false (I ((4:Nat):Int)) (.int .i64 4) s=.ok (.bool false) s:=rfl;have C:ai (sW ((mn m).take 4)++List.replicate (512-4*4) 0)=ai (bO m):=rfl;rw[C]at a;have d:(ai (bO m)).length=512:=by simpa using il m
  rw[j,af,ag,aHM xI,aM a d,af,aH,r,aS,aT,EJ _ (il m)];refine⟨⟨d,bu _,acE⟩,?_⟩;rw[aM (n:=512) (an s (st.nx+1) _) d,af];exact⟨rfl,w.set _ (.inr uM) uM⟩
end
section
variable {st st':St}
def Sd {X Y:List Nat}{v w:CV}{a b:List UInt8}(d:Sl st X v 1 (ai a))(c:Sl st Y w 1 (ai b)):R 85 [v,w] st λx st'=>x=.bool (a==b)/\st'=st:=by
 refine bK ?_;rw[w85];have e:aj .eql (some .str) false (.str a) (.str b) st=sv .eql a b st:=rfl;rw[d.str,af,c.str,af,e];simp[sv]
end
section
variable {st st':St}
def jC (l:List UInt8):List UInt8:=(l.reverse.dropWhile (λb=>b==0)).reverse
def Jk (l:List UInt8):jC (l++[0])=jC l:=by simp[jC]
def Ph (l:List UInt8)(b:UInt8)(h:b≠0):jC (l++[b])=l++[b]:=by simp[jC,h]
def Pj {F:List Nat}{v:CV}{l:List UInt8}(h:lS st F v 1 (ai l))(y:l.length<=1000000):R 167 [v,.int .u8 0] st λx st'=>lS st F x 1 (ai (jC l))/\st'=st:=by
 refine bK ?_;rw[amC];show df _ _ _;simp only[aK,aL];refine bG (λk m s=>∃x,m=[x,.int .u8 0]/\k<=l.length/\lS st F x 1 (ai (l.take k))/\jC (l.take k)=jC l/\s=st) ?_ (n:=l.length) ⟨v,rfl,aHK _,by rw[List.take_length];exact h,by rw[List.take_length],rfl⟩;rintro k m s K ⟨x,rfl,z,b,f,rfl⟩ next;have hlen:=b.nil.len k zS uM s;simp only[aK,aL,hlen,af]
 by_cases r:k=0
 .subst r;have g:aj .gtr none true (I ((0:Nat):Int)) (.int .i64 0) s=.ok (.bool false) s:=rfl;simp only[g,af,aG,aIj,bU,AU,aF,aHH,aHV,ag];rw[<-f];exact⟨by simpa[jC]using b,afp⟩
 .have g:aj .gtr none true (I k) (.int .i64 0) s=.ok (.bool true) s:=by rw[av,dh,aHQ uM]
  have w:aj .sub none true (I k) (.int .i64 1) s=.ok (I ((k-1:Nat):Int)) s:=Gd
  have a:k-1<l.length:=uM
  have c:k-1<(ai (l.take k)).length:=by rw[bF,aHZ];omega
  have j:l.take k=l.take (k-1)++[l[k-1]'a]:=by
   conv=>lhs;rw[show k=(k-1)+1 from uM]
   rw[aIa]
  simp only[g,af,aG,aIj,ba,AU,hlen,w];have q:(ai (l.take k))[k-1]'c=bP (l[k-1]'a):=ack
  have key:=λQ (p:Q (bP (l[k-1]'a)))=>b.nil.idx (i:=k-1) c Q (by rw[q];exact p);unfold Lim.idx at key;refine key _ ?_
  have u:aj .eql (some .int) false (bP (l[k-1]'a)) (.int .u8 0) s=.ok (.bool (decide (l[k-1]'a=0))) s:=by
   unfold bP;rw[av,cC];congr 2;simp only[aIi];constructor
   .intro e;apply UInt8.toNat_inj.1;simp;omega
   .intro e;rw[e];rfl
  simp only[u,af,aF,aIj,ag]
  by_cases d:l[k-1]'a=0
  .obtain⟨o,c1,c2⟩:=b.hi (n:=k) uM zS (l:=k-1) uM s;simp only[d,aIS,aIj,c1,af];refine next (k-1) _ _ uM ⟨o,rfl,uM,?_,?_,rfl⟩
   .have e:List.take ((k-1)*1) (ai (l.take k))=ai (l.take (k-1)):=by
     unfold ai;rw[aJr,<-aJI,aJc,aIC uM]
    rw[<-e];exact c2
   .rw[<-f,j,d,Jk]
  .simp only[d,aJm,aHH,aHV];rw[<-f,j,Ph _ _ d,<-j];exact⟨b,afp⟩
end
section
variable {st st':St}
def TY {F:List Nat}{v:CV}{l:List UInt8}(h:lS st F v 1 (ai l))(a:l.length<=1000000)(i:0<l.length):R 130 [v,.str [0]] st λx st'=>lS st F x 1 (ai (jC l))/\st'=st:=by
 refine bK ?_;rw[anh];have hlen:=h.nil.len l.length wb uM st;have g:aj .eql (some .int) true (I l.length) (.int .i64 0) st=.ok (.bool false) st:=Pe
 have f:aj .eql (some .str) true (.str [0]) (.str []) st=.ok (.bool false) st:=rfl;have e:bt .str (.str [0]) st=.ok (.int .i64 1) st:=rfl;have d:aj .eql (some .int) true (.int .i64 1) (.int .i64 1) st=.ok (.bool true) st:=rfl;have c:pN (.str [0]) (.int .i64 0) st=.ok (.int .u8 0) st:=rfl;have b:aj .lss none true (.int .u8 0) (.int .u8 128) st=.ok (.bool true) st:=rfl;simp only[hlen,af,g,aG,aHH,aHV,aHY,ba,f,aF,ag,e,d,aIj,c,b];exact Pj h a
end
