import Derived.Test.YtomffjeofpafnaaGreatDoorPagA
namespace Lim
open Go
noncomputable section
set_option linter.defProp false
set_option maxRecDepth 100000
section
variable {st st':St} {p a:Nat} {lg:CV} {M:bQ} {bd bn bi bc:Nat} {F:List Nat} {D:aP}
def fV:iA:=⟨0,0,0,0⟩
def eo (n:Nat):bQ:=⟨1+n/4,n-1-n/4,[],[],fV,fV,[],[]⟩
def JZ (hd:cG st a F D)(hn:4<=D.ao.length):R 68 [.ptr a 0] st λv st'=>Kp [] st st'/\∃p bd bn bi bc,v=.ptr p 0/\cC st' p a .bk (eo D.ao.length) bd bn bi bc/\∀b∈[p,bd,bn,bi,bc],st.nx<=b:=by
 refine bN ?_;rw[w68];refine(pC hd).same ?_;have hsz:=(show D.ao.length<=65536 from by obtain⟨_,_,_,_,_,_,_,h⟩:=hd;exact h.size);generalize hN:D.ao.length=N at*;have e1:ai .add none true (.int .i64 1) (I ((N/4:Nat):Int)) st=.ok (I ((1+N/4:Nat):Int)) st:=Sa
 rw[e1,af];refine(wY hd).same ?_;rw[hN];have e2:ai .sub none true (I N) (.int .i64 1) st=.ok (I ((N-1:Nat):Int)) st:=EH
 have e3:ai .sub none false (I ((N-1:Nat):Int)) (I ((N/4:Nat):Int)) st=.ok (I ((N-1-N/4:Nat):Int)) st:=EH
 simp only[e2,e3,af,ju,aT]
 have mR:∀s:St,bu [.bk,.bk,.int .i64 0,.int .i64 0,.fF,.fF,.int .i64 0,.int .i64 0,.int .i64 0,.int .i64 0,.int .i64 0,.int .i64 0,.int .i64 0,.int .i64 0,.fF,.fF] [(0,1,.ptr a 0),(2,1,I ((1+N/4:Nat):Int)),(3,1,I ((N-1-N/4:Nat):Int)),(4,1,.map st.nx),(5,1,.map (st.nx+1)),(14,1,.map (st.nx+2)),(15,1,.map (st.nx+3))] s=.ok (.agg [.ptr a 0,.bk,I ((1+N/4:Nat):Int),I ((N-1-N/4:Nat):Int),.map st.nx,.map (st.nx+1),.int .i64 0,.int .i64 0,.int .i64 0,.int .i64 0,.int .i64 0,.int .i64 0,.int .i64 0,.int .i64 0,.map (st.nx+2),.map (st.nx+3)]) s:=by
  intro s;rw[dw];have:gf [(0,1,CV.ptr a 0),(2,1,I ((1+N/4:Nat):Int)),(3,1,I ((N-1-N/4:Nat):Int)),(4,1,.map st.nx),(5,1,.map (st.nx+1)),(14,1,.map (st.nx+2)),(15,1,.map (st.nx+3))] [.bk,.bk,.int .i64 0,.int .i64 0,.fF,.fF,.int .i64 0,.int .i64 0,.int .i64 0,.int .i64 0,.int .i64 0,.int .i64 0,.int .i64 0,.int .i64 0,.fF,.fF]=some [.ptr a 0,.bk,I ((1+N/4:Nat):Int),I ((N-1-N/4:Nat):Int),.map st.nx,.map (st.nx+1),.int .i64 0,.int .i64 0,.int .i64 0,.int .i64 0,.int .i64 0,.int .i64 0,.int .i64 0,.int .i64 0,.map (st.nx+2),.map (st.nx+3)]:=rfl;rw[this]
 have x1:(St.new st (.map [] 0)).nx=st.nx+1:=rfl;have x2:(St.new (St.new st (.map [] 0)) (.map [] 0)).nx=st.nx+2:=rfl;have x3:(St.new (St.new (St.new st (.map [] 0)) (.map [] 0)) (.map [] 0)).nx=st.nx+3:=rfl;rw[x1,x2,x3,mR,af,bW];have k4:Kp [] st (St.new (St.new (St.new (St.new st (.map [] 0)) (.map [] 0)) (.map [] 0)) (.map [] 0)):=((((Kp.refl [] st).new _).new _).new _).new _;refine⟨rfl,k4.new _,st.nx+4,st.nx,st.nx+1,st.nx+2,st.nx+3,rfl,⟨aw (St.new (St.new (St.new (St.new st (.map [] 0)) (.map [] 0)) (.map [] 0)) (.map [] 0)) _,.inl ((dt.new st).mono ?_),(dt.new (St.new st (.map [] 0))).mono ?_,(dt.new (St.new (St.new st (.map [] 0)) (.map [] 0))).mono ?_,(dt.new (St.new (St.new (St.new st (.map [] 0)) (.map [] 0)) (.map [] 0))).mono ?_,rq,(by intro b hb;simp at hb;simp;omega),⟨rfl,rfl,rfl⟩⟩,(by intro b hb;simp at hb;omega)⟩
 .rw[ba _ _ _ (by first|(simp;done)|(simp;omega)),ba _ _ _ (by first|(simp;done)|(simp;omega)),ba _ _ _ (by first|(simp;done)|(simp;omega)),ba _ _ _ rq]
 .show(St.new _ _).m.g (st.nx+1)=_;rw[ba _ _ _ (by first|(simp;done)|(simp;omega)),ba _ _ _ (by first|(simp;done)|(simp;omega)),ba _ _ _ rq];rfl
 .show(St.new _ _).m.g (st.nx+2)=_;rw[ba _ _ _ (by first|(simp;done)|(simp;omega)),ba _ _ _ rq];rfl
 .show(St.new _ _).m.g (st.nx+3)=_;rw[ba _ _ _ rq];rfl
end
section
variable {st st':St}
def SU (s:iJ):iA:=⟨og (s.take 4),og ((s.drop 4).take 4),og ((s.drop 8).take 4),og ((s.drop 12).take 4)⟩
def Dx {b i:Nat}{s:iJ}{t:TypeId}{g:Bool}(hb:st.m.g b=some (.cells (aj s) t g))(Ey:b<st.nx)(hs:s.length=512)(hi:i<4):R 164 [I i,.ptr b 0] st λv st'=>v=I (og ((s.drop (4*i)).take 4))/\st'=st:=by
 refine bN ?_;rw[ajn];have e1:ai .mul none true (.int .i64 4) (I i) st=.ok (I ((4*i:Nat):Int)) st:=Sd
 have e2:ai .add none true (I ((4*i:Nat):Int)) (.int .i64 4) st=.ok (I ((4*i+4:Nat):Int)) st:=CE
 have e3:=qj (n:=512) (b:=b) (l:=4*i) (h:=4*i+4) pX pX pX st;rw[aFb]at e3;simp only[e1,e2,af,e3];have hl:(aj s).length=512:=aas
 have zP:aj ((s.drop (4*i)).take 4)=((aj s).drop (4*i)).take 4:=aaF
 have hl4:((s.drop (4*i)).take 4).length=4:=by rw[aDF,aDO];omega
 have lu:Sl st [] (.slice b (4*i) 4 (512-4*i) 0) 1 (aj ((s.drop (4*i)).take 4)):=.inr ⟨b,4*i,4,512-4*i,0,rfl,by rw[bJ,hl4],⟨pX,.inl rfl⟩,.inr ⟨rq,Ey,_,_,_,hb,pX,by rw[zP]⟩⟩;exact sY lu pX (tA _ pX)
def acC {s:iJ}(hs:s.length=512):R 124 [.agg (aj s)] st λv st'=>v=.agg [I (SU s).root,I (SU s).used,I (SU s).head,I (SU s).free]/\Kp [] st st':=by
 refine bN ?_;rw[ajR];have Zo:(CV.agg (aj s)).isAny=false:=rfl;rw[bW,aV];refine⟨Zo,?_⟩;have k2:Kp [] st (St.new (St.new st (.cells (aj s) 173 false)) (.cells [.int .i64 0,.int .i64 0,.int .i64 0,.int .i64 0] 155 false)):=((Kp.refl [] st).new _).new _
 have g1:(St.new (St.new st (.cells (aj s) 173 false)) (.cells [.int .i64 0,.int .i64 0,.int .i64 0,.int .i64 0] 155 false)).m.g st.nx=some (.cells (aj s) 173 false):=by
  rw[ba _ _ _ rq];exact aw _ _
 have g2:(St.new (St.new st (.cells (aj s) 173 false)) (.cells [.int .i64 0,.int .i64 0,.int .i64 0,.int .i64 0] 155 false)).m.g (st.nx+1)=some (.cells [.int .i64 0,.int .i64 0,.int .i64 0,.int .i64 0] 155 false):=aw (St.new st (.cells (aj s) 173 false)) _;have n2:(St.new (St.new st (.cells (aj s) 173 false)) (.cells [.int .i64 0,.int .i64 0,.int .i64 0,.int .i64 0] 155 false)).nx=st.nx+2:=rfl;have x1:(St.new st (.cells (aj s) 173 false)).nx=st.nx+1:=rfl;rw[cE,aT,x1];generalize St.new (St.new st (.cells (aj s) 173 false)) (.cells [.int .i64 0,.int .i64 0,.int .i64 0,.int .i64 0] 155 false)=s2 at*;rw[mB,af];have hlt:st.nx<s2.nx:=pX
 rw[dM];refine(Dx (i:=0) g1 hlt hs pX).same ?_;rw[dM];refine(Dx (i:=1) g1 hlt hs pX).same ?_;rw[dM];refine(Dx (i:=2) g1 hlt hs pX).same ?_;rw[dM];refine(Dx (i:=3) g1 hlt hs pX).same ?_
 have mR:∀a b c d:CV,a.cA=[a]->b.cA=[b]->c.cA=[c]->d.cA=[d]->a.isAny=false->b.isAny=false->c.isAny=false->d.isAny=false->bu [.int .i64 0,.int .i64 0,.int .i64 0,.int .i64 0] [(0,1,a),(1,1,b),(2,1,c),(3,1,d)] s2=.ok (.agg [a,b,c,d]) s2:=by
  intro a b c d h1 h2 h3 h4 h5 h6 h7 h8;rw[dw];simp[cq,bo,h1,h2,h3,h4,h5,h6,h7,h8]
 rw[mR _ _ _ _ rfl rfl rfl rfl rfl rfl rfl rfl,af,aF,g2,aS,aV];refine⟨⟨rfl,rfl,rq⟩,?_⟩;have kq:∀a b c d:CV,bo [.int .i64 0,.int .i64 0,.int .i64 0,.int .i64 0] 0 [a,b,c,d]=[a,b,c,d]:=λa b c d=>rfl;rw[kq,aR (n:=4) (aq s2 (st.nx+1) _) rfl,af];refine⟨?_,k2.set _ (.inr pX) pX⟩;simp[SU]
end
section
variable {st st':St}
def lU (m:iA):List Nat:=[m.root,m.used,m.head,m.free]
def rU (l:List Nat):List UInt8:=(l.map (be 4)).flatten
def BP (l:List Nat):(rU l).length=l.length*4:=by
 unfold rU;rw[fB (w:=4) (by intro x hx;obtain⟨n,_,rfl⟩:=aDR.1 hx;exact gZ 4 n),aEt]
def bL (m:iA):iJ:=rU (lU m)++List.replicate 496 0
def gP (m:iA):(bL m).length=512:=by
 unfold bL;rw[aDw,BP,aEo];rfl
def DB {m:iA}(hb:∀n∈lU m,n<9223372036854775808):R 87 [.agg [I m.root,I m.used,I m.head,I m.free]] st λv st'=>v=.agg (aj (bL m))/\Kp [] st st':=by
 refine bN ?_;rw[w87];rw[bW,aV];refine⟨rfl,?_⟩;rw[cE,aT,cE,aT];have k3:Kp [] st (St.new (St.new (St.new st (.cells [I m.root,I m.used,I m.head,I m.free] 155 false)) (.cells (zr 512) 173 false)) (.cells (zr 512) 173 false)):=(((Kp.refl [] st).new _).new _).new _;have y1:(St.new st (.cells [I m.root,I m.used,I m.head,I m.free] 155 false)).nx=st.nx+1:=rfl;have y2:(St.new (St.new st (.cells [I m.root,I m.used,I m.head,I m.free] 155 false)) (.cells (zr 512) 173 false)).nx=st.nx+2:=rfl
 have g1:(St.new (St.new (St.new st (.cells [I m.root,I m.used,I m.head,I m.free] 155 false)) (.cells (zr 512) 173 false)) (.cells (zr 512) 173 false)).m.g st.nx=some (.cells [I m.root,I m.used,I m.head,I m.free] 155 false):=by
  rw[ba _ _ _ pX,ba _ _ _ pX];exact aw _ _
 have g2:(St.new (St.new (St.new st (.cells [I m.root,I m.used,I m.head,I m.free] 155 false)) (.cells (zr 512) 173 false)) (.cells (zr 512) 173 false)).m.g (st.nx+1)=some (.cells (zr 512) 173 false):=by
  rw[ba _ _ _ pX];exact aw (St.new st (.cells [I m.root,I m.used,I m.head,I m.free] 155 false)) _
 have g3:(St.new (St.new (St.new st (.cells [I m.root,I m.used,I m.head,I m.free] 155 false)) (.cells (zr 512) 173 false)) (.cells (zr 512) 173 false)).m.g (st.nx+2)=some (.cells (zr 512) 173 false):=
  aw (St.new (St.new st (.cells [I m.root,I m.used,I m.head,I m.free] 155 false)) (.cells (zr 512) 173 false)) _
 have n3:(St.new (St.new (St.new st (.cells [I m.root,I m.used,I m.head,I m.free] 155 false)) (.cells (zr 512) 173 false)) (.cells (zr 512) 173 false)).nx=st.nx+3:=rfl;rw[y1,y2];generalize St.new (St.new (St.new st (.cells [I m.root,I m.used,I m.head,I m.free] 155 false)) (.cells (zr 512) 173 false)) (.cells (zr 512) 173 false)=s3 at*;have Nc:bO 3 4 (cJ 4 [(.int .i64 0)]) [(0,1,I m.root),(1,1,I m.used),(2,1,I m.head),(3,1,I m.free)] s3=.ok (.slice s3.nx 0 4 4 0) (St.new s3 (.cells [I m.root,I m.used,I m.head,I m.free] 3 false)):=rfl;simp only[cK,fl,ah,af,aC,g1,ar,aDx,aDq,aDo,az,Nc,aT,nQ,aH,aI];have k4:Kp [] st (St.new s3 (.cells [I m.root,I m.used,I m.head,I m.free] 3 false)):=k3.new _;have h2:(St.new s3 (.cells [I m.root,I m.used,I m.head,I m.free] 3 false)).m.g (st.nx+1)=some (.cells (zr 512) 173 false):=by rw[ba _ _ _ pX];exact g2
 have h3:(St.new s3 (.cells [I m.root,I m.used,I m.head,I m.free] 3 false)).m.g (st.nx+2)=some (.cells (aj (List.replicate 512 0)) 173 false):=by rw[ba _ _ _ pX,<-nI];exact g3
 have h4:(St.new s3 (.cells [I m.root,I m.used,I m.head,I m.free] 3 false)).m.g s3.nx=some (.cells [I m.root,I m.used,I m.head,I m.free] 3 false):=aw _ _;have n4:(St.new s3 (.cells [I m.root,I m.used,I m.head,I m.free] 3 false)).nx=st.nx+4:=by rw[vQ,n3]
 rw[n3]at h4⊢
 refine bK (λfu vs s=>∃i,fu+i=4/\vs=[.ptr (st.nx+1) 0,.ptr (st.nx+2) 0,.slice (st.nx+3) 0 4 4 0,.int .i64 4,I i]/\Kp [] st s/\s.nx=st.nx+4/\s.m.g (st.nx+1)=some (.cells (zr 512) 173 false)/\
  s.m.g (st.nx+2)=some (.cells (aj (rU ((lU m).take i)++List.replicate (512-4*i) 0)) 173 false)/\s.m.g (st.nx+3)=some (.cells [I m.root,I m.used,I m.head,I m.free] 3 false)) ?_ (n:=4) ⟨0,rfl,rfl,k4,n4,h2,h3,h4⟩
 rintro fu vs s k ⟨i,hi,rfl,hk,hn,q1,q2,q3⟩ next;simp only[aH,aI]
 by_cases hc:i<4
 .have hL:(lU m).length=4:=rfl
  have hg:∀h,([I m.root,I m.used,I m.head,I m.free]:List CV)[i]'h=I ((lU m)[i]' pX):=by
   intro h
   match i,hc with
   |0,_=>rfl
   |1,_=>rfl
   |2,_=>rfl
   |3,_=>rfl
  have a1:ai .lss none false (I i) (.int .i64 4) s=.ok (.bool true) s:=by rw[ay,cY,aDz pX]
  have a2:ai .mul none true (.int .i64 4) (I i) s=.ok (I ((4*i:Nat):Int)) s:=Sd
  have a3:ai .add none true (I ((4*i:Nat):Int)) (.int .i64 4) s=.ok (I ((4*i+4:Nat):Int)) s:=CE
  have a4:=qj (n:=512) (b:=st.nx+2) (l:=4*i) (h:=4*i+4) pX pX pX s;rw[aFb]at a4;have lu:Sl s [] (.slice (st.nx+3) 0 4 4 0) 1 [I m.root,I m.used,I m.head,I m.free]:=.inr ⟨st.nx+3,0,4,4,0,rfl,rfl,⟨aDt _,.inl rfl⟩,.inr ⟨rq,pX,_,_,_,q3,rq,rfl⟩⟩;rw[a1,af,ag,aDy rfl];refine lu.idx (i:=i) Hw _ ?_;rw[hg,a2,af,af,a3,af,a4,af];have hP:(rU ((lU m).take i)).length=4*i:=by rw[BP,aDF,hL];omega
  refine(Io (n:=(lU m)[i]) (len:=4) (off:=4*i) (cap:=512-4*i) q2 pX (by simp[hP];omega) pX (hb _ (aDL ..))).mono ?_;rintro _ s6 ⟨k6,n6,g6⟩;have a5:ai .add none true (I i) (.int .i64 1) s6=.ok (I ((i+1:Nat):Int)) s6:=CE
  rw[a5,af];refine next (fu-1) _ _ pX ⟨i+1,pX,rfl,hk.trans k6 rq,pX,(k6.keep _ pX rq).trans q1,?_,(k6.keep _ pX rq).trans q3⟩;rw[g6]
  congr 2
  have e:=pG (aj (rU ((lU m).take i))) (aj (List.replicate (512-4*i) 0)) (aj (be 4 (lU m)[i]));rw[bJ,hP]at e;rw[bF,e]
  have e2:(aj (List.replicate (512-4*i) 0)).drop (aj (be 4 (lU m)[i])).length=aj (List.replicate (512-4*(i+1)) 0):=by
   unfold aj;rw[<-aEN,aFA,aEt,gZ];congr 2
  have e3:rU ((lU m).take (i+1))=rU ((lU m).take i)++be 4 (lU m)[i]:=by
   rw[aDH pX];unfold rU;rw[aEC,aFP];simp only[aEc,List.map_nil,aES,List.flatten_nil,aEs]
   try rfl
  rw[e2,e3,bF,bF,aDY]
 .have h4i:i=4:=by omega
  subst h4i;have a1:ai .lss none false (I ((4:Nat):Int)) (.int .i64 4) s=.ok (.bool false) s:=rfl;have qz:aj (rU ((lU m).take 4)++List.replicate (512-4*4) 0)=aj (bL m):=rfl;rw[qz]at q2;have hl:(aj (bL m)).length=512:=by simpa using gP m
  rw[a1,af,ag,aDv wI,aR q2 hl,af,aF,q1,aS,aV,JT _ (gP m)];refine⟨⟨hl,bC _,by rw[pU];exact aDt _⟩,?_⟩;rw[aR (n:=512) (aq s (st.nx+1) _) hl,af];exact⟨rfl,hk.set _ (.inr pX) pX⟩
end
section
variable {st st':St}
def Qv {X Y:List Nat}{v w:CV}{a b:List UInt8}(h1:Sl st X v 1 (aj a))(h2:Sl st Y w 1 (aj b)):R 85 [v,w] st λx st'=>x=.bool (a==b)/\st'=st:=by
 refine bN ?_;rw[w85];have e:ai .eql (some .str) false (.str a) (.str b) st=rK .eql a b st:=rfl;rw[h1.str,af,h2.str,af,e];simp[rK]
end
section
variable {st st':St}
def jb (l:List UInt8):List UInt8:=(l.reverse.dropWhile (λb=>b==0)).reverse
def HQ (l:List UInt8):jb (l++[0])=jb l:=by simp[jb]
def NF (l:List UInt8)(b:UInt8)(h:b≠0):jb (l++[b])=l++[b]:=by simp[jb,h]
def NG {F:List Nat}{v:CV}{l:List UInt8}(h:lB st F v 1 (aj l))(hl:l.length<=1000000):R 167 [v,.int .u8 0] st λx st'=>lB st F x 1 (aj (jb l))/\st'=st:=by
 refine bN ?_;rw[ajl];show db _ _ _;simp only[aH,aI];refine bK (λk vs s=>∃x,vs=[x,.int .u8 0]/\k<=l.length/\lB st F x 1 (aj (l.take k))/\jb (l.take k)=jb l/\s=st) ?_ (n:=l.length) ⟨v,rfl,aDt _,by rw[List.take_length];exact h,by rw[List.take_length],rfl⟩;rintro k vs s K ⟨x,rfl,hk,hx,ht,rfl⟩ next;have hlen:=hx.nil.len k AI pX s;simp only[aH,aI,hlen,af]
 by_cases h0:k=0
 .subst h0;have e1:ai .gtr none true (I ((0:Nat):Int)) (.int .i64 0) s=.ok (.bool false) s:=rfl;simp only[e1,af,aL,aDQ,cH,xd,aJ,aDp,aDE,ag];rw[<-ht];exact⟨by simpa[jb]using hx,adu⟩
 .have e1:ai .gtr none true (I k) (.int .i64 0) s=.ok (.bool true) s:=by rw[ay,dx,aDz pX]
  have e2:ai .sub none true (I k) (.int .i64 1) s=.ok (I ((k-1:Nat):Int)) s:=EH
  have Bg:k-1<l.length:=pX
  have hlt:k-1<(aj (l.take k)).length:=by rw[bJ,aDF];omega
  have zQ:l.take k=l.take (k-1)++[l[k-1]'Bg]:=by
   conv=>lhs;rw[show k=(k-1)+1 from pX]
   rw[aDH]
  simp only[e1,af,aL,aDQ,bp,xd,hlen,e2];have hg:(aj (l.take k))[k-1]'hlt=bP (l[k-1]'Bg):=aaF
  have key:=λQ (hq:Q (bP (l[k-1]'Bg)))=>hx.nil.idx (i:=k-1) hlt Q (by rw[hg];exact hq);unfold Lim.idx at key;refine key _ ?_
  have e3:ai .eql (some .int) false (bP (l[k-1]'Bg)) (.int .u8 0) s=.ok (.bool (decide (l[k-1]'Bg=0))) s:=by
   unfold bP;rw[ay,cz];congr 2;simp only[aDU];constructor
   .intro e;apply UInt8.toNat_inj.1;simp;omega
   .intro e;rw[e];rfl
  simp only[e3,af,aJ,aDQ,ag]
  by_cases hz:l[k-1]'Bg=0
  .obtain⟨x2,c1,c2⟩:=hx.hi (n:=k) pX AI (l:=k-1) pX s;simp only[hz,aEq,aDQ,c1,af];refine next (k-1) _ _ pX ⟨x2,rfl,pX,?_,?_,rfl⟩
   .have e:List.take ((k-1)*1) (aj (l.take k))=aj (l.take (k-1)):=by
     unfold aj;rw[aEQ,<-aFc,aEH,aEi pX]
    rw[<-e];exact c2
   .rw[<-ht,zQ,hz,HQ]
  .simp only[hz,aEY,aDp,aDE];rw[<-ht,zQ,NF _ _ hz,<-zQ];exact⟨hx,adu⟩
end
section
variable {st st':St}
def Sk {F:List Nat}{v:CV}{l:List UInt8}(h:lB st F v 1 (aj l))(hl:l.length<=1000000)(h0:0<l.length):R 130 [v,.str [0]] st λx st'=>lB st F x 1 (aj (jb l))/\st'=st:=by
 refine bN ?_;rw[ajO];have hlen:=h.nil.len l.length rq pX st;have e1:ai .eql (some .int) true (I l.length) (.int .i64 0) st=.ok (.bool false) st:=R6
 have e2:ai .eql (some .str) true (.str [0]) (.str []) st=.ok (.bool false) st:=rfl;have e3:bj .str (.str [0]) st=.ok (.int .i64 1) st:=rfl;have e4:ai .eql (some .int) true (.int .i64 1) (.int .i64 1) st=.ok (.bool true) st:=rfl;have e5:oK (.str [0]) (.int .i64 0) st=.ok (.int .u8 0) st:=rfl;have e6:ai .lss none true (.int .u8 0) (.int .u8 128) st=.ok (.bool true) st:=rfl;simp only[hlen,af,e1,aL,aDp,aDE,aDI,bp,e2,aJ,ag,e3,e4,aDQ,e5,e6];exact NG h hl
end
