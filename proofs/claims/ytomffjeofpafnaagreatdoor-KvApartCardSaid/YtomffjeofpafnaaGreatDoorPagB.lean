import Derived.Test.YtomffjeofpafnaaGreatDoorPagA
namespace Lim
open Go
noncomputable section
set_option linter.defProp false
set_option maxRecDepth 100000
section
variable {st st':St} {p a:Nat} {lg:CV} {M:bZ} {bd bn bi bc:Nat} {F:List Nat} {D:bf}
def gp:j9:=⟨0,0,0,0⟩
def eB (n:Nat):bZ:=⟨1+n/4,n-1-n/4,[],[],gp,gp,[],[]⟩
def K1 (hd:dz st a F D)(hn:4<=D.aA.length):R 68 [.ptr a 0] st λv st'=>Kp [] st st'/\∃p bd bn bi bc,v=.ptr p 0/\cP st' p a .bA (eB D.aA.length) bd bn bi bc/\∀b∈[p,bd,bn,bi,bc],st.nx<=b:=by
 refine bP ?_;rw[w68];refine(pU hd).same ?_;have hsz:=(show D.aA.length<=65536 from by obtain⟨_,_,_,_,_,_,_,h⟩:=hd;exact h.size);generalize hN:D.aA.length=N at*;have e1:ai .add none true (.int .i64 1) (I ((N/4:Nat):Int)) st=.ok (I ((1+N/4:Nat):Int)) st:=Oh
 rw[e1,af];refine(vu hd).same ?_;rw[hN];have e2:ai .sub none true (I N) (.int .i64 1) st=.ok (I ((N-1:Nat):Int)) st:=Bw
 have e3:ai .sub none false (I ((N-1:Nat):Int)) (I ((N/4:Nat):Int)) st=.ok (I ((N-1-N/4:Nat):Int)) st:=Bw
 simp only[e2,e3,af,iO,aS]
 have nD:∀s:St,bk [.bA,.bA,.int .i64 0,.int .i64 0,.fY,.fY,.int .i64 0,.int .i64 0,.int .i64 0,.int .i64 0,.int .i64 0,.int .i64 0,.int .i64 0,.int .i64 0,.fY,.fY] [(0,1,.ptr a 0),(2,1,I ((1+N/4:Nat):Int)),(3,1,I ((N-1-N/4:Nat):Int)),(4,1,.map st.nx),(5,1,.map (st.nx+1)),(14,1,.map (st.nx+2)),(15,1,.map (st.nx+3))] s=.ok (.agg [.ptr a 0,.bA,I ((1+N/4:Nat):Int),I ((N-1-N/4:Nat):Int),.map st.nx,.map (st.nx+1),.int .i64 0,.int .i64 0,.int .i64 0,.int .i64 0,.int .i64 0,.int .i64 0,.int .i64 0,.int .i64 0,.map (st.nx+2),.map (st.nx+3)]) s:=by
  intro s;rw[dV];have:gC [(0,1,CV.ptr a 0),(2,1,I ((1+N/4:Nat):Int)),(3,1,I ((N-1-N/4:Nat):Int)),(4,1,.map st.nx),(5,1,.map (st.nx+1)),(14,1,.map (st.nx+2)),(15,1,.map (st.nx+3))] [.bA,.bA,.int .i64 0,.int .i64 0,.fY,.fY,.int .i64 0,.int .i64 0,.int .i64 0,.int .i64 0,.int .i64 0,.int .i64 0,.int .i64 0,.int .i64 0,.fY,.fY]=some [.ptr a 0,.bA,I ((1+N/4:Nat):Int),I ((N-1-N/4:Nat):Int),.map st.nx,.map (st.nx+1),.int .i64 0,.int .i64 0,.int .i64 0,.int .i64 0,.int .i64 0,.int .i64 0,.int .i64 0,.int .i64 0,.map (st.nx+2),.map (st.nx+3)]:=rfl;rw[this]
 have x1:(St.new st (.map [] 0)).nx=st.nx+1:=rfl;have x2:(St.new (St.new st (.map [] 0)) (.map [] 0)).nx=st.nx+2:=rfl;have x3:(St.new (St.new (St.new st (.map [] 0)) (.map [] 0)) (.map [] 0)).nx=st.nx+3:=rfl;rw[x1,x2,x3,nD,af,bV];have k4:Kp [] st (St.new (St.new (St.new (St.new st (.map [] 0)) (.map [] 0)) (.map [] 0)) (.map [] 0)):=((((Kp.refl [] st).new _).new _).new _).new _;refine⟨rfl,k4.new _,st.nx+4,st.nx,st.nx+1,st.nx+2,st.nx+3,rfl,⟨ao (St.new (St.new (St.new (St.new st (.map [] 0)) (.map [] 0)) (.map [] 0)) (.map [] 0)) _,.inl ((dy.new st).mono ?_),(dy.new (St.new st (.map [] 0))).mono ?_,(dy.new (St.new (St.new st (.map [] 0)) (.map [] 0))).mono ?_,(dy.new (St.new (St.new (St.new st (.map [] 0)) (.map [] 0)) (.map [] 0))).mono ?_,uG,(by intro b hb;simp at hb;simp;omega),⟨rfl,rfl,rfl⟩⟩,(by intro b hb;simp at hb;omega)⟩
 .rw[bg _ _ _ (by first|(simp;done)|(simp;omega)),bg _ _ _ (by first|(simp;done)|(simp;omega)),bg _ _ _ (by first|(simp;done)|(simp;omega)),bg _ _ _ uG]
 .show(St.new _ _).m.g (st.nx+1)=_;rw[bg _ _ _ (by first|(simp;done)|(simp;omega)),bg _ _ _ (by first|(simp;done)|(simp;omega)),bg _ _ _ uG];rfl
 .show(St.new _ _).m.g (st.nx+2)=_;rw[bg _ _ _ (by first|(simp;done)|(simp;omega)),bg _ _ _ uG];rfl
 .show(St.new _ _).m.g (st.nx+3)=_;rw[bg _ _ _ uG];rfl
end
section
variable {st st':St}
def UI (s:jU):j9:=⟨oC (s.take 4),oC ((s.drop 4).take 4),oC ((s.drop 8).take 4),oC ((s.drop 12).take 4)⟩
def Eh {b i:Nat}{s:jU}{t:TypeId}{g:Bool}(hb:st.m.g b=some (.cells (aj s) t g))(Hm:b<st.nx)(hs:s.length=512)(hi:i<4):R 164 [I i,.ptr b 0] st λv st'=>v=I (oC ((s.drop (4*i)).take 4))/\st'=st:=by
 refine bP ?_;rw[ako];have e1:ai .mul none true (.int .i64 4) (I i) st=.ok (I ((4*i:Nat):Int)) st:=O3
 have e2:ai .add none true (I ((4*i:Nat):Int)) (.int .i64 4) st=.ok (I ((4*i+4:Nat):Int)) st:=xt
 have e3:=qQ (n:=512) (b:=b) (l:=4*i) (h:=4*i+4) qE qE qE st;rw[aGQ]at e3;simp only[e1,e2,af,e3];have hl:(aj s).length=512:=aaX
 have BO:aj ((s.drop (4*i)).take 4)=((aj s).drop (4*i)).take 4:=abK
 have hl4:((s.drop (4*i)).take 4).length=4:=by rw[aFc,aFn];omega
 have lq:Sl st [] (.slice b (4*i) 4 (512-4*i) 0) 1 (aj ((s.drop (4*i)).take 4)):=.inr ⟨b,4*i,4,512-4*i,0,rfl,by rw[bJ,hl4],⟨qE,.inl rfl⟩,.inr ⟨uG,Hm,_,_,_,hb,qE,by rw[BO]⟩⟩;exact tJ lq qE (ub _ qE)
def adY {s:jU}(hs:s.length=512):R 124 [.agg (aj s)] st λv st'=>v=.agg [I (UI s).root,I (UI s).used,I (UI s).head,I (UI s).free]/\Kp [] st st':=by
 refine bP ?_;rw[akV];have aaB:(CV.agg (aj s)).isAny=false:=rfl;rw[bV,aT];refine⟨aaB,?_⟩;have k2:Kp [] st (St.new (St.new st (.cells (aj s) 173 false)) (.cells [.int .i64 0,.int .i64 0,.int .i64 0,.int .i64 0] 155 false)):=((Kp.refl [] st).new _).new _
 have g1:(St.new (St.new st (.cells (aj s) 173 false)) (.cells [.int .i64 0,.int .i64 0,.int .i64 0,.int .i64 0] 155 false)).m.g st.nx=some (.cells (aj s) 173 false):=by
  rw[bg _ _ _ uG];exact ao _ _
 have g2:(St.new (St.new st (.cells (aj s) 173 false)) (.cells [.int .i64 0,.int .i64 0,.int .i64 0,.int .i64 0] 155 false)).m.g (st.nx+1)=some (.cells [.int .i64 0,.int .i64 0,.int .i64 0,.int .i64 0] 155 false):=ao (St.new st (.cells (aj s) 173 false)) _;have n2:(St.new (St.new st (.cells (aj s) 173 false)) (.cells [.int .i64 0,.int .i64 0,.int .i64 0,.int .i64 0] 155 false)).nx=st.nx+2:=rfl;have x1:(St.new st (.cells (aj s) 173 false)).nx=st.nx+1:=rfl;rw[cH,aS,x1];generalize St.new (St.new st (.cells (aj s) 173 false)) (.cells [.int .i64 0,.int .i64 0,.int .i64 0,.int .i64 0] 155 false)=s2 at*;rw[lB,af];have hlt:st.nx<s2.nx:=qE
 rw[dM];refine(Eh (i:=0) g1 hlt hs qE).same ?_;rw[dM];refine(Eh (i:=1) g1 hlt hs qE).same ?_;rw[dM];refine(Eh (i:=2) g1 hlt hs qE).same ?_;rw[dM];refine(Eh (i:=3) g1 hlt hs qE).same ?_
 have nD:∀a b c d:CV,a.cN=[a]->b.cN=[b]->c.cN=[c]->d.cN=[d]->a.isAny=false->b.isAny=false->c.isAny=false->d.isAny=false->bk [.int .i64 0,.int .i64 0,.int .i64 0,.int .i64 0] [(0,1,a),(1,1,b),(2,1,c),(3,1,d)] s2=.ok (.agg [a,b,c,d]) s2:=by
  intro a b c d h1 h2 h3 h4 h5 h6 h7 h8;rw[dV];simp[cR,bD,h1,h2,h3,h4,h5,h6,h7,h8]
 rw[nD _ _ _ _ rfl rfl rfl rfl rfl rfl rfl rfl,af,aJ,g2,aW,aT];refine⟨⟨rfl,rfl,uG⟩,?_⟩;have kP:∀a b c d:CV,bD [.int .i64 0,.int .i64 0,.int .i64 0,.int .i64 0] 0 [a,b,c,d]=[a,b,c,d]:=λa b c d=>rfl;rw[kP,aK (n:=4) (ar s2 (st.nx+1) _) rfl,af];refine⟨?_,k2.set _ (.inr qE) qE⟩;simp[UI]
end
section
variable {st st':St}
def lQ (m:j9):List Nat:=[m.root,m.used,m.head,m.free]
def sL (l:List Nat):List UInt8:=(l.map (be 4)).flatten
def CF (l:List Nat):(sL l).length=l.length*4:=by
 unfold sL;rw[fJ (w:=4) (by intro x hx;obtain⟨n,_,rfl⟩:=aFq.1 hx;exact il 4 n),aFK]
def bR (m:j9):jU:=sL (lQ m)++List.replicate 496 0
def gZ (m:j9):(bR m).length=512:=by
 unfold bR;rw[aEU,CF,aFI];rfl
def El {m:j9}(hb:∀n∈lQ m,n<9223372036854775808):R 87 [.agg [I m.root,I m.used,I m.head,I m.free]] st λv st'=>v=.agg (aj (bR m))/\Kp [] st st':=by
 refine bP ?_;rw[w87];rw[bV,aT];refine⟨rfl,?_⟩;rw[cH,aS,cH,aS];have k3:Kp [] st (St.new (St.new (St.new st (.cells [I m.root,I m.used,I m.head,I m.free] 155 false)) (.cells (zr 512) 173 false)) (.cells (zr 512) 173 false)):=(((Kp.refl [] st).new _).new _).new _;have y1:(St.new st (.cells [I m.root,I m.used,I m.head,I m.free] 155 false)).nx=st.nx+1:=rfl;have y2:(St.new (St.new st (.cells [I m.root,I m.used,I m.head,I m.free] 155 false)) (.cells (zr 512) 173 false)).nx=st.nx+2:=rfl
 have g1:(St.new (St.new (St.new st (.cells [I m.root,I m.used,I m.head,I m.free] 155 false)) (.cells (zr 512) 173 false)) (.cells (zr 512) 173 false)).m.g st.nx=some (.cells [I m.root,I m.used,I m.head,I m.free] 155 false):=by
  rw[bg _ _ _ qE,bg _ _ _ qE];exact ao _ _
 have g2:(St.new (St.new (St.new st (.cells [I m.root,I m.used,I m.head,I m.free] 155 false)) (.cells (zr 512) 173 false)) (.cells (zr 512) 173 false)).m.g (st.nx+1)=some (.cells (zr 512) 173 false):=by
  rw[bg _ _ _ qE];exact ao (St.new st (.cells [I m.root,I m.used,I m.head,I m.free] 155 false)) _
 have g3:(St.new (St.new (St.new st (.cells [I m.root,I m.used,I m.head,I m.free] 155 false)) (.cells (zr 512) 173 false)) (.cells (zr 512) 173 false)).m.g (st.nx+2)=some (.cells (zr 512) 173 false):=
  ao (St.new (St.new st (.cells [I m.root,I m.used,I m.head,I m.free] 155 false)) (.cells (zr 512) 173 false)) _
 have n3:(St.new (St.new (St.new st (.cells [I m.root,I m.used,I m.head,I m.free] 155 false)) (.cells (zr 512) 173 false)) (.cells (zr 512) 173 false)).nx=st.nx+3:=rfl;rw[y1,y2];generalize St.new (St.new (St.new st (.cells [I m.root,I m.used,I m.head,I m.free] 155 false)) (.cells (zr 512) 173 false)) (.cells (zr 512) 173 false)=s3 at*;have Oz:bM 3 4 (cM 4 [(.int .i64 0)]) [(0,1,I m.root),(1,1,I m.used),(2,1,I m.head),(3,1,I m.free)] s3=.ok (.slice s3.nx 0 4 4 0) (St.new s3 (.cells [I m.root,I m.used,I m.head,I m.free] 3 false)):=rfl;simp only[cV,fl,ah,af,aB,g1,aq,aER,aEN,aEL,ay,Oz,aS,nY,aL,aM];have k4:Kp [] st (St.new s3 (.cells [I m.root,I m.used,I m.head,I m.free] 3 false)):=k3.new _;have h2:(St.new s3 (.cells [I m.root,I m.used,I m.head,I m.free] 3 false)).m.g (st.nx+1)=some (.cells (zr 512) 173 false):=by rw[bg _ _ _ qE];exact g2
 have h3:(St.new s3 (.cells [I m.root,I m.used,I m.head,I m.free] 3 false)).m.g (st.nx+2)=some (.cells (aj (List.replicate 512 0)) 173 false):=by rw[bg _ _ _ qE,<-nO];exact g3
 have h4:(St.new s3 (.cells [I m.root,I m.used,I m.head,I m.free] 3 false)).m.g s3.nx=some (.cells [I m.root,I m.used,I m.head,I m.free] 3 false):=ao _ _;have n4:(St.new s3 (.cells [I m.root,I m.used,I m.head,I m.free] 3 false)).nx=st.nx+4:=by rw[wB,n3]
 rw[n3]at h4⊢
 refine bN (λfu vs s=>∃i,fu+i=4/\vs=[.ptr (st.nx+1) 0,.ptr (st.nx+2) 0,.slice (st.nx+3) 0 4 4 0,.int .i64 4,I i]/\Kp [] st s/\s.nx=st.nx+4/\s.m.g (st.nx+1)=some (.cells (zr 512) 173 false)/\
  s.m.g (st.nx+2)=some (.cells (aj (sL ((lQ m).take i)++List.replicate (512-4*i) 0)) 173 false)/\s.m.g (st.nx+3)=some (.cells [I m.root,I m.used,I m.head,I m.free] 3 false)) ?_ (n:=4) ⟨0,rfl,rfl,k4,n4,h2,h3,h4⟩
 rintro fu vs s k ⟨i,hi,rfl,hk,hn,q1,q2,q3⟩ next;simp only[aL,aM]
 by_cases hc:i<4
 .have hL:(lQ m).length=4:=rfl
  have hg:∀h,([I m.root,I m.used,I m.head,I m.free]:List CV)[i]'h=I ((lQ m)[i]' qE):=by
   intro h
   match i,hc with
   |0,_=>rfl
   |1,_=>rfl
   |2,_=>rfl
   |3,_=>rfl
  have a1:ai .lss none false (I i) (.int .i64 4) s=.ok (.bool true) s:=by rw[az,c8,aEV qE]
  have a2:ai .mul none true (.int .i64 4) (I i) s=.ok (I ((4*i:Nat):Int)) s:=O3
  have a3:ai .add none true (I ((4*i:Nat):Int)) (.int .i64 4) s=.ok (I ((4*i+4:Nat):Int)) s:=xt
  have a4:=qQ (n:=512) (b:=st.nx+2) (l:=4*i) (h:=4*i+4) qE qE qE s;rw[aGQ]at a4;have lq:Sl s [] (.slice (st.nx+3) 0 4 4 0) 1 [I m.root,I m.used,I m.head,I m.free]:=.inr ⟨st.nx+3,0,4,4,0,rfl,rfl,⟨aEQ _,.inl rfl⟩,.inr ⟨uG,qE,_,_,_,q3,uG,rfl⟩⟩;rw[a1,af,ag,aEW rfl];refine lq.idx (i:=i) Dx _ ?_;rw[hg,a2,af,af,a3,af,a4,af];have hP:(sL ((lQ m).take i)).length=4*i:=by rw[CF,aFc,hL];omega
  refine(Jl (n:=(lQ m)[i]) (len:=4) (off:=4*i) (cap:=512-4*i) q2 qE (by simp[hP];omega) qE (hb _ (aFj ..))).mono ?_;rintro _ s6 ⟨k6,n6,g6⟩;have a5:ai .add none true (I i) (.int .i64 1) s6=.ok (I ((i+1:Nat):Int)) s6:=xt
  rw[a5,af];refine next (fu-1) _ _ qE ⟨i+1,qE,rfl,hk.trans k6 uG,qE,(k6.keep _ qE uG).trans q1,?_,(k6.keep _ qE uG).trans q3⟩;rw[g6]
  congr 2
  have e:=qa (aj (sL ((lQ m).take i))) (aj (List.replicate (512-4*i) 0)) (aj (be 4 (lQ m)[i]));rw[bJ,hP]at e;rw[bL,e]
  have e2:(aj (List.replicate (512-4*i) 0)).drop (aj (be 4 (lQ m)[i])).length=aj (List.replicate (512-4*(i+1)) 0):=by
   unfold aj;rw[<-aGl,aGW,aFK,il];congr 2
  have e3:sL ((lQ m).take (i+1))=sL ((lQ m).take i)++be 4 (lQ m)[i]:=by
   rw[aFe qE];unfold sL;rw[aFR,aGJ];simp only[aFv,List.map_nil,aGq,List.flatten_nil,aFN]
   try rfl
  rw[e2,e3,bL,bL,aFx]
 .have h4i:i=4:=by omega
  subst h4i;have a1:ai .lss none false (I ((4:Nat):Int)) (.int .i64 4) s=.ok (.bool false) s:=rfl;have oI:aj (sL ((lQ m).take 4)++List.replicate (512-4*4) 0)=aj (bR m):=rfl;rw[oI]at q2;have hl:(aj (bR m)).length=512:=by simpa using gZ m
  rw[a1,af,ag,aET u7,aK q2 hl,af,aJ,q1,aW,aT,KU _ (gZ m)];refine⟨⟨hl,bI _,by rw[qC];exact aEQ _⟩,?_⟩;rw[aK (n:=512) (ar s (st.nx+1) _) hl,af];exact⟨rfl,hk.set _ (.inr qE) qE⟩
end
section
variable {st st':St}
def Sf {X Y:List Nat}{v w:CV}{a b:List UInt8}(h1:Sl st X v 1 (aj a))(h2:Sl st Y w 1 (aj b)):R 85 [v,w] st λx st'=>x=.bool (a==b)/\st'=st:=by
 refine bP ?_;rw[w85];have e:ai .eql (some .str) false (.str a) (.str b) st=sF .eql a b st:=rfl;rw[h1.str,af,h2.str,af,e];simp[sF]
end
section
variable {st st':St}
def jv (l:List UInt8):List UInt8:=(l.reverse.dropWhile (λb=>b==0)).reverse
def IV (l:List UInt8):jv (l++[0])=jv l:=by simp[jv]
def Pj (l:List UInt8)(b:UInt8)(h:b≠0):jv (l++[b])=l++[b]:=by simp[jv,h]
def Pk {F:List Nat}{v:CV}{l:List UInt8}(h:lr st F v 1 (aj l))(hl:l.length<=1000000):R 167 [v,.int .u8 0] st λx st'=>lr st F x 1 (aj (jv l))/\st'=st:=by
 refine bP ?_;rw[akl];show cZ _ _ _;simp only[aL,aM];refine bN (λk vs s=>∃x,vs=[x,.int .u8 0]/\k<=l.length/\lr st F x 1 (aj (l.take k))/\jv (l.take k)=jv l/\s=st) ?_ (n:=l.length) ⟨v,rfl,aEQ _,by rw[List.take_length];exact h,by rw[List.take_length],rfl⟩;rintro k vs s K ⟨x,rfl,hk,hx,ht,rfl⟩ next;have hlen:=hx.nil.len k vR qE s;simp only[aL,aM,hlen,af]
 by_cases h0:k=0
 .subst h0;have e1:ai .gtr none true (I ((0:Nat):Int)) (.int .i64 0) s=.ok (.bool false) s:=rfl;simp only[e1,af,aG,aFm,bS,AD,aF,aEM,aFa,ag];rw[<-ht];exact⟨by simpa[jv]using hx,aer⟩
 .have e1:ai .gtr none true (I k) (.int .i64 0) s=.ok (.bool true) s:=by rw[az,dx,aEV qE]
  have e2:ai .sub none true (I k) (.int .i64 1) s=.ok (I ((k-1:Nat):Int)) s:=Bw
  have AM:k-1<l.length:=qE
  have hlt:k-1<(aj (l.take k)).length:=by rw[bJ,aFc];omega
  have AF:l.take k=l.take (k-1)++[l[k-1]'AM]:=by
   conv=>lhs;rw[show k=(k-1)+1 from qE]
   rw[aFe]
  simp only[e1,af,aG,aFm,bh,AD,hlen,e2];have hg:(aj (l.take k))[k-1]'hlt=bQ (l[k-1]'AM):=abK
  have key:=λQ (hq:Q (bQ (l[k-1]'AM)))=>hx.nil.idx (i:=k-1) hlt Q (by rw[hg];exact hq);unfold Lim.idx at key;refine key _ ?_
  have e3:ai .eql (some .int) false (bQ (l[k-1]'AM)) (.int .u8 0) s=.ok (.bool (decide (l[k-1]'AM=0))) s:=by
   unfold bQ;rw[az,cI];congr 2;simp only[aFo];constructor
   .intro e;apply UInt8.toNat_inj.1;simp;omega
   .intro e;rw[e];rfl
  simp only[e3,af,aF,aFm,ag]
  by_cases hz:l[k-1]'AM=0
  .obtain⟨x2,c1,c2⟩:=hx.hi (n:=k) qE vR (l:=k-1) qE s;simp only[hz,aFZ,aFm,c1,af];refine next (k-1) _ _ qE ⟨x2,rfl,qE,?_,?_,rfl⟩
   .have e:List.take ((k-1)*1) (aj (l.take k))=aj (l.take (k-1)):=by
     unfold aj;rw[aGB,<-aGx,aGf,aFG qE]
    rw[<-e];exact c2
   .rw[<-ht,AF,hz,IV]
  .simp only[hz,aGv,aEM,aFa];rw[<-ht,AF,Pj _ _ hz,<-AF];exact⟨hx,aer⟩
end
section
variable {st st':St}
def Uc {F:List Nat}{v:CV}{l:List UInt8}(h:lr st F v 1 (aj l))(hl:l.length<=1000000)(h0:0<l.length):R 130 [v,.str [0]] st λx st'=>lr st F x 1 (aj (jv l))/\st'=st:=by
 refine bP ?_;rw[akP];have hlen:=h.nil.len l.length uG qE st;have e1:ai .eql (some .int) true (I l.length) (.int .i64 0) st=.ok (.bool false) st:=Ft
 have e2:ai .eql (some .str) true (.str [0]) (.str []) st=.ok (.bool false) st:=rfl;have e3:bo .str (.str [0]) st=.ok (.int .i64 1) st:=rfl;have e4:ai .eql (some .int) true (.int .i64 1) (.int .i64 1) st=.ok (.bool true) st:=rfl;have e5:ph (.str [0]) (.int .i64 0) st=.ok (.int .u8 0) st:=rfl;have e6:ai .lss none true (.int .u8 0) (.int .u8 128) st=.ok (.bool true) st:=rfl;simp only[hlen,af,e1,aG,aEM,aFa,aFf,bh,e2,aF,ag,e3,e4,aFm,e5,e6];exact Pk h hl
end
