import Derived.Test.YtomffjeofpafnaaGreatDoorPagA
namespace Lim
open Go
noncomputable section
set_option maxRecDepth 100000
section
variable {st st':St} {p a:Nat} {lg:CV} {M:bS} {bd bn bi bc:Nat} {F:List Nat} {D:aT}
def fS:jB:=⟨0,0,0,0⟩
def eg (n:Nat):bS:=⟨1+n/4,n-1-n/4,[],[],fS,fS,[],[]⟩
theorem IN (hd:du st a F D)(hn:4<=D.ay.length):R 68 [.ptr a 0] st fun v st'=>Kp [] st st'/\∃p bd bn bi bc,v= .ptr p 0/\cA st' p a .bq (eg D.ay.length) bd bn bi bc/\∀b∈[p,bd,bn,bi,bc],st.next<=b:=by
 refine bN ?_;rw[w68];refine(oQ hd).same ?_;have hsz:=(show D.ay.length<=65536 from by obtain⟨_,_,_,_,_,_,_,h⟩:=hd;exact h.size);generalize hN:D.ay.length=N at*;have e1:aj .add none true (.int .i64 1) (I ((N/4:Nat):Int)) st= .ok (I ((1+N/4:Nat):Int)) st:=by rw[aw,cE,bz (by omega)];congr 2
 rw[e1,af];refine(tX hd).same ?_;rw[hN];have e2:aj .sub none true (I N) (.int .i64 1) st= .ok (I ((N-1:Nat):Int)) st:=by rw[aw,dW,bz (by omega)];congr 2;omega
 have e3:aj .sub none false (I ((N-1:Nat):Int)) (I ((N/4:Nat):Int)) st= .ok (I ((N-1-N/4:Nat):Int)) st:=by rw[aw,dW,bz (by omega)];congr 2;omega
 simp only[e2,e3,af,ja,aS]
 have mC:∀s:St,bD [.bq, .bq, .int .i64 0, .int .i64 0, .fM, .fM, .int .i64 0, .int .i64 0, .int .i64 0, .int .i64 0, .int .i64 0, .int .i64 0, .int .i64 0, .int .i64 0, .fM, .fM] [(0,1, .ptr a 0),(2,1,I ((1+N/4:Nat):Int)),(3,1,I ((N-1-N/4:Nat):Int)),(4,1, .map st.next),(5,1, .map (st.next+1)),(14,1, .map (st.next+2)),(15,1, .map (st.next+3))] s= .ok (.agg [.ptr a 0, .bq,I ((1+N/4:Nat):Int),I ((N-1-N/4:Nat):Int), .map st.next, .map (st.next+1), .int .i64 0, .int .i64 0, .int .i64 0, .int .i64 0, .int .i64 0, .int .i64 0, .int .i64 0, .int .i64 0, .map (st.next+2), .map (st.next+3)]) s:=by
  intro s;rw[dN];have:fX [(0,1,CV.ptr a 0),(2,1,I ((1+N/4:Nat):Int)),(3,1,I ((N-1-N/4:Nat):Int)),(4,1, .map st.next),(5,1, .map (st.next+1)),(14,1, .map (st.next+2)),(15,1, .map (st.next+3))] [.bq, .bq, .int .i64 0, .int .i64 0, .fM, .fM, .int .i64 0, .int .i64 0, .int .i64 0, .int .i64 0, .int .i64 0, .int .i64 0, .int .i64 0, .int .i64 0, .fM, .fM]=some [.ptr a 0, .bq,I ((1+N/4:Nat):Int),I ((N-1-N/4:Nat):Int), .map st.next, .map (st.next+1), .int .i64 0, .int .i64 0, .int .i64 0, .int .i64 0, .int .i64 0, .int .i64 0, .int .i64 0, .int .i64 0, .map (st.next+2), .map (st.next+3)]:=rfl;rw[this]
 have x1:(St.new st (.map [] 0)).next=st.next+1:=rfl;have x2:(St.new (St.new st (.map [] 0)) (.map [] 0)).next=st.next+2:=rfl;have x3:(St.new (St.new (St.new st (.map [] 0)) (.map [] 0)) (.map [] 0)).next=st.next+3:=rfl;rw[x1,x2,x3,mC,af,cn];have k4:Kp [] st (St.new (St.new (St.new (St.new st (.map [] 0)) (.map [] 0)) (.map [] 0)) (.map [] 0)):=((((Kp.refl [] st).new _).new _).new _).new _;refine⟨rfl,k4.new _,st.next+4,st.next,st.next+1,st.next+2,st.next+3,rfl,⟨au (St.new (St.new (St.new (St.new st (.map [] 0)) (.map [] 0)) (.map [] 0)) (.map [] 0)) _, .inl ((da.new st).mono ?_),(da.new (St.new st (.map [] 0))).mono ?_,(da.new (St.new (St.new st (.map [] 0)) (.map [] 0))).mono ?_,(da.new (St.new (St.new (St.new st (.map [] 0)) (.map [] 0)) (.map [] 0))).mono ?_,by simp,(by intro b hb;simp at hb;simp;omega),⟨rfl,rfl,rfl⟩⟩,(by intro b hb;simp at hb;omega)⟩
 ·rw[aZ _ _ _ (by first|(simp;done)|(simp;omega)),aZ _ _ _ (by first|(simp;done)|(simp;omega)),aZ _ _ _ (by first|(simp;done)|(simp;omega)),aZ _ _ _ (by simp)]
 ·show(St.new _ _).mem.get (st.next+1)=_;rw[aZ _ _ _ (by first|(simp;done)|(simp;omega)),aZ _ _ _ (by first|(simp;done)|(simp;omega)),aZ _ _ _ (by simp)];rfl
 ·show(St.new _ _).mem.get (st.next+2)=_;rw[aZ _ _ _ (by first|(simp;done)|(simp;omega)),aZ _ _ _ (by simp)];rfl
 ·show(St.new _ _).mem.get (st.next+3)=_;rw[aZ _ _ _ (by simp)];rfl
end
section
variable {st st':St}
def QQ (s:jl):jB:=⟨nb (s.take 4),nb ((s.drop 4).take 4),nb ((s.drop 8).take 4),nb ((s.drop 12).take 4)⟩
theorem Ct {b i:Nat}{s:jl}{t:TypeId}{g:Bool}(hb:st.mem.get b=some (.cells (ai s) t g))(Dy:b<st.next)(hs:s.length=512)(hi:i<4):R 164 [I i, .ptr b 0] st fun v st'=>v=I (nb ((s.drop (4*i)).take 4))/\st'=st:=by
 refine bN ?_;rw[agN];have e1:aj .mul none true (.int .i64 4) (I i) st= .ok (I ((4*i:Nat):Int)) st:=by rw[aw,jR,bz (by omega)];rfl
 have e2:aj .add none true (I ((4*i:Nat):Int)) (.int .i64 4) st= .ok (I ((4*i+4:Nat):Int)) st:=by rw[aw,cE,bz (by omega)];rfl
 have e3:=pP (n:=512) (b:=b) (l:=4*i) (h:=4*i+4) (by omega) (by omega) (by omega) st;rw[aCE]at e3;simp only[e1,e2,af,e3];have hl:(ai s).length=512:=by simpa using hs
 have yO:ai ((s.drop (4*i)).take 4)=((ai s).drop (4*i)).take 4:=by simp[ai]
 have hl4:((s.drop (4*i)).take 4).length=4:=by rw[aAN,aAX];omega
 have kL:Sl st [] (.slice b (4*i) 4 (512-4*i) 0) 1 (ai ((s.drop (4*i)).take 4)):= .inr ⟨b,4*i,4,512-4*i,0,rfl,by rw[bJ,hl4],⟨by omega, .inl rfl⟩, .inr ⟨by simp,Dy,_,_,_,hb,by omega,by rw[yO]⟩⟩;exact rZ kL (by omega) (sL _ (by omega))
theorem aaj {s:jl}(hs:s.length=512):R 124 [.agg (ai s)] st fun v st'=>v= .agg [I (QQ s).root,I (QQ s).used,I (QQ s).head,I (QQ s).free]/\Kp [] st st':=by
 refine bN ?_;rw[ahr];have Xz:(CV.agg (ai s)).isAny=false:=rfl;rw[cn,aX];refine⟨Xz, ?_⟩;have k2:Kp [] st (St.new (St.new st (.cells (ai s) 173 false)) (.cells [.int .i64 0, .int .i64 0, .int .i64 0, .int .i64 0] 155 false)):=((Kp.refl [] st).new _).new _
 have g1:(St.new (St.new st (.cells (ai s) 173 false)) (.cells [.int .i64 0, .int .i64 0, .int .i64 0, .int .i64 0] 155 false)).mem.get st.next=some (.cells (ai s) 173 false):=by
  rw[aZ _ _ _ (by simp)];exact au _ _
 have g2:(St.new (St.new st (.cells (ai s) 173 false)) (.cells [.int .i64 0, .int .i64 0, .int .i64 0, .int .i64 0] 155 false)).mem.get (st.next+1)=some (.cells [.int .i64 0, .int .i64 0, .int .i64 0, .int .i64 0] 155 false):=au (St.new st (.cells (ai s) 173 false)) _;have n2:(St.new (St.new st (.cells (ai s) 173 false)) (.cells [.int .i64 0, .int .i64 0, .int .i64 0, .int .i64 0] 155 false)).next=st.next+2:=rfl;have x1:(St.new st (.cells (ai s) 173 false)).next=st.next+1:=rfl;rw[cG,aS,x1];generalize St.new (St.new st (.cells (ai s) 173 false)) (.cells [.int .i64 0, .int .i64 0, .int .i64 0, .int .i64 0] 155 false)=s2 at*;rw[l6,af];have hlt:st.next<s2.next:=by omega
 rw[dP];refine(Ct (i:=0) g1 hlt hs (by omega)).same ?_;rw[dP];refine(Ct (i:=1) g1 hlt hs (by omega)).same ?_;rw[dP];refine(Ct (i:=2) g1 hlt hs (by omega)).same ?_;rw[dP];refine(Ct (i:=3) g1 hlt hs (by omega)).same ?_
 have mC:∀a b c d:CV,a.cD=[a]->b.cD=[b]->c.cD=[c]->d.cD=[d]->a.isAny=false->b.isAny=false->c.isAny=false->d.isAny=false->bD [.int .i64 0, .int .i64 0, .int .i64 0, .int .i64 0] [(0,1,a),(1,1,b),(2,1,c),(3,1,d)] s2= .ok (.agg [a,b,c,d]) s2:=by
  intro a b c d h1 h2 h3 h4 h5 h6 h7 h8;rw[dN];simp[cF,bp,h1,h2,h3,h4,h5,h6,h7,h8]
 rw[mC _ _ _ _ rfl rfl rfl rfl rfl rfl rfl rfl,af,aF,g2,aR,aX];refine⟨⟨rfl,rfl,by simp⟩, ?_⟩;have jZ:∀a b c d:CV,bp [.int .i64 0, .int .i64 0, .int .i64 0, .int .i64 0] 0 [a,b,c,d]=[a,b,c,d]:=fun a b c d=>rfl;rw[jZ,aQ (n:=4) (ao s2 (st.next+1) _) rfl,af];refine⟨?_,k2.set _ (.inr (by omega)) (by omega)⟩;simp[QQ]
end
section
variable {st st':St}
def lq (m:jB):List Nat:=[m.root,m.used,m.head,m.free]
def ri (l:List Nat):List UInt8:=(l.map (be 4)).flatten
theorem A2 (l:List Nat):(ri l).length=l.length*4:=by
 unfold ri;rw[fw (w:=4) (by intro x hx;obtain⟨n,_,rfl⟩:=aBd.1 hx;exact gU 4 n),aBJ]
def bI (m:jB):jl:=ri (lq m)++List.replicate 496 0
theorem gK (m:jB):(bI m).length=512:=by
 unfold bI;rw[aAG,A2,aBt];rfl
theorem Cx {m:jB}(hb:∀n∈lq m,n<9223372036854775808):R 87 [.agg [I m.root,I m.used,I m.head,I m.free]] st fun v st'=>v= .agg (ai (bI m))/\Kp [] st st':=by
 refine bN ?_;rw[w87];rw[cn,aX];refine⟨rfl, ?_⟩;rw[cG,aS,cG,aS];have k3:Kp [] st (St.new (St.new (St.new st (.cells [I m.root,I m.used,I m.head,I m.free] 155 false)) (.cells (zr 512) 173 false)) (.cells (zr 512) 173 false)):=(((Kp.refl [] st).new _).new _).new _;have y1:(St.new st (.cells [I m.root,I m.used,I m.head,I m.free] 155 false)).next=st.next+1:=rfl;have y2:(St.new (St.new st (.cells [I m.root,I m.used,I m.head,I m.free] 155 false)) (.cells (zr 512) 173 false)).next=st.next+2:=rfl
 have g1:(St.new (St.new (St.new st (.cells [I m.root,I m.used,I m.head,I m.free] 155 false)) (.cells (zr 512) 173 false)) (.cells (zr 512) 173 false)).mem.get st.next=some (.cells [I m.root,I m.used,I m.head,I m.free] 155 false):=by
  rw[aZ _ _ _ (by omega),aZ _ _ _ (by omega)];exact au _ _
 have g2:(St.new (St.new (St.new st (.cells [I m.root,I m.used,I m.head,I m.free] 155 false)) (.cells (zr 512) 173 false)) (.cells (zr 512) 173 false)).mem.get (st.next+1)=some (.cells (zr 512) 173 false):=by
  rw[aZ _ _ _ (by omega)];exact au (St.new st (.cells [I m.root,I m.used,I m.head,I m.free] 155 false)) _
 have g3:(St.new (St.new (St.new st (.cells [I m.root,I m.used,I m.head,I m.free] 155 false)) (.cells (zr 512) 173 false)) (.cells (zr 512) 173 false)).mem.get (st.next+2)=some (.cells (zr 512) 173 false):=
  au (St.new (St.new st (.cells [I m.root,I m.used,I m.head,I m.free] 155 false)) (.cells (zr 512) 173 false)) _
 have n3:(St.new (St.new (St.new st (.cells [I m.root,I m.used,I m.head,I m.free] 155 false)) (.cells (zr 512) 173 false)) (.cells (zr 512) 173 false)).next=st.next+3:=rfl;rw[y1,y2];generalize St.new (St.new (St.new st (.cells [I m.root,I m.used,I m.head,I m.free] 155 false)) (.cells (zr 512) 173 false)) (.cells (zr 512) 173 false)=s3 at*;have LK:bQ 3 4 (cH 4 [(.int .i64 0)]) [(0,1,I m.root),(1,1,I m.used),(2,1,I m.head),(3,1,I m.free)] s3= .ok (.slice s3.next 0 4 4 0) (St.new s3 (.cells [I m.root,I m.used,I m.head,I m.free] 3 false)):=rfl;simp only[cN,fl,ah,af,aA,g1,aq,aAF,aAA,aAy,av,LK,aS,ns,aJ,aK];have k4:Kp [] st (St.new s3 (.cells [I m.root,I m.used,I m.head,I m.free] 3 false)):=k3.new _;have h2:(St.new s3 (.cells [I m.root,I m.used,I m.head,I m.free] 3 false)).mem.get (st.next+1)=some (.cells (zr 512) 173 false):=by rw[aZ _ _ _ (by omega)];exact g2
 have h3:(St.new s3 (.cells [I m.root,I m.used,I m.head,I m.free] 3 false)).mem.get (st.next+2)=some (.cells (ai (List.replicate 512 0)) 173 false):=by rw[aZ _ _ _ (by omega),<-ng];exact g3
 have h4:(St.new s3 (.cells [I m.root,I m.used,I m.head,I m.free] 3 false)).mem.get s3.next=some (.cells [I m.root,I m.used,I m.head,I m.free] 3 false):=au _ _;have n4:(St.new s3 (.cells [I m.root,I m.used,I m.head,I m.free] 3 false)).next=st.next+4:=by rw[u7,n3]
 rw[n3]at h4⊢
 refine bK (fun fu vs s=>∃i,fu+i=4/\vs=[.ptr (st.next+1) 0, .ptr (st.next+2) 0, .slice (st.next+3) 0 4 4 0, .int .i64 4,I i]/\Kp [] st s/\s.next=st.next+4/\s.mem.get (st.next+1)=some (.cells (zr 512) 173 false)/\
  s.mem.get (st.next+2)=some (.cells (ai (ri ((lq m).take i)++List.replicate (512-4*i) 0)) 173 false)/\s.mem.get (st.next+3)=some (.cells [I m.root,I m.used,I m.head,I m.free] 3 false)) ?_ (n:=4) ⟨0,rfl,rfl,k4,n4,h2,h3,h4⟩
 rintro fu vs s k ⟨i,hi,rfl,hk,hn,q1,q2,q3⟩ next;simp only[aJ,aK]
 by_cases hc:i<4
 ·have hL:(lq m).length=4:=rfl
  have hg:∀h,([I m.root,I m.used,I m.head,I m.free]:List CV)[i]'h=I ((lq m)[i]'(by omega)):=by
   intro h
   match i,hc with
   |0,_=>rfl
   |1,_=>rfl
   |2,_=>rfl
   |3,_=>rfl
  have a1:aj .lss none false (I i) (.int .i64 4) s= .ok (.bool true) s:=by rw[aw,cP,aAJ (by omega)]
  have a2:aj .mul none true (.int .i64 4) (I i) s= .ok (I ((4*i:Nat):Int)) s:=by rw[aw,jR,bz (by omega)];rfl
  have a3:aj .add none true (I ((4*i:Nat):Int)) (.int .i64 4) s= .ok (I ((4*i+4:Nat):Int)) s:=by rw[aw,cE,bz (by omega)];rfl
  have a4:=pP (n:=512) (b:=st.next+2) (l:=4*i) (h:=4*i+4) (by omega) (by omega) (by omega) s;rw[aCE]at a4;have kL:Sl s [] (.slice (st.next+3) 0 4 4 0) 1 [I m.root,I m.used,I m.head,I m.free]:= .inr ⟨st.next+3,0,4,4,0,rfl,rfl,⟨aAE _, .inl rfl⟩, .inr ⟨by simp,by omega,_,_,_,q3,by simp,rfl⟩⟩;rw[a1,af,ag,aAI rfl];refine kL.idx (i:=i) (by simpa using hc) _ ?_;rw[hg,a2,af,af,a3,af,a4,af];have hP:(ri ((lq m).take i)).length=4*i:=by rw[A2,aAN,hL];omega
  refine(G9 (n:=(lq m)[i]) (len:=4) (off:=4*i) (cap:=512-4*i) q2 (by omega) (by simp[hP];omega) (by omega) (hb _ (aAW ..))).mono ?_;rintro _ s6 ⟨k6,n6,g6⟩;have a5:aj .add none true (I i) (.int .i64 1) s6= .ok (I ((i+1:Nat):Int)) s6:=by rw[aw,cE,bz (by omega)];rfl
  rw[a5,af];refine next (fu-1) _ _ (by omega) ⟨i+1,by omega,rfl,hk.trans k6 (by simp),by omega,(k6.keep _ (by omega) (by simp)).trans q1, ?_,(k6.keep _ (by omega) (by simp)).trans q3⟩;rw[g6]
  congr 2
  have e:=oU (ai (ri ((lq m).take i))) (ai (List.replicate (512-4*i) 0)) (ai (be 4 (lq m)[i]));rw[bJ,hP]at e;rw[bE,e]
  have e2:(ai (List.replicate (512-4*i) 0)).drop (ai (be 4 (lq m)[i])).length=ai (List.replicate (512-4*(i+1)) 0):=by
   unfold ai;rw[<-aBZ,aCJ,aBJ,gU];congr 2
  have e3:ri ((lq m).take (i+1))=ri ((lq m).take i)++be 4 (lq m)[i]:=by
   rw[aAR (by omega)];unfold ri;rw[aBP,aCZ];simp only[aBh,List.map_nil,aBU,List.flatten_nil,aBz]
   try rfl
  rw[e2,e3,bE,bE,aBn]
 ·have h4i:i=4:=by omega
  subst h4i;have a1:aj .lss none false (I ((4:Nat):Int)) (.int .i64 4) s= .ok (.bool false) s:=rfl;have qz:ai (ri ((lq m).take 4)++List.replicate (512-4*4) 0)=ai (bI m):=rfl;rw[qz]at q2;have hl:(ai (bI m)).length=512:=by simpa using gK m
  rw[a1,af,ag,aAH (by decide),aQ q2 hl,af,aF,q1,aR,aX,IK _ (gK m)];refine⟨⟨hl,bB _,by rw[pA];exact aAE _⟩, ?_⟩;rw[aQ (n:=512) (ao s (st.next+1) _) hl,af];exact⟨rfl,hk.set _ (.inr (by omega)) (by omega)⟩
end
section
variable {st st':St}
theorem OH {X Y:List Nat}{v w:CV}{a b:List UInt8}(h1:Sl st X v 1 (ai a))(h2:Sl st Y w 1 (ai b)):R 85 [v,w] st fun x st'=>x= .bool (a==b)/\st'=st:=by
 refine bN ?_;rw[w85];have e:aj .eql (some .str) false (.str a) (.str b) st=qY .eql a b st:=rfl;rw[h1.str,af,h2.str,af,e];simp[qY]
end
section
variable {st st':St}
def iO (l:List UInt8):List UInt8:=(l.reverse.dropWhile (fun b=>b==0)).reverse
theorem GD (l:List UInt8):iO (l++[0])=iO l:=by simp[iO]
theorem L6 (l:List UInt8)(b:UInt8)(h:b≠0):iO (l++[b])=l++[b]:=by simp[iO,h]
theorem L7 {F:List Nat}{v:CV}{l:List UInt8}(h:kK st F v 1 (ai l))(hl:l.length<=1000000):R 167 [v, .int .u8 0] st fun x st'=>kK st F x 1 (ai (iO l))/\st'=st:=by
 refine bN ?_;rw[agL];show c8 _ _ _;simp only[aJ,aK];refine bK (fun k vs s=>∃x,vs=[x, .int .u8 0]/\k<=l.length/\kK st F x 1 (ai (l.take k))/\iO (l.take k)=iO l/\s=st) ?_ (n:=l.length) ⟨v,rfl,aAE _,by rw[List.take_length];exact h,by rw[List.take_length],rfl⟩;rintro k vs s K ⟨x,rfl,hk,hx,ht,rfl⟩ next;have hlen:=hx.nil.len k (by simp;omega) (by omega) s;simp only[aJ,aK,hlen,af]
 by_cases h0:k=0
 ·subst h0;have e1:aj .gtr none true (I ((0:Nat):Int)) (.int .i64 0) s= .ok (.bool false) s:=rfl;simp only[e1,af,aH,aAY,cB,yN,aG,aAz,aAO,ag];rw[<-ht];exact⟨by simpa[iO]using hx,trivial⟩
 ·have e1:aj .gtr none true (I k) (.int .i64 0) s= .ok (.bool true) s:=by rw[aw,dq,aAJ (by omega)]
  have e2:aj .sub none true (I k) (.int .i64 1) s= .ok (I ((k-1:Nat):Int)) s:=by rw[aw,dW,bz (by omega)];congr 2;omega
  have Gp:k-1<l.length:=by omega
  have hlt:k-1<(ai (l.take k)).length:=by rw[bJ,aAN];omega
  have yP:l.take k=l.take (k-1)++[l[k-1]'Gp]:=by
   conv=>lhs;rw[show k=(k-1)+1 by omega]
   rw[aAR]
  simp only[e1,af,aH,aAY,bo,yN,hlen,e2];have hg:(ai (l.take k))[k-1]'hlt=bO (l[k-1]'Gp):=by simp[ai]
  have key:=fun Q (hq:Q (bO (l[k-1]'Gp)))=>hx.nil.idx (i:=k-1) hlt Q (by rw[hg];exact hq);unfold Lim.idx at key;refine key _ ?_
  have e3:aj .eql (some .int) false (bO (l[k-1]'Gp)) (.int .u8 0) s= .ok (.bool (decide (l[k-1]'Gp=0))) s:=by
   unfold bO;rw[aw,cz];congr 2;simp only[aBc];constructor
   ·intro e;apply UInt8.toNat_inj.1;simp;omega
   ·intro e;rw[e];rfl
  simp only[e3,af,aG,aAY,ag]
  by_cases hz:l[k-1]'Gp=0
  ·obtain⟨x2,c1,c2⟩:=hx.hi (n:=k) (by omega) (by simp;omega) (l:=k-1) (by omega) s;simp only[hz,aBA,aAY,c1,af];refine next (k-1) _ _ (by omega) ⟨x2,rfl,by omega, ?_, ?_,rfl⟩
   ·have e:List.take ((k-1)*1) (ai (l.take k))=ai (l.take (k-1)):=by
     unfold ai;rw[aCo,<-aCk,aBN,aBq (by omega)]
    rw[<-e];exact c2
   ·rw[<-ht,yP,hz,GD]
  ·simp only[hz,aCi,aAz,aAO];rw[<-ht,yP,L6 _ _ hz,<-yP];exact⟨hx,trivial⟩
end
section
variable {st st':St}
theorem Qm {F:List Nat}{v:CV}{l:List UInt8}(h:kK st F v 1 (ai l))(hl:l.length<=1000000)(h0:0<l.length):R 130 [v, .str [0]] st fun x st'=>kK st F x 1 (ai (iO l))/\st'=st:=by
 refine bN ?_;rw[aho];have hlen:=h.nil.len l.length (by simp) (by omega) st;have e1:aj .eql (some .int) true (I l.length) (.int .i64 0) st= .ok (.bool false) st:=by rw[aw,cz,aAB (by omega)]
 have e2:aj .eql (some .str) true (.str [0]) (.str []) st= .ok (.bool false) st:=rfl;have e3:bh .str (.str [0]) st= .ok (.int .i64 1) st:=rfl;have e4:aj .eql (some .int) true (.int .i64 1) (.int .i64 1) st= .ok (.bool true) st:=rfl;have e5:oe (.str [0]) (.int .i64 0) st= .ok (.int .u8 0) st:=rfl;have e6:aj .lss none true (.int .u8 0) (.int .u8 128) st= .ok (.bool true) st:=rfl;simp only[hlen,af,e1,aH,aAz,aAO,aAT,bo,e2,aG,ag,e3,e4,aAY,e5,e6];exact L7 h hl
end
