import Derived.Test.YtomffjeofpafnaaGreatDoorPagA
namespace Lim
open Go
noncomputable section
set_option maxRecDepth 100000
section
variable {st st':St} {p a:Nat} {lg:CV} {M:bR} {bd bn bi bc:Nat} {F:List Nat} {D:aV}
def fS:jA:=⟨0,0,0,0⟩
def dY (n:Nat):bR:=⟨1+n/4,n-1-n/4,[],[],fS,fS,[],[]⟩
theorem Jb (hd:dt st a F D)(hn:4<=D.ay.length):R 68 [.ptr a 0] st fun v st'=>Kp [] st st'/\∃p bd bn bi bc,v= .ptr p 0/\cG st' p a .bz (dY D.ay.length) bd bn bi bc/\∀b∈[p,bd,bn,bi,bc],st.next<=b:=by
 refine bO ?_;rw[w68];refine(oY hd).same ?_;have hsz:=(show D.ay.length<=65536 from by obtain⟨_,_,_,_,_,_,_,h⟩:=hd;exact h.size);generalize hN:D.ay.length=N at*;have e1:aj .add none true (.int .i64 1) (I ((N/4:Nat):Int)) st= .ok (I ((1+N/4:Nat):Int)) st:=by rw[av,cN,bD (by omega)];congr 2
 rw[e1,af];refine(wo hd).same ?_;rw[hN];have e2:aj .sub none true (I N) (.int .i64 1) st= .ok (I ((N-1:Nat):Int)) st:=by rw[av,dJ,bD (by omega)];congr 2;omega
 have e3:aj .sub none false (I ((N-1:Nat):Int)) (I ((N/4:Nat):Int)) st= .ok (I ((N-1-N/4:Nat):Int)) st:=by rw[av,dJ,bD (by omega)];congr 2;omega
 simp only[e2,e3,af,ja,aT]
 have mP:∀s:St,bJ [.bz, .bz, .int .i64 0, .int .i64 0, .fN, .fN, .int .i64 0, .int .i64 0, .int .i64 0, .int .i64 0, .int .i64 0, .int .i64 0, .int .i64 0, .int .i64 0, .fN, .fN] [(0,1, .ptr a 0),(2,1,I ((1+N/4:Nat):Int)),(3,1,I ((N-1-N/4:Nat):Int)),(4,1, .map st.next),(5,1, .map (st.next+1)),(14,1, .map (st.next+2)),(15,1, .map (st.next+3))] s= .ok (.agg [.ptr a 0, .bz,I ((1+N/4:Nat):Int),I ((N-1-N/4:Nat):Int), .map st.next, .map (st.next+1), .int .i64 0, .int .i64 0, .int .i64 0, .int .i64 0, .int .i64 0, .int .i64 0, .int .i64 0, .int .i64 0, .map (st.next+2), .map (st.next+3)]) s:=by
  intro s;rw[dO];have:fY [(0,1,CV.ptr a 0),(2,1,I ((1+N/4:Nat):Int)),(3,1,I ((N-1-N/4:Nat):Int)),(4,1, .map st.next),(5,1, .map (st.next+1)),(14,1, .map (st.next+2)),(15,1, .map (st.next+3))] [.bz, .bz, .int .i64 0, .int .i64 0, .fN, .fN, .int .i64 0, .int .i64 0, .int .i64 0, .int .i64 0, .int .i64 0, .int .i64 0, .int .i64 0, .int .i64 0, .fN, .fN]=some [.ptr a 0, .bz,I ((1+N/4:Nat):Int),I ((N-1-N/4:Nat):Int), .map st.next, .map (st.next+1), .int .i64 0, .int .i64 0, .int .i64 0, .int .i64 0, .int .i64 0, .int .i64 0, .int .i64 0, .int .i64 0, .map (st.next+2), .map (st.next+3)]:=rfl;rw[this]
 have x1:(St.new st (.map [] 0)).next=st.next+1:=rfl;have x2:(St.new (St.new st (.map [] 0)) (.map [] 0)).next=st.next+2:=rfl;have x3:(St.new (St.new (St.new st (.map [] 0)) (.map [] 0)) (.map [] 0)).next=st.next+3:=rfl;rw[x1,x2,x3,mP,af,cr];have k4:Kp [] st (St.new (St.new (St.new (St.new st (.map [] 0)) (.map [] 0)) (.map [] 0)) (.map [] 0)):=((((Kp.refl [] st).new _).new _).new _).new _;refine⟨rfl,k4.new _,st.next+4,st.next,st.next+1,st.next+2,st.next+3,rfl,⟨aq (St.new (St.new (St.new (St.new st (.map [] 0)) (.map [] 0)) (.map [] 0)) (.map [] 0)) _, .inl ((c8.new st).mono ?_),(c8.new (St.new st (.map [] 0))).mono ?_,(c8.new (St.new (St.new st (.map [] 0)) (.map [] 0))).mono ?_,(c8.new (St.new (St.new (St.new st (.map [] 0)) (.map [] 0)) (.map [] 0))).mono ?_,by simp,(by intro b hb;simp at hb;simp;omega),⟨rfl,rfl,rfl⟩⟩,(by intro b hb;simp at hb;omega)⟩
 ·rw[aW _ _ _ (by first|(simp;done)|(simp;omega)),aW _ _ _ (by first|(simp;done)|(simp;omega)),aW _ _ _ (by first|(simp;done)|(simp;omega)),aW _ _ _ (by simp)]
 ·show(St.new _ _).mem.get (st.next+1)=_;rw[aW _ _ _ (by first|(simp;done)|(simp;omega)),aW _ _ _ (by first|(simp;done)|(simp;omega)),aW _ _ _ (by simp)];rfl
 ·show(St.new _ _).mem.get (st.next+2)=_;rw[aW _ _ _ (by first|(simp;done)|(simp;omega)),aW _ _ _ (by simp)];rfl
 ·show(St.new _ _).mem.get (st.next+3)=_;rw[aW _ _ _ (by simp)];rfl
end
section
variable {st st':St}
def RX (s:jk):jA:=⟨mY (s.take 4),mY ((s.drop 4).take 4),mY ((s.drop 8).take 4),mY ((s.drop 12).take 4)⟩
theorem CN {b i:Nat}{s:jk}{t:TypeId}{g:Bool}(hb:st.mem.get b=some (.cells (ai s) t g))(FH:b<st.next)(hs:s.length=512)(hi:i<4):R 164 [I i, .ptr b 0] st fun v st'=>v=I (mY ((s.drop (4*i)).take 4))/\st'=st:=by
 refine bO ?_;rw[ahl];have e1:aj .mul none true (.int .i64 4) (I i) st= .ok (I ((4*i:Nat):Int)) st:=by rw[av,jQ,bD (by omega)];rfl
 have e2:aj .add none true (I ((4*i:Nat):Int)) (.int .i64 4) st= .ok (I ((4*i+4:Nat):Int)) st:=by rw[av,cN,bD (by omega)];rfl
 have e3:=pZ (n:=512) (b:=b) (l:=4*i) (h:=4*i+4) (by omega) (by omega) (by omega) st;rw[aCX]at e3;simp only[e1,e2,af,e3];have hl:(ai s).length=512:=by simpa using hs
 have AK:ai ((s.drop (4*i)).take 4)=((ai s).drop (4*i)).take 4:=by simp[ai]
 have hl4:((s.drop (4*i)).take 4).length=4:=by rw[aBh,aBo];omega
 have kN:Sl st [] (.slice b (4*i) 4 (512-4*i) 0) 1 (ai ((s.drop (4*i)).take 4)):= .inr ⟨b,4*i,4,512-4*i,0,rfl,by rw[bF,hl4],⟨by omega, .inl rfl⟩, .inr ⟨by simp,FH,_,_,_,hb,by omega,by rw[AK]⟩⟩;exact sD kN (by omega) (sU _ (by omega))
theorem aaK {s:jk}(hs:s.length=512):R 124 [.agg (ai s)] st fun v st'=>v= .agg [I (RX s).root,I (RX s).used,I (RX s).head,I (RX s).free]/\Kp [] st st':=by
 refine bO ?_;rw[ahP];have X4:(CV.agg (ai s)).isAny=false:=rfl;rw[cr,aU];refine⟨X4, ?_⟩;have k2:Kp [] st (St.new (St.new st (.cells (ai s) 173 false)) (.cells [.int .i64 0, .int .i64 0, .int .i64 0, .int .i64 0] 155 false)):=((Kp.refl [] st).new _).new _
 have g1:(St.new (St.new st (.cells (ai s) 173 false)) (.cells [.int .i64 0, .int .i64 0, .int .i64 0, .int .i64 0] 155 false)).mem.get st.next=some (.cells (ai s) 173 false):=by
  rw[aW _ _ _ (by simp)];exact aq _ _
 have g2:(St.new (St.new st (.cells (ai s) 173 false)) (.cells [.int .i64 0, .int .i64 0, .int .i64 0, .int .i64 0] 155 false)).mem.get (st.next+1)=some (.cells [.int .i64 0, .int .i64 0, .int .i64 0, .int .i64 0] 155 false):=aq (St.new st (.cells (ai s) 173 false)) _;have n2:(St.new (St.new st (.cells (ai s) 173 false)) (.cells [.int .i64 0, .int .i64 0, .int .i64 0, .int .i64 0] 155 false)).next=st.next+2:=rfl;have x1:(St.new st (.cells (ai s) 173 false)).next=st.next+1:=rfl;rw[cM,aT,x1];generalize St.new (St.new st (.cells (ai s) 173 false)) (.cells [.int .i64 0, .int .i64 0, .int .i64 0, .int .i64 0] 155 false)=s2 at*;rw[lW,af];have hlt:st.next<s2.next:=by omega
 rw[dQ];refine(CN (i:=0) g1 hlt hs (by omega)).same ?_;rw[dQ];refine(CN (i:=1) g1 hlt hs (by omega)).same ?_;rw[dQ];refine(CN (i:=2) g1 hlt hs (by omega)).same ?_;rw[dQ];refine(CN (i:=3) g1 hlt hs (by omega)).same ?_
 have mP:∀a b c d:CV,a.cK=[a]->b.cK=[b]->c.cK=[c]->d.cK=[d]->a.isAny=false->b.isAny=false->c.isAny=false->d.isAny=false->bJ [.int .i64 0, .int .i64 0, .int .i64 0, .int .i64 0] [(0,1,a),(1,1,b),(2,1,c),(3,1,d)] s2= .ok (.agg [a,b,c,d]) s2:=by
  intro a b c d h1 h2 h3 h4 h5 h6 h7 h8;rw[dO];simp[cI,bt,h1,h2,h3,h4,h5,h6,h7,h8]
 rw[mP _ _ _ _ rfl rfl rfl rfl rfl rfl rfl rfl,af,aH,g2,aS,aU];refine⟨⟨rfl,rfl,by simp⟩, ?_⟩;have kg:∀a b c d:CV,bt [.int .i64 0, .int .i64 0, .int .i64 0, .int .i64 0] 0 [a,b,c,d]=[a,b,c,d]:=fun a b c d=>rfl;rw[kg,aO (n:=4) (ao s2 (st.next+1) _) rfl,af];refine⟨?_,k2.set _ (.inr (by omega)) (by omega)⟩;simp[RX]
end
section
variable {st st':St}
def ld (m:jA):List Nat:=[m.root,m.used,m.head,m.free]
def ry (l:List Nat):List UInt8:=(l.map (be 4)).flatten
theorem Bs (l:List Nat):(ry l).length=l.length*4:=by
 unfold ry;rw[fA (w:=4) (by intro x hx;obtain⟨n,_,rfl⟩:=aBv.1 hx;exact gV 4 n),aCa]
def bK (m:jA):jk:=ry (ld m)++List.replicate 496 0
theorem gL (m:jA):(bK m).length=512:=by
 unfold bK;rw[aAY,Bs,aBz];rfl
theorem CR {m:jA}(hb:∀n∈ld m,n<9223372036854775808):R 87 [.agg [I m.root,I m.used,I m.head,I m.free]] st fun v st'=>v= .agg (ai (bK m))/\Kp [] st st':=by
 refine bO ?_;rw[w87];rw[cr,aU];refine⟨rfl, ?_⟩;rw[cM,aT,cM,aT];have k3:Kp [] st (St.new (St.new (St.new st (.cells [I m.root,I m.used,I m.head,I m.free] 155 false)) (.cells (zr 512) 173 false)) (.cells (zr 512) 173 false)):=(((Kp.refl [] st).new _).new _).new _;have y1:(St.new st (.cells [I m.root,I m.used,I m.head,I m.free] 155 false)).next=st.next+1:=rfl;have y2:(St.new (St.new st (.cells [I m.root,I m.used,I m.head,I m.free] 155 false)) (.cells (zr 512) 173 false)).next=st.next+2:=rfl
 have g1:(St.new (St.new (St.new st (.cells [I m.root,I m.used,I m.head,I m.free] 155 false)) (.cells (zr 512) 173 false)) (.cells (zr 512) 173 false)).mem.get st.next=some (.cells [I m.root,I m.used,I m.head,I m.free] 155 false):=by
  rw[aW _ _ _ (by omega),aW _ _ _ (by omega)];exact aq _ _
 have g2:(St.new (St.new (St.new st (.cells [I m.root,I m.used,I m.head,I m.free] 155 false)) (.cells (zr 512) 173 false)) (.cells (zr 512) 173 false)).mem.get (st.next+1)=some (.cells (zr 512) 173 false):=by
  rw[aW _ _ _ (by omega)];exact aq (St.new st (.cells [I m.root,I m.used,I m.head,I m.free] 155 false)) _
 have g3:(St.new (St.new (St.new st (.cells [I m.root,I m.used,I m.head,I m.free] 155 false)) (.cells (zr 512) 173 false)) (.cells (zr 512) 173 false)).mem.get (st.next+2)=some (.cells (zr 512) 173 false):=
  aq (St.new (St.new st (.cells [I m.root,I m.used,I m.head,I m.free] 155 false)) (.cells (zr 512) 173 false)) _
 have n3:(St.new (St.new (St.new st (.cells [I m.root,I m.used,I m.head,I m.free] 155 false)) (.cells (zr 512) 173 false)) (.cells (zr 512) 173 false)).next=st.next+3:=rfl;rw[y1,y2];generalize St.new (St.new (St.new st (.cells [I m.root,I m.used,I m.head,I m.free] 155 false)) (.cells (zr 512) 173 false)) (.cells (zr 512) 173 false)=s3 at*;have Mf:bT 3 4 (cO 4 [(.int .i64 0)]) [(0,1,I m.root),(1,1,I m.used),(2,1,I m.head),(3,1,I m.free)] s3= .ok (.slice s3.next 0 4 4 0) (St.new s3 (.cells [I m.root,I m.used,I m.head,I m.free] 3 false)):=rfl;simp only[db,fl,ah,af,az,g1,ar,aAT,aAS,aAQ,au,Mf,aT,ns,aK,aL];have k4:Kp [] st (St.new s3 (.cells [I m.root,I m.used,I m.head,I m.free] 3 false)):=k3.new _;have h2:(St.new s3 (.cells [I m.root,I m.used,I m.head,I m.free] 3 false)).mem.get (st.next+1)=some (.cells (zr 512) 173 false):=by rw[aW _ _ _ (by omega)];exact g2
 have h3:(St.new s3 (.cells [I m.root,I m.used,I m.head,I m.free] 3 false)).mem.get (st.next+2)=some (.cells (ai (List.replicate 512 0)) 173 false):=by rw[aW _ _ _ (by omega),<-nb];exact g3
 have h4:(St.new s3 (.cells [I m.root,I m.used,I m.head,I m.free] 3 false)).mem.get s3.next=some (.cells [I m.root,I m.used,I m.head,I m.free] 3 false):=aq _ _;have n4:(St.new s3 (.cells [I m.root,I m.used,I m.head,I m.free] 3 false)).next=st.next+4:=by rw[vg,n3]
 rw[n3]at h4⊢
 refine bM (fun fu vs s=>∃i,fu+i=4/\vs=[.ptr (st.next+1) 0, .ptr (st.next+2) 0, .slice (st.next+3) 0 4 4 0, .int .i64 4,I i]/\Kp [] st s/\s.next=st.next+4/\s.mem.get (st.next+1)=some (.cells (zr 512) 173 false)/\
  s.mem.get (st.next+2)=some (.cells (ai (ry ((ld m).take i)++List.replicate (512-4*i) 0)) 173 false)/\s.mem.get (st.next+3)=some (.cells [I m.root,I m.used,I m.head,I m.free] 3 false)) ?_ (n:=4) ⟨0,rfl,rfl,k4,n4,h2,h3,h4⟩
 rintro fu vs s k ⟨i,hi,rfl,hk,hn,q1,q2,q3⟩ next;simp only[aK,aL]
 by_cases hc:i<4
 ·have hL:(ld m).length=4:=rfl
  have hg:∀h,([I m.root,I m.used,I m.head,I m.free]:List CV)[i]'h=I ((ld m)[i]'(by omega)):=by
   intro h
   match i,hc with
   |0,_=>rfl
   |1,_=>rfl
   |2,_=>rfl
   |3,_=>rfl
  have a1:aj .lss none false (I i) (.int .i64 4) s= .ok (.bool true) s:=by rw[av,de,aBc (by omega)]
  have a2:aj .mul none true (.int .i64 4) (I i) s= .ok (I ((4*i:Nat):Int)) s:=by rw[av,jQ,bD (by omega)];rfl
  have a3:aj .add none true (I ((4*i:Nat):Int)) (.int .i64 4) s= .ok (I ((4*i+4:Nat):Int)) s:=by rw[av,cN,bD (by omega)];rfl
  have a4:=pZ (n:=512) (b:=st.next+2) (l:=4*i) (h:=4*i+4) (by omega) (by omega) (by omega) s;rw[aCX]at a4;have kN:Sl s [] (.slice (st.next+3) 0 4 4 0) 1 [I m.root,I m.used,I m.head,I m.free]:= .inr ⟨st.next+3,0,4,4,0,rfl,rfl,⟨aAU _, .inl rfl⟩, .inr ⟨by simp,by omega,_,_,_,q3,by simp,rfl⟩⟩;rw[a1,af,ag,aBb rfl];refine kN.idx (i:=i) (by simpa using hc) _ ?_;rw[hg,a2,af,af,a3,af,a4,af];have hP:(ry ((ld m).take i)).length=4*i:=by rw[Bs,aBh,hL];omega
  refine(Ht (n:=(ld m)[i]) (len:=4) (off:=4*i) (cap:=512-4*i) q2 (by omega) (by simp[hP];omega) (by omega) (hb _ (aBq ..))).mono ?_;rintro _ s6 ⟨k6,n6,g6⟩;have a5:aj .add none true (I i) (.int .i64 1) s6= .ok (I ((i+1:Nat):Int)) s6:=by rw[av,cN,bD (by omega)];rfl
  rw[a5,af];refine next (fu-1) _ _ (by omega) ⟨i+1,by omega,rfl,hk.trans k6 (by simp),by omega,(k6.keep _ (by omega) (by simp)).trans q1, ?_,(k6.keep _ (by omega) (by simp)).trans q3⟩;rw[g6]
  congr 2
  have e:=pq (ai (ry ((ld m).take i))) (ai (List.replicate (512-4*i) 0)) (ai (be 4 (ld m)[i]));rw[bF,hP]at e;rw[bH,e]
  have e2:(ai (List.replicate (512-4*i) 0)).drop (ai (be 4 (ld m)[i])).length=ai (List.replicate (512-4*(i+1)) 0):=by
   unfold ai;rw[<-aCt,aDc,aCa,gV];congr 2
  have e3:ry ((ld m).take (i+1))=ry ((ld m).take i)++be 4 (ld m)[i]:=by
   rw[aBl (by omega)];unfold ry;rw[aCj,aDq];simp only[aBA,List.map_nil,aCo,List.flatten_nil,aBQ]
   try rfl
  rw[e2,e3,bH,bH,aBE]
 ·have h4i:i=4:=by omega
  subst h4i;have a1:aj .lss none false (I ((4:Nat):Int)) (.int .i64 4) s= .ok (.bool false) s:=rfl;have sG:ai (ry ((ld m).take 4)++List.replicate (512-4*4) 0)=ai (bK m):=rfl;rw[sG]at q2;have hl:(ai (bK m)).length=512:=by simpa using gL m
  rw[a1,af,ag,aAZ (by decide),aO q2 hl,af,aH,q1,aS,aU,I8 _ (gL m)];refine⟨⟨hl,bE _,by rw[pL];exact aAU _⟩, ?_⟩;rw[aO (n:=512) (ao s (st.next+1) _) hl,af];exact⟨rfl,hk.set _ (.inr (by omega)) (by omega)⟩
end
section
variable {st st':St}
theorem PK {X Y:List Nat}{v w:CV}{a b:List UInt8}(h1:Sl st X v 1 (ai a))(h2:Sl st Y w 1 (ai b)):R 85 [v,w] st fun x st'=>x= .bool (a==b)/\st'=st:=by
 refine bO ?_;rw[w85];have e:aj .eql (some .str) false (.str a) (.str b) st=rj .eql a b st:=rfl;rw[h1.str,af,h2.str,af,e];simp[rj]
end
section
variable {st st':St}
def iP (l:List UInt8):List UInt8:=(l.reverse.dropWhile (fun b=>b==0)).reverse
theorem G8 (l:List UInt8):iP (l++[0])=iP l:=by simp[iP]
theorem M3 (l:List UInt8)(b:UInt8)(h:b≠0):iP (l++[b])=l++[b]:=by simp[iP,h]
theorem M4 {F:List Nat}{v:CV}{l:List UInt8}(h:kM st F v 1 (ai l))(hl:l.length<=1000000):R 167 [v, .int .u8 0] st fun x st'=>kM st F x 1 (ai (iP l))/\st'=st:=by
 refine bO ?_;rw[ahj];show dn _ _ _;simp only[aK,aL];refine bM (fun k vs s=>∃x,vs=[x, .int .u8 0]/\k<=l.length/\kM st F x 1 (ai (l.take k))/\iP (l.take k)=iP l/\s=st) ?_ (n:=l.length) ⟨v,rfl,aAU _,by rw[List.take_length];exact h,by rw[List.take_length],rfl⟩;rintro k vs s K ⟨x,rfl,hk,hx,ht,rfl⟩ next;have hlen:=hx.nil.len k (by simp;omega) (by omega) s;simp only[aK,aL,hlen,af]
 by_cases h0:k=0
 ·subst h0;have e1:aj .gtr none true (I ((0:Nat):Int)) (.int .i64 0) s= .ok (.bool false) s:=rfl;simp only[e1,af,aG,aBr,cc,zk,aF,aAR,aBf,ag];rw[<-ht];exact⟨by simpa[iP]using hx,trivial⟩
 ·have e1:aj .gtr none true (I k) (.int .i64 0) s= .ok (.bool true) s:=by rw[av,dj,aBc (by omega)]
  have e2:aj .sub none true (I k) (.int .i64 1) s= .ok (I ((k-1:Nat):Int)) s:=by rw[av,dJ,bD (by omega)];congr 2;omega
  have GL:k-1<l.length:=by omega
  have hlt:k-1<(ai (l.take k)).length:=by rw[bF,aBh];omega
  have zm:l.take k=l.take (k-1)++[l[k-1]'GL]:=by
   conv=>lhs;rw[show k=(k-1)+1 by omega]
   rw[aBl]
  simp only[e1,af,aG,aBr,bh,zk,hlen,e2];have hg:(ai (l.take k))[k-1]'hlt=bN (l[k-1]'GL):=by simp[ai]
  have key:=fun Q (hq:Q (bN (l[k-1]'GL)))=>hx.nil.idx (i:=k-1) hlt Q (by rw[hg];exact hq);unfold Lim.idx at key;refine key _ ?_
  have e3:aj .eql (some .int) false (bN (l[k-1]'GL)) (.int .u8 0) s= .ok (.bool (decide (l[k-1]'GL=0))) s:=by
   unfold bN;rw[av,cB];congr 2;simp only[aBu];constructor
   ·intro e;apply UInt8.toNat_inj.1;simp;omega
   ·intro e;rw[e];rfl
  simp only[e3,af,aF,aBr,ag]
  by_cases hz:l[k-1]'GL=0
  ·obtain⟨x2,c1,c2⟩:=hx.hi (n:=k) (by omega) (by simp;omega) (l:=k-1) (by omega) s;simp only[hz,aBV,aBr,c1,af];refine next (k-1) _ _ (by omega) ⟨x2,rfl,by omega, ?_, ?_,rfl⟩
   ·have e:List.take ((k-1)*1) (ai (l.take k))=ai (l.take (k-1)):=by
     unfold ai;rw[aCF,<-aCE,aCh,aBH (by omega)]
    rw[<-e];exact c2
   ·rw[<-ht,zm,hz,G8]
  ·simp only[hz,aCy,aAR,aBf];rw[<-ht,zm,M3 _ _ hz,<-zm];exact⟨hx,trivial⟩
end
section
variable {st st':St}
theorem Rx {F:List Nat}{v:CV}{l:List UInt8}(h:kM st F v 1 (ai l))(hl:l.length<=1000000)(h0:0<l.length):R 130 [v, .str [0]] st fun x st'=>kM st F x 1 (ai (iP l))/\st'=st:=by
 refine bO ?_;rw[ahM];have hlen:=h.nil.len l.length (by simp) (by omega) st;have e1:aj .eql (some .int) true (I l.length) (.int .i64 0) st= .ok (.bool false) st:=by rw[av,cB,aAW (by omega)]
 have e2:aj .eql (some .str) true (.str [0]) (.str []) st= .ok (.bool false) st:=rfl;have e3:bo .str (.str [0]) st= .ok (.int .i64 1) st:=rfl;have e4:aj .eql (some .int) true (.int .i64 1) (.int .i64 1) st= .ok (.bool true) st:=rfl;have e5:oz (.str [0]) (.int .i64 0) st= .ok (.int .u8 0) st:=rfl;have e6:aj .lss none true (.int .u8 0) (.int .u8 128) st= .ok (.bool true) st:=rfl;simp only[hlen,af,e1,aG,aAR,aBf,aBk,bh,e2,aF,ag,e3,e4,aBr,e5,e6];exact M4 h hl
end
