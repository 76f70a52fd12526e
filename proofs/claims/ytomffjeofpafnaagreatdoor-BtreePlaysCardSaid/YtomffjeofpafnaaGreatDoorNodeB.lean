import Derived.Test.YtomffjeofpafnaaGreatDoorNodeA
namespace Lim
open Go
noncomputable section
set_option maxRecDepth 100000
section
variable {st st':St}
theorem LR {X:List Nat}{v:CV}{z:Nat}(hs:Sl st X v 1 (ai (List.replicate z 0)))(hl:z<=1000000):R 178 [v, .func (.func 179) [] []] st fun x st'=>x= .bool false/\Kp [] st st':=by
 refine bN ?_;rw[agD]
 have key:R 200 [v, .func (.func 179) [] []] st fun x st'=>x= .int .i64 (-1)/\Kp [] st st':=by
  refine bN ?_;rw[agr];have hlen:=hs.len z (by simp) (by omega) st;simp only[cN,aJ,aK,hlen,af];refine bK (fun fu vs s=>∃i,fu+i=z/\vs=[v, .func (.func 179) [] [],I z,I i]/\Kp [] st s) ?_ (n:=z) ⟨0,rfl,rfl,Kp.refl _ _⟩;rintro fu vs s k ⟨i,hi,rfl,px⟩ next;simp only[aJ,aK,dv,af,ag]
  by_cases hc:i<z
  ·rw[aAJ hc,aAI rfl];have Gi:=(hs.dM (Y:=[]) (by simp)).mono px;refine Gi.idx (i:=i) (by simpa using hc) _ ?_;have e:(ai (List.replicate z 0))[i]'(by simpa using hc)= .int .u8 0:=by simp[ai,bO]
   rw[e,dP];simp only[aBf,aBz];refine bN ?_;rw[agC];simp only[aw,ff,aBA,aAU,af,ag,aAz,aAO];have a1:=gF i (by omega) s none;rw[aw]at a1;rw[a1,af];exact next (fu-1) _ _ (by omega) ⟨i+1,by omega,rfl,px⟩
  ·rw[aAB hc,aAH (by decide)];exact⟨trivial,px⟩
 refine key.mono ?_;rintro _ s ⟨rfl,h⟩;simp[h]
structure Dec (mu s:St)(b1 b9 r:Nat)(F:List Nat)(leaf:Bool)(vc vk:CV)(cells:List dh)(kids:List Nat)(L:List UInt8)(Fc Fk:List Nat):Prop where
 kp:Kp [] mu s
 g1:s.mem.get b1=some (.cells [.bool false, .ae, .ae] 105 false)
 g9:s.mem.get b9=some (.cells [.bool leaf,vc,vk] 105 false)
 rd:nK s r F L
 oc:Own s vc 4 109 (bC cells) Fc
 ok:Own s vk 1 3 (ck kids) Fk
 lt:∀b,b=b1\/b=b9\/b∈F\/b∈Fc\/b∈Fk->mu.next<=b/\b<s.next
 ne:b1≠b9/\b1∉F/\b9∉F
 dc:∀b∈Fc,b≠b1/\b≠b9/\b∉F/\b∉Fk
 dk:∀b∈Fk,b≠b1/\b≠b9/\b∉F
def vE (n:bg)(st:St)(y:CV)(st':St):Prop:=∃x,y= .tuple [x,I 0]/\Kp [] st st'/\∀X,(∀b∈X,b<st.next)->IsNode st' X x n
theorem KV {v:CV}{n:bg}{z:Nat}(hf:cY st)(h:Sl st [] v 1 (ai (ma n++List.replicate z 0)))(hn:n.ok)(hl:n.size+z<=512):R 138 [v] st (vE n st):=by
 have qx:n.cells.length<=512:=by
  have:=eR n.leaf n.cells;rw[bX]at hl;omega
 refine bN ?_;rw[ahi];have k1:Kp [] st (St.new st (.cells [.bool false, .ae, .ae] 105 false)):=(Kp.refl [] st).new _;have g1:(St.new st (.cells [.bool false, .ae, .ae] 105 false)).mem.get st.next=some (.cells [.bool false, .ae, .ae] 105 false):=au _ _;have n1:(St.new st (.cells [.bool false, .ae, .ae] 105 false)).next=st.next+1:=rfl;rw[cG,aS];generalize St.new st (.cells [.bool false, .ae, .ae] 105 false)=s1 at*;have hlen:(ma n++List.replicate z 0).length=n.size+z:=by rw[aAG,aBt];rfl
 have e1:aj .gtr none true (I ((n.size+z:Nat):Int)) (.int .i64 512) s1= .ok (.bool false) s1:=by rw[aw,dq,aAB (by omega)]
 rw[(h.mono k1).len (n.size+z) (by rw[bJ,hlen];omega) (by omega) s1];simp only[af,e1,ag,aAz,aAO];refine(u9 (h.mono k1) (by omega)).mono ?_;rintro _ s3 ⟨r,F,rfl,k3,rd3,xE⟩;have Oj:∀b∈F,b<s3.next:=by obtain⟨q,vv,G,rfl,_,h,_⟩:=rd3;exact h
 have e2:ma n++List.replicate z 0=uv (if n.leaf=true then 1 else 0)++(uv n.cells.length++(cK n.leaf n.cells++((if n.leaf=true then []else eK n.kids)++List.replicate z 0))):=by unfold ma;simp
 rw[e2]at rd3;refine(Mz rd3).mono ?_;rintro _ s4 ⟨rfl,k4,n4,rd4⟩;have mC:bD [.bool false, .ae, .ae] [(0,1, .bool n.leaf)] s4= .ok (.agg [.bool n.leaf, .ae, .ae]) s4:=rfl;rw[mC,af];refine tn rfl rfl rfl ?_;have n31:=k3.next;have g4:=(k4.keep st.next (by omega) (fun h=>by have:=xE _ h;omega)).trans ((k3.keep st.next (by omega) (by simp)).trans g1);have k5:Kp [] s4 (St.new s4 (.cells [.bool n.leaf, .ae, .ae] 105 false)):=(Kp.refl _ s4).new _;have RM:Kp [] st s4:=(k1.trans k3 (by simp)).trans k4 fun q hq=> .inr (by have:=xE q hq;omega)
 have lt0:∀b,b=st.next\/b=s4.next\/b∈F\/b∈([]:List Nat)\/b∈([]:List Nat)->st.next<=b/\b<(St.new s4 (.cells [.bool n.leaf, .ae, .ae] 105 false)).next:=by
  intro b hb;rcases hb with rfl|rfl|hb|hb|hb
  ·simp;omega
  ·simp;omega
  ·have:=xE b hb;have:=Oj b hb;simp;omega
  ·cases hb
  ·cases hb
 have D0:Dec st (St.new s4 (.cells [.bool n.leaf, .ae, .ae] 105 false)) st.next s4.next r F n.leaf .ae .ae [] [] (uv n.cells.length++(cK n.leaf n.cells++((if n.leaf=true then []else eK n.kids)++List.replicate z 0))) [] []:=
  ⟨RM.trans k5 (by simp),(k5.keep _ (by omega) (by simp)).trans g4,au _ _,rd4.keep k5 (by simp), .inl ⟨rfl,rfl,rfl⟩, .inl ⟨rfl,rfl,rfl⟩,lt0,⟨by omega,fun h=>by have:=xE _ h;omega,fun h=>by have:=Oj _ h;omega⟩,by simp,by simp⟩
 generalize hb9:s4.next=b9 at*;generalize Jm:st.next=b1 at*;have Nr:st.next=b1:=Jm;generalize St.new s4 (.cells [.bool n.leaf, .ae, .ae] 105 false)=s6 at*;clear g4 k5 RM rd4 k4 n4 rd3 k3 n31 mC;refine kX (fun vs s=>∃vc Fc,vs=[v, .ptr b1 0, .ptr r 0, .ptr b9 0]/\Dec st s b1 b9 r F n.leaf vc .ae n.cells [] ((if n.leaf=true then []else eK n.kids)++List.replicate z 0) Fc []) ?_ ?_
 ·intro so oC;rw[cN];refine(kh (n:=n.cells.length) (m:=512) D0.rd qx (by omega)).mono ?_;rintro _ s7 ⟨rfl,k7,n7,rd7⟩
  have D7:Dec st s7 b1 b9 r F n.leaf .ae .ae [] [] (cK n.leaf n.cells++((if n.leaf=true then []else eK n.kids)++List.replicate z 0)) [] []:=
   ⟨D0.kp.trans k7 fun q hq=> .inr (D0.lt q (by simp[hq])).1,(k7.keep b1 (D0.lt b1 (by simp)).2 D0.ne.2.1).trans D0.g1,(k7.keep b9 (D0.lt b9 (by simp)).2 D0.ne.2.2).trans D0.g9,rd7, .inl ⟨rfl,rfl,rfl⟩, .inl ⟨rfl,rfl,rfl⟩,fun b hb=>by rw[n7];exact D0.lt b hb,D0.ne,by simp,by simp⟩
  simp only[aJ,aK];refine bK (fun fu vs s=>∃i vc Fc,fu+i=n.cells.length/\vs=[v, .ptr b1 0, .ptr r 0, .ptr b9 0,I n.cells.length,I i]/\Dec st s b1 b9 r F n.leaf vc .ae (n.cells.take i) [] (cK n.leaf (n.cells.drop i)++((if n.leaf=true then []else eK n.kids)++List.replicate z 0)) Fc []) ?_ (n:=n.cells.length) ⟨0, .ae,[],rfl,rfl,by simpa using D7⟩;rintro fu vs s k ⟨i,vc,Fc,hi,rfl,D⟩ next;simp only[aJ,aK,dv,af,ag]
  by_cases hc:i<n.cells.length
  ·rw[aAJ hc,aAI rfl];refine(pN D.rd).same ?_;simp only[dm,af,aAU,ag,aAz,aAO,bt];have NO:cY s:=D.kp.fresh hf;have Hw:Kp [] s (St.skip s):=(Kp.refl _ s).skip;have R7:(St.skip s).mem.get b9=some (.cells [.bool n.leaf,vc, .ae] 105 false):=D.g9;have im:(St.skip s).mem.get s.next=none:=NO _ (aAE _);have nsk:(St.skip s).next=s.next+1:=rfl;have Z7:=D.rd.keep Hw (by simp);have ock:=D.oc.keep Hw fun b hb=>⟨(D.lt b (by simp[hb])).2,by simp⟩;have g1k:(St.skip s).mem.get b1=_:=D.g1;generalize St.skip s=sk at*;have l9:=D.lt b9 (by simp);have l1:=D.lt b1 (by simp);have lF:∀b∈F,st.next<=b/\b<s.next:=fun b hb=>D.lt b (by simp[hb]);have lc:∀b∈Fc,st.next<=b/\b<s.next:=fun b hb=>D.lt b (by simp[hb]);simp only[ah,af,aA,R7,aq,aAF,aAA,aAy,av];have CW:=hn.cell _ (aAW hc);rw[aAS hc,fo,aBn]at Z7;refine(Sq Z7 CW (fun b hb=>by have:=lF b hb;omega)).mono ?_;rintro _ sl ⟨rfl,kl,rdl⟩;have nl:=kl.next;have Wb:s.next∉F:=fun h=>by have:=lF _ h;omega
   have ES:sl.mem.get s.next=none:=(kl.keep s.next (by omega) Wb).trans im;have gl:=(kl.keep b9 (by omega) D.ne.2.2).trans R7;have g1l:=(kl.keep b1 (by omega) D.ne.2.1).trans g1k;have ocl:=ock.keep kl fun b hb=>⟨by have:=lc b hb;omega,(D.dc b hb).2.2.1⟩;refine Dk 48 ocl (by omega) (fun q hq=>by have:=lc q hq;omega) (by omega) ES rfl rfl rfl (gp _) (by rw[bL,aAN];omega) ?_;intro v' s2 F' o2 k2 ze;have gl2:(St.set sl s.next (.cells (CV.agg (aU n.cells[i])).cD 109 false)).mem.get b9=some (.cells [.bool n.leaf,vc, .ae] 105 false):=(al _ _ _ _ (by omega)).trans gl;have nn2:=k2.next;have g92:=(k2.keep b9 (by omega) (by simp only[aAD,aBY];exact⟨by omega,fun h=>(D.dc b9 h).2.1 rfl⟩)).trans gl;have sy:=(k2.keep b1 (by omega) (by simp only[aAD,aBY];exact⟨by omega,fun h=>(D.dc b1 h).1 rfl⟩)).trans g1l;have rd2:=rdl.keep k2 (fun b hb=>by simp only[aAD,aBY];exact⟨by have:=lF b hb;omega,fun h=>(D.dc b h).2.2.1 hb⟩);obtain⟨c1,c2⟩:=o2.cr;have jZ:bp [.bool n.leaf,vc, .ae] 1 [v']=[.bool n.leaf,v', .ae]:=rfl;simp only[gl2,aq,aAA,aAy,av,aCC,and_true,ah,af,aF,aAF,g92,aR,c2,jZ,gF i (by omega),im];refine⟨⟨rfl,by simp[c1],by simp⟩, ?_⟩
   have e5:bC (n.cells.take i)++(CV.agg (aU n.cells[i])).cD=bC (n.cells.take (i+1)):=by
    rw[aAR hc,gS];simp[bC]
   rw[e5]at o2
   have ks:Kp [] st s2:=((D.kp.trans Hw (by simp)).trans kl fun q hq=> .inr (lF q hq).1).trans k2 fun q hq=> .inr (by
    rcases aAD.1 hq with rfl|hq
    ·omega
    ·exact(lc q hq).1)
   have SZ:∀b∈F',st.next<=b/\b<s2.next/\(b∈Fc\/sl.next<=b):=fun b hb=>by
    obtain⟨a1,a2⟩:=ze b hb;refine⟨?_,a2,a1⟩;rcases a1 with h|h
    ·exact(lc b h).1
    ·omega
   have Xw:b9∉F':=fun h=>by
    rcases(SZ b9 h).2.2 with h|h
    ·exact(D.dc b9 h).2.1 rfl
    ·omega
   refine next (fu-1) _ _ (by omega) ⟨i+1,v',F',by omega,rfl,ks.set _ (.inr l9.1) (by omega), ?_,ao _ _ _, ?_,o2.mono fun b hb=>al _ _ _ _ (fun e=>Xw (e▸hb)), .inl ⟨rfl,rfl,rfl⟩,fun b hb=> ?_,D.ne,fun b hb=> ?_,by simp⟩
   ·exact(al _ _ _ _ D.ne.1).trans sy
   ·exact rd2.keep (X:=[b9]) ((Kp.refl _ s2).set (p:=b9) _ (.inl (by simp)) (by omega)) (fun b hb=>by simp;exact fun e=>D.ne.2.2 (e▸hb))
   ·show st.next<=b/\b<s2.next;rcases hb with rfl|rfl|hb|hb|hb
    ·omega
    ·omega
    ·have:=lF b hb;omega
    ·have:=SZ b hb;omega
    ·cases hb
   ·rcases(SZ b hb).2.2 with h|h
    ·exact D.dc b h
    ·exact⟨by omega,by omega,fun h2=>by have:=lF b h2;omega,by simp⟩
  ·rw[aAB hc,aAH (by decide)];have e5:n.cells.take i=n.cells:=aAK (by omega);have e6:n.cells.drop i=[]:=aBj (by omega);rw[e5,e6]at D;exact oC _ _ ⟨vc,Fc,rfl,by simpa[cK]using D⟩
 ·rintro _ s7 ⟨vc,Fc,rfl,D7⟩;simp only[cN,aJ,aK];have qB:=hn.jf;have ajA:∀s,Own s vc 4 109 (bC n.cells) Fc->(∀b∈Fc,b<s.next)->Sl s [] vc 4 (bC n.cells):=fun s ho hb=>ho.sl fun b h=>⟨by simp,hb b h⟩;refine bK (fun fu vs s=>∃i vk Fk,fu+i=n.kids.length/\vs=[v, .ptr b1 0, .ptr r 0, .ptr b9 0,I i]/\Dec st s b1 b9 r F n.leaf vc vk n.cells (n.kids.take i) ((if n.leaf=true then []else eK (n.kids.drop i))++List.replicate z 0) Fc Fk) ?_ (n:=n.kids.length) ⟨0, .ae,[],rfl,rfl,by simpa using D7⟩;rintro fu vs s k ⟨i,vk,Fk,hi,rfl,D⟩ next;have l9:=D.lt b9 (by simp);have l1:=D.lt b1 (by simp);have lF:∀b∈F,st.next<=b/\b<s.next:=fun b hb=>D.lt b (by simp[hb]);have lc:∀b∈Fc,st.next<=b/\b<s.next:=fun b hb=>D.lt b (by simp[hb]);have lk:∀b∈Fk,st.next<=b/\b<s.next:=fun b hb=>D.lt b (by simp[hb]);have abP:=(ajA s D.oc fun b hb=>(lc b hb).2).len n.cells.length (bL _) (by omega) s;have elq:aj .leq none false (I i) (I n.cells.length) s= .ok (.bool (decide (i<=n.cells.length))) s:=by rw[aw,oT];congr 2;simp only[aBc];omega
  simp only[aJ,aK,fl,ah,af,aA,D.g9,aq,aAF,aAA,aAy,av,abP,elq,aH,aAY]
  by_cases hc:i<n.kids.length
  ·have fV:n.leaf=false:=by
    cases h:n.leaf with
    |false=>rfl
    |true=>rw[h,aAI rfl]at qB;omega
   rw[fV,aAH (by decide)]at qB;rw[aAJ (by omega)];simp only[bo,af,fh];refine(pN D.rd).same ?_;have An:=D.rd;have hg9:=D.g9;rw[fV]at hg9;rw[aAH (by rw[fV];decide)]at An;simp only[af,aG,aAY,aH,jI,bo,ah,aA,hg9,aq,aAF,aAy,av,dm,aAT,ag,bt];have NO:cY s:=D.kp.fresh hf;have Hw:Kp [] s (St.skip s):=(Kp.refl _ s).skip;have R7:(St.skip s).mem.get b9=some (.cells [.bool false,vc,vk] 105 false):=hg9;have im:(St.skip s).mem.get s.next=none:=NO _ (aAE _);have nsk:(St.skip s).next=s.next+1:=rfl;have Z7:=An.keep Hw (by simp);have okk:=D.ok.keep Hw fun b hb=>⟨(lk b hb).2,by simp⟩;have ock:=D.oc.keep Hw fun b hb=>⟨(lc b hb).2,by simp⟩;have g1k:(St.skip s).mem.get b1=_:=D.g1;generalize St.skip s=sk at*;simp only[R7,aq,aAA,aAy,av];rw[aAS hc,nz,aBn]at Z7;have hkm:=hn.A8 _ (aAW hc);refine(kh (n:=n.kids[i]) (m:=2147483647) Z7 hkm (by omega)).mono ?_;rintro _ sl ⟨rfl,kl,nl,rdl⟩;have Wb:s.next∉F:=fun h=>by have:=lF _ h;omega
   have ES:sl.mem.get s.next=none:=(kl.keep s.next (by omega) Wb).trans im;have gl:=(kl.keep b9 (by omega) D.ne.2.2).trans R7;have g1l:=(kl.keep b1 (by omega) D.ne.2.1).trans g1k;have okl:=okk.keep kl fun b hb=>⟨by have:=lk b hb;omega,(D.dk b hb).2.2⟩;have ocl:=ock.keep kl fun b hb=>⟨by have:=lc b hb;omega,(D.dc b hb).2.2.1⟩;have avD:n.kids.length<=513:=by omega
   refine Dk 8 okl (by omega) (fun q hq=>by have:=lk q hq;omega) (by omega) ES rfl rfl rfl rfl (by rw[oY,aAN];omega) ?_;intro v' s2 F' o2 k2 ze;have gl2:(St.set sl s.next (.cells (CV.cD (I n.kids[i])) 3 false)).mem.get b9=some (.cells [.bool false,vc,vk] 105 false):=(al _ _ _ _ (by omega)).trans gl;have nn2:=k2.next;have g92:=(k2.keep b9 (by omega) (by simp only[aAD,aBY];exact⟨by omega,fun h=>(D.dk b9 h).2.1 rfl⟩)).trans gl;have sy:=(k2.keep b1 (by omega) (by simp only[aAD,aBY];exact⟨by omega,fun h=>(D.dk b1 h).1 rfl⟩)).trans g1l;have rd2:=rdl.keep k2 (fun b hb=>by simp only[aAD,aBY];exact⟨by have:=lF b hb;omega,fun h=>(D.dk b h).2.2 hb⟩);have QR:=ocl.keep k2 (fun b hb=>⟨by have:=lc b hb;omega,by simp only[aAD,aBY];exact⟨by have:=lc b hb;omega,(D.dc b hb).2.2.2⟩⟩);obtain⟨c1,c2⟩:=o2.cr;have jZ:bp [.bool false,vc,vk] 2 [v']=[.bool false,vc,v']:=rfl;have abv:bp [.bool false,vc,vk] 2 (CV.cD v')=[.bool false,vc,v']:=by rw[c2];rfl
   simp only[gl2,aq,aAA,aAy,av,aCC,and_true,ah,af,aF,aAF,g92,aR,c2,jZ,gF i (by omega),im];refine⟨⟨rfl,by simp[c1],by simp⟩, ?_⟩
   have e5:ck (n.kids.take i)++CV.cD (I n.kids[i])=ck (n.kids.take (i+1)):=by
    rw[aAR hc,mT];simp[ck]
   rw[e5]at o2
   have ks:Kp [] st s2:=((D.kp.trans Hw (by simp)).trans kl fun q hq=> .inr (lF q hq).1).trans k2 fun q hq=> .inr (by
    rcases aAD.1 hq with rfl|hq
    ·omega
    ·exact(lk q hq).1)
   have SZ:∀b∈F',st.next<=b/\b<s2.next/\(b∈Fk\/sl.next<=b):=fun b hb=>by
    obtain⟨a1,a2⟩:=ze b hb;refine⟨?_,a2,a1⟩;rcases a1 with h|h
    ·exact(lk b h).1
    ·omega
   have Xw:b9∉F':=fun h=>by
    rcases(SZ b9 h).2.2 with h|h
    ·exact(D.dk b9 h).2.1 rfl
    ·omega
   refine next (fu-1) _ _ (by omega) ⟨i+1,v',F',by omega,rfl,ks.set _ (.inr l9.1) (by omega),(al _ _ _ _ D.ne.1).trans sy, ?_, ?_,QR.mono fun b hb=>al _ _ _ _ (D.dc b hb).2.1,o2.mono fun b hb=>al _ _ _ _ (fun e=>Xw (e▸hb)),fun b hb=> ?_,D.ne,fun b hb=> ?_,fun b hb=> ?_⟩
   ·rw[fV];exact ao _ _ _
   ·rw[aAH (by rw[fV];decide)];exact rd2.keep (X:=[b9]) ((Kp.refl _ s2).set (p:=b9) _ (.inl (by simp)) (by omega)) (fun b hb=>by simp;exact fun e=>D.ne.2.2 (e▸hb))
   ·show st.next<=b/\b<s2.next;rcases hb with rfl|rfl|hb|hb|hb
    ·omega
    ·omega
    ·have:=lF b hb;omega
    ·have:=lc b hb;omega
    ·have:=SZ b hb;omega
   ·refine⟨(D.dc b hb).1,(D.dc b hb).2.1,(D.dc b hb).2.2.1,fun h=> ?_⟩;rcases(SZ b h).2.2 with h2|h2
    ·exact(D.dc b hb).2.2.2 h2
    ·have:=lc b hb;omega
   ·rcases(SZ b hb).2.2 with h|h
    ·exact D.dk b h
    ·exact⟨by omega,by omega,fun h2=>by have:=lF b h2;omega⟩
  ·
    have E8:i=n.kids.length:=by omega
    have e5:n.kids.take i=n.kids:=aAK (by omega);have e6:n.kids.drop i=[]:=aBj (by omega);rw[e5,e6]at D;have An:nK s r F (List.replicate z 0):=by have:=D.rd;cases fV:n.leaf<;>rw[fV]at this<;>simpa[eK]using this
    have NC:∀s',Kp [] s s'->IsNode s' [] (.agg [.bool n.leaf,vc,vk]) n:=fun s' hk=>
     ⟨vc,vk,rfl,(D.oc.keep hk fun b hb=>⟨(lc b hb).2,by simp⟩).sl fun b hb=>⟨by simp,by have:=lc b hb;have:=hk.next;omega⟩,(D.ok.keep hk fun b hb=>⟨(lk b hb).2,by simp⟩).sl fun b hb=>⟨by simp,by have:=lk b hb;have:=hk.next;omega⟩⟩
    have fin:us (bh .slice v s) fun jC=>R 156 [.ptr r 0] s fun jz iL=>us (aj .sub none false jC jz iL) fun jy=>us (aL 1 v (some jy) none iL) fun jN=>R 117 [.ptr r 0] iL fun jq dd=>us (lj .not jq dd) fun iV=>
     us (aY (ak false iV) dd (aI 3 (.ptr b9 0) dd)) fun jK=>fp (ak false iV) dd (fun k=>R 145 [jK] dd k) fun jM kO=>us (aY (ak false iV) kO (lj .not jM kO)) fun jn=>us (ba iV (.bool true) jn kO) fun lY=>
     us (aY (ak false lY) kO (.ok jN kO)) fun mF=>fp (ak false lY) kO (fun k=>R 178 [mF, .func (.func 179) [] []] kO k) fun oz dj=>us (ba lY (.bool true) oz dj) fun lX=>
     aB lX (us (bD [.bool false, .ae, .ae] [] dj) fun ow=>upon (aP 3 (.ptr b1 0) ow dj) fun _ tP=>us (aI 3 (.ptr b1 0) tP) fun qj=>vE n st (.tuple [qj, .int .i64 4]) tP)
      (us (aI 3 (.ptr b9 0) dj) fun oL=>upon (aP 3 (.ptr b1 0) oL dj) fun _ iK=>us (aI 3 (.ptr b1 0) iK) fun pw=>vE n st (.tuple [pw, .int .i64 0]) iK):=by
     have hv:=h.mono D.kp;rw[hv.len (n.size+z) (by rw[bJ,hlen];omega) (by omega) s,af];refine(IV An).same ?_;have e7:aj .sub none false (I ((n.size+z:Nat):Int)) (I ((List.replicate z (0:UInt8)).length)) s= .ok (I n.size) s:=by rw[aw,dW,aBt,bz (by omega)];congr 2;omega
     obtain⟨v',q1,q2⟩:=hv.lo (n:=n.size+z) (l:=n.size) (by omega) (by rw[bJ,hlen];omega) (by omega) s;rw[e7,af,q1,af];refine(pN An).same ?_;rw[dm,af,aAU];simp only[aH,aAz,aAO,aAT,bo,fh];rw[aQ (n:=3) D.g9 rfl,af];refine(zs (NC s (Kp.refl _ _)) hn (by omega)).mono ?_;rintro _ kO ⟨rfl,Dr⟩
     have e8:ai (List.replicate z 0)=(ai (ma n++List.replicate z 0)).drop (n.size*1):=by
      rw[bE,aCo,aCW (by rw[bJ];rfl)]
     rw[<-e8]at q2;simp only[bo,dm,af,aAU,aG,aH,aAz,aAO,aAT,fh];refine(LR (q2.mono Dr) (by omega)).mono ?_;rintro _ dj ⟨rfl,Pv⟩;have Hz:Kp [] s dj:=Dr.trans Pv (by simp);have auc:=Hz.next;have g98:=(Hz.keep b9 l9.2 (by simp)).trans D.g9;have Sb:=(Hz.keep b1 l1.2 (by simp)).trans D.g1;obtain⟨c1,c2⟩:=D.oc.cr;obtain⟨d1,d2⟩:=D.ok.cr;have jZ:bp [.bool false, .ae, .ae] 0 [.bool n.leaf,vc,vk]=[.bool n.leaf,vc,vk]:=rfl;rw[ag,aAH (by decide),aQ (n:=3) g98 rfl,af,aF,Sb,aR,aX,jZ];refine⟨⟨rfl,by simp[c1,d1],by simp⟩, ?_⟩;rw[aQ (n:=3) (ao _ _ _) rfl,af];have Hy:Kp [] s dj:=Hz;refine⟨_,rfl,(D.kp.trans Hz (by simp)).set _ (.inr l1.1) (by omega),fun X hX=>⟨vc,vk,rfl, ?_, ?_⟩⟩
     ·exact((D.oc.keep Hz fun b hb=>⟨(lc b hb).2,by simp⟩).mono fun b hb=>al _ _ _ _ (D.dc b hb).1).sl fun b hb=>⟨fun h=>by have:=hX b h;have:=lc b hb;omega,by have:=lc b hb;simp;omega⟩
     ·exact((D.ok.keep Hz fun b hb=>⟨(lk b hb).2,by simp⟩).mono fun b hb=>al _ _ _ _ (D.dk b hb).1).sl fun b hb=>⟨fun h=>by have:=hX b h;have:=lk b hb;omega,by have:=lk b hb;simp;omega⟩
    by_cases hle:i<=n.cells.length
    ·have fV:n.leaf=true:=by
      cases h:n.leaf with
      |true=>rfl
      |false=>rw[h,aAH (by decide)]at qB;omega
     rw[aAJ hle];simp only[bo,af,fh];refine(pN An).same ?_;have hg9:=D.g9;simp only[af,aG,aAY,aH,jI,bo,ah,aA,hg9,aq,aAF,aAy,av,dm,fV,aAU,ag,aAz,aAO]
     simpa only[aJ,aK,fV]using fin
    ·rw[aAB hle];simp only[cB,af,xd,aG,aAz,aAO,aH,aAY,jI,ag];exact fin
end
section
variable {st st':St}
theorem oH.sl {k e:Nat}{v x:CV}{L:List CV}(h:oH k e v L st x st'):Kp [] st st'/\Sl st' [] x k L:=by
 obtain⟨F,h1,h2,h3,_⟩:=h;exact⟨h1,h2.sl fun b hb=>⟨by simp,(h3 b hb).2⟩⟩
theorem xv {v:CV}{n:bg}(h:IsNode st [] v n)(hl:n.cells.length<=100000)(hk:n.kids.length<=100001):R 149 [v] st fun x st'=>Kp [] st st'/\∀X,(∀b∈X,b<st.next)->IsNode st' X x n:=by
 obtain⟨vc,vk,rfl,h1,h2⟩:=h;refine bN ?_;rw[agZ];rw[cn,aX];refine⟨rfl, ?_⟩;have k1:Kp [] st (St.new st (.cells [.bool n.leaf,vc,vk] 105 false)):=(Kp.refl [] st).new _;have g1:(St.new st (.cells [.bool n.leaf,vc,vk] 105 false)).mem.get st.next=some (.cells [.bool n.leaf,vc,vk] 105 false):=au _ _;have n1:(St.new st (.cells [.bool n.leaf,vc,vk] 105 false)).next=st.next+1:=rfl;generalize St.new st (.cells [.bool n.leaf,vc,vk] 105 false)=s1 at*;have k2:Kp [] s1 (St.new s1 (.cells [.bool false, .ae, .ae] 105 false)):=(Kp.refl [] s1).new _;have g2:(St.new s1 (.cells [.bool false, .ae, .ae] 105 false)).mem.get s1.next=some (.cells [.bool false, .ae, .ae] 105 false):=au _ _;have n2:(St.new s1 (.cells [.bool false, .ae, .ae] 105 false)).next=s1.next+1:=rfl;rw[cG,aS,bt];generalize St.new s1 (.cells [.bool false, .ae, .ae] 105 false)=s2 at*;have sy:=(k2.keep st.next (by omega) (by simp)).trans g1;have kH:Kp [] st s2:=k1.trans k2 (by simp);simp only[ah,af,aA,sy,aq,aAF,aAA,aAy,av];refine(vx (h1.mono kH) (eM _) (by rw[bL];omega)).mono ?_;intro x7 s3 hc;obtain⟨k3,c3⟩:=hc.sl;have n3:=k3.next;have qa:=(k3.keep st.next (by omega) (by simp)).trans sy;have ku:Kp [] st s3:=kH.trans k3 (by simp);simp only[qa,aq,aAA,aAy,av];refine(zp (h2.mono ku) (jc _) (by rw[oY];omega)).mono ?_;intro db s4 hc4;obtain⟨k4,c4⟩:=hc4.sl;have n4:=k4.next;have LM:=(k4.keep st.next (by omega) (by simp)).trans qa;have PR:=(k4.keep s1.next (by omega) (by simp)).trans ((k3.keep s1.next (by omega) (by simp)).trans g2);have c3':=c3.mono k4;obtain⟨p1,p2,p3⟩:=c3.bG;obtain⟨q1,q2,q3⟩:=c4.bG
 have mC:bD [.bool false, .ae, .ae] [(0,1, .bool n.leaf),(1,1,x7),(2,1,db)] s4= .ok (.agg [.bool n.leaf,x7,db]) s4:=by
  rw[dN];simp[cF,bp,p1,p3,q1,q3]
 have jZ:bp [.bool false, .ae, .ae] 0 [.bool n.leaf,x7,db]=[.bool n.leaf,x7,db]:=rfl;simp only[mC,af,aF,PR,aR,aX,jZ,LM,aq,aAA,aAy,av,aCC,and_true];refine⟨⟨rfl,by simp[p2,q2],by simp⟩, ?_⟩;rw[aQ (n:=3) (ao _ _ _) rfl,af];have k5:Kp [s1.next] s4 (St.set s4 s1.next (.cells [.bool n.leaf,x7,db] 105 false)):=(Kp.refl _ s4).set _ (.inl (by simp)) (by omega);refine⟨(ku.trans k4 (by simp)).set _ (.inr (by omega)) (by omega),fun X hX=>⟨x7,db,rfl, ?_, ?_⟩⟩
 ·obtain⟨F,a1,a2,a3,_⟩:=hc;exact((a2.keep k4 fun b hb=>⟨(a3 b hb).2,by simp⟩).mono fun b hb=>al _ _ _ _ (by have:=(a3 b hb).1;omega)).sl fun b hb=>⟨fun h=>by have:=hX b h;have:=(a3 b hb).1;omega,by have:=(a3 b hb).2;simp;omega⟩
 ·obtain⟨F,a1,a2,a3,_⟩:=hc4;exact(a2.mono fun b hb=>al _ _ _ _ (by have:=(a3 b hb).1;omega)).sl fun b hb=>⟨fun h=>by have:=hX b h;have:=(a3 b hb).1;omega,by have:=(a3 b hb).2;simp;omega⟩
theorem Us {v:CV}{n:bg}{i:Nat}(h:IsNode st [] v n)(hl:n.cells.length<=10000)(hk:n.kids.length=if n.leaf=true then 0 else n.cells.length+1)(hi:i<n.cells.length):
 R 151 [v,I i] st fun x st'=>∃a b,x= .tuple [a, .str (cC n i).2.1,b]/\Kp [] st st'/\(∀X,(∀b∈X,b<st.next)->IsNode st' X a (cC n i).1)/\(∀X,(∀b∈X,b<st.next)->IsNode st' X b (cC n i).2.2):=by
 obtain⟨vc,vk,rfl,h1,h2⟩:=h;refine bN ?_;rw[agX];rw[cn,aX];refine⟨rfl, ?_⟩;have k1:Kp [] st (St.new st (.cells [.bool n.leaf,vc,vk] 105 false)):=(Kp.refl [] st).new _;have g1:(St.new st (.cells [.bool n.leaf,vc,vk] 105 false)).mem.get st.next=some (.cells [.bool n.leaf,vc,vk] 105 false):=au _ _;have n1:(St.new st (.cells [.bool n.leaf,vc,vk] 105 false)).next=st.next+1:=rfl;generalize St.new st (.cells [.bool n.leaf,vc,vk] 105 false)=s1 at*;have k2:Kp [] s1 (St.new s1 (.cells [.bool false, .ae, .ae] 105 false)):=(Kp.refl [] s1).new _;have g2:(St.new s1 (.cells [.bool false, .ae, .ae] 105 false)).mem.get s1.next=some (.cells [.bool false, .ae, .ae] 105 false):=au _ _;have n2:(St.new s1 (.cells [.bool false, .ae, .ae] 105 false)).next=s1.next+1:=rfl;rw[cG,aS];generalize St.new s1 (.cells [.bool false, .ae, .ae] 105 false)=s2 at*;have k3:Kp [] s2 (St.new s2 (.cells [.bool false, .ae, .ae] 105 false)):=(Kp.refl [] s2).new _;have g3:(St.new s2 (.cells [.bool false, .ae, .ae] 105 false)).mem.get s2.next=some (.cells [.bool false, .ae, .ae] 105 false):=au _ _;have n3:(St.new s2 (.cells [.bool false, .ae, .ae] 105 false)).next=s2.next+1:=rfl;rw[cG,aS];generalize St.new s2 (.cells [.bool false, .ae, .ae] 105 false)=s3 at*;have qa:=(k3.keep st.next (by omega) (by simp)).trans ((k2.keep st.next (by omega) (by simp)).trans g1);have HV:=(k3.keep s1.next (by omega) (by simp)).trans g2;have ku:Kp [] st s3:=(k1.trans k2 (by simp)).trans k3 (by simp);have hc3:=h1.mono ku
 have fin:∀(s8 s9:St) (jy pw:CV) (a b:bg),Kp [] s3 s8->Kp [] s8 s9->(∀X,(∀b∈X,b<s3.next)->IsNode s8 X jy a)->(∀X,(∀b∈X,b<s8.next)->IsNode s9 X pw b)->∀(jM:CV) (key:cc),jM= .str key->∀(K:St->St->Prop),(∀df de,Kp [s1.next,s2.next] s9 df->Kp [s1.next,s2.next] s9 de->K df de)->
  upon (aP 3 (.ptr s1.next 0) jy s9) fun _ df=>upon (aP 3 (.ptr s2.next 0) pw df) fun _ de=>K df de/\us (aI 3 (.ptr s1.next 0) de) fun ux=>us (aI 3 (.ptr s2.next 0) de) fun qK=>
   ∃a' b',CV.tuple [ux,jM,qK]= .tuple [a', .str key,b']/\Kp [] st de/\(∀X,(∀b∈X,b<st.next)->IsNode de X a' a)/\(∀X,(∀b∈X,b<st.next)->IsNode de X b' b):=by
  intro s8 s9 jy pw a b q1 q2 h35 h49 jM key e40 K hK;have m8:=q1.next;have m9:=q2.next;have amI:=h35 [s1.next,s2.next] (by simp;omega);obtain⟨c1,d1,rfl,e1,f1⟩:=amI;have amG:=h49 [s1.next,s2.next] (by simp;omega);obtain⟨c2,d2,rfl,e2,f2⟩:=amG;obtain⟨x1,x2,x3⟩:=e1.bG;obtain⟨y1,y2,y3⟩:=f1.bG;obtain⟨z1,z2,z3⟩:=e2.bG;obtain⟨w1,w2,w3⟩:=f2.bG;have q3:Kp [] s3 s9:=q1.trans q2 (by simp);have Zk:=(q3.keep s1.next (by omega) (by simp)).trans HV;have Zj:=(q3.keep s2.next (by omega) (by simp)).trans g3;have jZ:∀a b c:CV,bp [.bool false, .ae, .ae] 0 [a,b,c]=[a,b,c]:=fun a b c=>rfl;rw[aF,Zk,aR,aX,jZ];refine⟨⟨rfl,by simp[x2,y2],by simp⟩, ?_⟩;rw[aF,al _ _ _ _ (by omega),Zj,aR,aX,jZ];refine⟨⟨rfl,by simp[z2,w2],by simp⟩, ?_⟩;have kA:Kp [s1.next,s2.next] s9 (St.set s9 s1.next (.cells [.bool a.leaf,c1,d1] 105 false)):=(Kp.refl _ s9).set _ (.inl (by simp)) (by omega);have kB:Kp [s1.next,s2.next] s9 (St.set (St.set s9 s1.next (.cells [.bool a.leaf,c1,d1] 105 false)) s2.next (.cells [.bool b.leaf,c2,d2] 105 false)):=kA.set _ (.inl (by simp)) (by simp;omega);refine⟨hK _ _ kA kB, ?_⟩;rw[aQ (n:=3) ((al _ _ _ _ (by omega)).trans (ao _ _ _)) rfl,af,aQ (n:=3) (ao _ _ _) rfl,af];refine⟨_,_,by rw[e40],(ku.trans q3 (by simp)).trans kB (by simp;omega),fun X hX=> ?_,fun X hX=> ?_⟩
  ·have:=(h35 (X++[s1.next,s2.next]) (by intro b hb;simp at hb;rcases hb with h|h|h;have:=hX b h;omega;omega;omega)).mono (q2.mono (by simp));exact(this.mono (kB.mono (by simp))).dM (by intro q hq;simp[hq])
  ·have:=h49 (X++[s1.next,s2.next]) (by intro b hb;simp at hb;rcases hb with h|h|h;have:=hX b h;omega;omega;omega);exact(this.mono (kB.mono (by simp))).dM (by intro q hq;simp[hq])
 have hlen:=bL n.cells;obtain⟨bc,pc,lc,tc,gc,u1,u2,u3,u4,u5⟩:=h1.cellAt (L:=n.cells.map aU) (by omega) (fJ _) (i:=i) (by simpa using hi);have u6:=u5 0 (.str n.cells[i].key) (by simp[aU]);rw[aBl]at u6;have HA:=ku.next;have wS:∀s,Kp [] s3 s->s.mem.get st.next=some (.cells [.bool n.leaf,vc,vk] 105 false)/\s.mem.get bc=some (.cells lc tc gc):=fun s hs=>⟨(hs.keep _ (by omega) (by simp)).trans qa,((ku.trans hs (by simp)).keep _ u3 (by simp)).trans u2⟩
 have S8:∀s9 s,Kp [] s3 s9->Kp [s1.next,s2.next] s9 s->s.mem.get st.next=some (.cells [.bool n.leaf,vc,vk] 105 false)/\s.mem.get bc=some (.cells lc tc gc):=fun s9 s h9 hs=>
  ⟨(hs.keep _ (by have:=h9.next;omega) (by simp;omega)).trans (wS s9 h9).1,(hs.keep _ (by have:=h9.next;omega) (by simp;omega)).trans (wS s9 h9).2⟩
 have c48:∀s,Kp [] s3 s->Sl s [] vc 4 (bC n.cells):=fun s hs=>hc3.mono hs;have ckk:∀s,Kp [] s3 s->Sl s [] vk 1 (ck n.kids):=fun s hs=>(h2.mono ku).mono hs;simp only[fl,ah,af,aA,qa,aq,aAF,aAA,aAy,av,ag];cases fV:n.leaf with
 |true=>
  rw[fV,aAI rfl]at hk;rw[aAI rfl,bt];obtain⟨v7,p1,p2⟩:=hc3.hi (n:=n.cells.length) (by omega) hlen (h:=i) (by omega) s3;obtain⟨b1,b2,b3⟩:=p2.bG
  have mC:bD [.bool false, .ae, .ae] [(0,1, .bool true),(1,1,v7)] s3= .ok (.agg [.bool true,v7, .ae]) s3:=by
   rw[dN];simp[cF,bp,b1,b3]
  have HW:=qa;simp only[aA,HW,aq,aAA,aAy,av,p1,af,mC];rw[kz _ _ (by omega)]at p2;refine(xv (n:=⟨true,n.cells.take i,[]⟩) ⟨v7, .ae,rfl,p2, .inl ⟨rfl,rfl⟩⟩ (by simp;omega) (by simp)).mono ?_;rintro x9 s4 ⟨k4,hx9⟩;obtain⟨e1,e2⟩:=wS s4 k4;obtain⟨Qe,p3,p4⟩:=(c48 s4 k4).lo (n:=n.cells.length) (by omega) hlen (l:=i) (by omega) s4;obtain⟨c1,c2,c3⟩:=p4.bG
  have KD:bD [.bool false, .ae, .ae] [(0,1, .bool true),(1,1,Qe)] s4= .ok (.agg [.bool true,Qe, .ae]) s4:=by
   rw[dN];simp[cF,bp,c1,c3]
  simp only[ah,aAF,aBl,aA,e1,e2,u1,u6,aq,aAA,aAy,av,p3,af,KD];rw[kD _ _ (by omega)]at p4;refine(xv (n:=⟨true,n.cells.drop i,[]⟩) ⟨Qe, .ae,rfl,p4, .inl ⟨rfl,rfl⟩⟩ (by simp;omega) (by simp)).mono ?_;rintro eo s5 ⟨k5,V1⟩;have Lz:Kp [] s3 s5:=k4.trans k5 (by simp);obtain⟨e3,e4⟩:=wS s5 Lz;obtain⟨e5,e6⟩:=wS s3 (Kp.refl _ _);have et:cC n i=(⟨true,n.cells.take i,[]⟩,n.cells[i].key,⟨true,n.cells.drop i,[]⟩):=by unfold cC;rw[aAI fV,aAC hi];rfl
  rw[et];simp only[HW,e3,e4,e6,u6,aq,aAA,aAy,av,aCC];refine fin s4 s5 x9 eo _ _ k4 k5 hx9 V1 _ n.cells[i].key rfl (fun df _=>((Lx (df.mem.get st.next) fun l=>SW l[1]? fun v=>v=vc)/\True)/\((Lx (df.mem.get bc) fun l=>SW l[pc]? fun v=>v= .str n.cells[i].key)/\True)/\True) fun df de q1 q2=> ?_;obtain⟨t1,t2⟩:=S8 s5 df Lz q1;simp only[t1,t2,u6,aq,aAA,aAy,av,aCC,and_true]
 |false=>
  rw[fV,aAH (by decide)]at hk;rw[aAH (by decide)];have NI:=(ckk s3 (Kp.refl _ _)).len n.kids.length (by simp) (by omega) s3
  have emm:AW false (I ((i+1:Nat):Int)) (I n.kids.length) s3= .ok (I ((i+1:Nat):Int)) s3:=by
   have e:AW false (I ((i+1:Nat):Int)) (I n.kids.length) s3= .ok (I (if (n.kids.length:Int)<((i+1:Nat):Int)then (n.kids.length:Int)else ((i+1:Nat):Int))) s3:=rfl;rw[e,aAH (by omega)]
  obtain⟨v7,p1,p2⟩:=hc3.hi (n:=n.cells.length) (by omega) hlen (h:=i) (by omega) s3;obtain⟨v8,p5,p6⟩:=(ckk s3 (Kp.refl _ _)).hi (n:=n.kids.length) (by omega) (by simp) (h:=i+1) (by omega) s3;obtain⟨b1,b2,b3⟩:=p2.bG;obtain⟨d1,d2,d3⟩:=p6.bG
  have mC:bD [.bool false, .ae, .ae] [(1,1,v7),(2,1,v8)] s3= .ok (.agg [.bool false,v7,v8]) s3:=by
   rw[dN];simp[cF,bp,b1,b3,d1,d3]
  have HW:=qa;simp only[gF i (by omega),af,fl,ah,aAF,aA,HW,aq,aAA,aAy,av,NI,emm,bt,p1,p5,mC];rw[kz _ _ (by omega)]at p2;rw[aCo,tY]at p6;refine(xv (n:=⟨false,n.cells.take i,n.kids.take (i+1)⟩) ⟨v7,v8,rfl,p2,p6⟩ (by simp;omega) (by simp;omega)).mono ?_;rintro x9 s4 ⟨k4,hx9⟩;obtain⟨e1,e2⟩:=wS s4 k4;obtain⟨Qe,p3,p4⟩:=(c48 s4 k4).lo (n:=n.cells.length) (by omega) hlen (l:=i+1) (by omega) s4;obtain⟨v18,p7,p8⟩:=(ckk s4 k4).lo (n:=n.kids.length) (by omega) (by simp) (l:=i+1) (by omega) s4;obtain⟨c1,c2,c3⟩:=p4.bG;obtain⟨f1,f2,f3⟩:=p8.bG
  have KD:bD [.bool false, .ae, .ae] [(1,1,Qe),(2,1,v18)] s4= .ok (.agg [.bool false,Qe,v18]) s4:=by
   rw[dN];simp[cF,bp,c1,c3,f1,f3]
  simp only[ah,aAF,aBl,aA,e1,e2,u1,u6,aq,aAA,aAy,av,gF i (by omega),p3,p7,af,KD];rw[kD _ _ (by omega)]at p4;rw[aCo,tZ]at p8;refine(xv (n:=⟨false,n.cells.drop (i+1),n.kids.drop (i+1)⟩) ⟨Qe,v18,rfl,p4,p8⟩ (by simp;omega) (by simp;omega)).mono ?_;rintro eo s5 ⟨k5,V1⟩;have Lz:Kp [] s3 s5:=k4.trans k5 (by simp);obtain⟨e3,e4⟩:=wS s5 Lz;obtain⟨e5,e6⟩:=wS s3 (Kp.refl _ _);have et:cC n i=(⟨false,n.cells.take i,n.kids.take (i+1)⟩,n.cells[i].key,⟨false,n.cells.drop (i+1),n.kids.drop (i+1)⟩):=by unfold cC;rw[aAH (by rw[fV];decide),aAC hi];rfl
  rw[et];simp only[HW,e3,e4,e6,u6,aq,aAA,aAy,av,aCC];refine fin s4 s5 x9 eo _ _ k4 k5 hx9 V1 _ n.cells[i].key rfl (fun df _=>((Lx (df.mem.get st.next) fun l=>SW l[1]? fun v=>v=vc)/\True)/\((Lx (df.mem.get bc) fun l=>SW l[pc]? fun v=>v= .str n.cells[i].key)/\True)/\True) fun df de q1 q2=> ?_;obtain⟨t1,t2⟩:=S8 s5 df Lz q1;simp only[t1,t2,u6,aq,aAA,aAy,av,aCC,and_true]
end
section
variable {st st':St}
theorem Qk {n:bg}(hn:n.ok)(hl:n.cells.length<=1000){i:Nat}(hi:i<n.cells.length):BA (cC n i).1/\BA (cC n i).2.2:=by
 have hk:=hn.jf;unfold cC;cases fV:n.leaf with
 |true=>
  have hc:=hn.cell;rw[fV]at hc;rw[aAI rfl];exact⟨⟨fun c h=>hc c (aBp h),by simp,by simp;omega,by simp⟩,⟨fun c h=>hc c (aBv h),by simp,by simp;omega,by simp⟩⟩
 |false=>
  have hc:=hn.cell;rw[fV]at hc;rw[fV,aAH (by decide)]at hk;rw[aAH (by decide)];exact⟨⟨fun c h=>hc c (aBp h),fun k h=>hn.A8 k (aBp h),by simp;omega,by simp;omega⟩,⟨fun c h=>hc c (aBv h),fun k h=>hn.A8 k (aBv h),by simp;omega,by simp;omega⟩⟩
theorem BA.size {n:bg}(h:BA n):n.size<=200000:=by
 have h1:=mZ (leaf:=n.leaf) (l:=n.cells) h.cell;have h2:=oZ (l:=n.kids) h.A8;have h3:=h.cells;have h4:=h.kids;have h5:(uv n.cells.length).length<=2:=pE (by omega);rw[bX]
 split<;>omega
theorem AE {p:Nat}{vc vk:CV}{n:bg}{i:Nat}(hf:cY st)(hp:p<st.next)(hg:st.mem.get p=some (.cells [.bool n.leaf,vc,vk] 105 false))(h1:Sl st [] vc 4 (bC n.cells))(h2:Sl st [] vk 1 (ck n.kids))(hn:n.ok)(hl:n.cells.length<=1000)(hi:i<n.cells.length):
 R 150 [I i, .ptr p 0] st fun x st'=>x=I (gz n i)/\Kp [] st st':=by
 refine bN ?_;rw[agY];rw[aQ (n:=3) hg rfl,af];refine(Us ⟨vc,vk,rfl,h1,h2⟩ (by omega) hn.jf hi).mono ?_;rintro _ s1 ⟨a,b,rfl,k1,ha,hb⟩;obtain⟨nb1,nb2⟩:=Qk hn hl hi;have Zb:=ha [] (by simp);have Gv:=hb [] (by simp);obtain⟨c1,d1,rfl,e1,f1⟩:=Zb;obtain⟨c2,d2,rfl,e2,f2⟩:=Gv;obtain⟨x1,x2,x3⟩:=e1.bG;obtain⟨y1,y2,y3⟩:=f1.bG;obtain⟨z1,z2,z3⟩:=e2.bG;obtain⟨w1,w2,w3⟩:=f2.bG;have g2:(St.new s1 (.cells [.bool false, .ae, .ae] 105 false)).mem.get s1.next=some (.cells [.bool false, .ae, .ae] 105 false):=au _ _;have g3:(St.new (St.new s1 (.cells [.bool false, .ae, .ae] 105 false)) (.cells [.bool false, .ae, .ae] 105 false)).mem.get (s1.next+1)=some (.cells [.bool false, .ae, .ae] 105 false):=au (St.new s1 (.cells [.bool false, .ae, .ae] 105 false)) _;have Ot:(St.new (St.new s1 (.cells [.bool false, .ae, .ae] 105 false)) (.cells [.bool false, .ae, .ae] 105 false)).mem.get s1.next=some (.cells [.bool false, .ae, .ae] 105 false):=(aZ _ _ _ (by simp)).trans g2;have n3:(St.new (St.new s1 (.cells [.bool false, .ae, .ae] 105 false)) (.cells [.bool false, .ae, .ae] 105 false)).next=s1.next+2:=rfl;have k3:Kp [] s1 (St.new (St.new s1 (.cells [.bool false, .ae, .ae] 105 false)) (.cells [.bool false, .ae, .ae] 105 false)):=((Kp.refl [] s1).new _).new _;have y0:(St.new s1 (.cells [.bool false, .ae, .ae] 105 false)).next=s1.next+1:=rfl;simp only[aD,aN,af,cG,aS,y0];generalize St.new (St.new s1 (.cells [.bool false, .ae, .ae] 105 false)) (.cells [.bool false, .ae, .ae] 105 false)=s3 at*;have jZ:∀a b c:CV,bp [.bool false, .ae, .ae] 0 [a,b,c]=[a,b,c]:=fun a b c=>rfl;rw[aF,Ot,aR,aX,jZ];refine⟨⟨rfl,by simp[x2,y2],by simp⟩, ?_⟩;rw[aF,al _ _ _ _ (by omega),g3,aR,aX,jZ];refine⟨⟨rfl,by simp[z2,w2],by simp⟩, ?_⟩;have kA:Kp [] s1 (St.set s3 s1.next (.cells [.bool (cC n i).1.leaf,c1,d1] 105 false)):=k3.set _ (.inr (aAE _)) (by omega)
 have kB:Kp [] s1 (St.set (St.set s3 s1.next (.cells [.bool (cC n i).1.leaf,c1,d1] 105 false)) (s1.next+1) (.cells [.bool (cC n i).2.2.leaf,c2,d2] 105 false)):=kA.set _ (.inr (by omega)) (by simp;omega);have gA:(St.set (St.set s3 s1.next (.cells [.bool (cC n i).1.leaf,c1,d1] 105 false)) (s1.next+1) (.cells [.bool (cC n i).2.2.leaf,c2,d2] 105 false)).mem.get s1.next=some (.cells [.bool (cC n i).1.leaf,c1,d1] 105 false):=(al _ _ _ _ (by omega)).trans (ao _ _ _);have gB:(St.set (St.set s3 s1.next (.cells [.bool (cC n i).1.leaf,c1,d1] 105 false)) (s1.next+1) (.cells [.bool (cC n i).2.2.leaf,c2,d2] 105 false)).mem.get (s1.next+1)=some (.cells [.bool (cC n i).2.2.leaf,c2,d2] 105 false):=ao _ _ _;have nB:(St.set (St.set s3 s1.next (.cells [.bool (cC n i).1.leaf,c1,d1] 105 false)) (s1.next+1) (.cells [.bool (cC n i).2.2.leaf,c2,d2] 105 false)).next=s1.next+2:=n3;generalize St.set (St.set s3 s1.next (.cells [.bool (cC n i).1.leaf,c1,d1] 105 false)) (s1.next+1) (.cells [.bool (cC n i).2.2.leaf,c2,d2] 105 false)=s5 at*;have E7:Kp [] st s5:=k1.trans kB (by simp);rw[bt,aQ (n:=3) gA rfl,af];refine(vC (E7.fresh hf) (n:=(cC n i).1) ⟨c1,d1,rfl,e1.mono kB,f1.mono kB⟩ nb1).mono ?_;intro x9 s6 m6;have k6:=m6.kp;have gB6:=(k6.keep _ (by omega) (by simp)).trans gB;rw[(m6.sl [] (by simp)).len (cC n i).1.size (by simp[bg.size]) (by omega) s6,af,aQ (n:=3) gB6 rfl,af];refine(vC (k6.fresh (E7.fresh hf)) (n:=(cC n i).2.2) ⟨c2,d2,rfl,(e2.mono kB).mono k6,(f2.mono kB).mono k6⟩ nb2).mono ?_;intro dx s7 m7;have k7:=m7.kp;rw[(m7.sl [] (by simp)).len (cC n i).2.2.size (by simp[bg.size]) (by omega) s7,af];have sa:=nb1.size;have sb:=nb2.size;rw[aQ (n:=3) gB rfl];have es:∀s,aj .sub none false (I (cC n i).1.size) (I (cC n i).2.2.size) s= .ok (I (((cC n i).1.size:Int)-(cC n i).2.2.size)) s:=fun s=>by rw[aw,dW,bz (by omega)]
 have en:∀s,lj .neg (I (((cC n i).1.size:Int)-(cC n i).2.2.size)) s= .ok (I (-(((cC n i).1.size:Int)-(cC n i).2.2.size))) s:=fun s=>by
  have:lj .neg (I (((cC n i).1.size:Int)-(cC n i).2.2.size)) s= .ok (I (IntKind.i64.wrap (0-(((cC n i).1.size:Int)-(cC n i).2.2.size)))) s:=rfl;rw[this,bz (by omega)];congr 2;omega
 have em:∀(a b:Int) s,AW true (I a) (I b) s= .ok (I (if a<b then b else a)) s:=fun a b s=>rfl;simp only[es,af,en,em,aCC,and_true];refine⟨?_,(E7.trans k6 (by simp)).trans k7 (by simp)⟩;unfold gz
 congr 1
 split<;>omega
theorem Pj {v:CV}{n:bg}(hf:cY st)(h:IsNode st [] v n)(hn:n.ok)(hl:n.cells.length<=1000)(NP:cq n<n.cells.length):
 R 109 [v] st fun x st'=>∃a b,x= .tuple [a, .str (wo n).2.1,b]/\Kp [] st st'/\(∀X,(∀b∈X,b<st.next)->IsNode st' X a (wo n).1)/\(∀X,(∀b∈X,b<st.next)->IsNode st' X b (wo n).2.2):=by
 obtain⟨vc,vk,rfl,h1,h2⟩:=h;refine bN ?_;rw[ahF];rw[cn,aX];refine⟨rfl, ?_⟩;have k1:Kp [] st (St.new st (.cells [.bool n.leaf,vc,vk] 105 false)):=(Kp.refl [] st).new _;have g1:(St.new st (.cells [.bool n.leaf,vc,vk] 105 false)).mem.get st.next=some (.cells [.bool n.leaf,vc,vk] 105 false):=au _ _;have n1:(St.new st (.cells [.bool n.leaf,vc,vk] 105 false)).next=st.next+1:=rfl;generalize St.new st (.cells [.bool n.leaf,vc,vk] 105 false)=s1 at*;have k2:Kp [] s1 (St.new s1 (.cells [.bool false, .ae, .ae] 105 false)):=(Kp.refl [] s1).new _;have g2:(St.new s1 (.cells [.bool false, .ae, .ae] 105 false)).mem.get s1.next=some (.cells [.bool false, .ae, .ae] 105 false):=au _ _;have n2:(St.new s1 (.cells [.bool false, .ae, .ae] 105 false)).next=s1.next+1:=rfl;rw[cG,aS];generalize St.new s1 (.cells [.bool false, .ae, .ae] 105 false)=s2 at*;have k3:Kp [] s2 (St.new s2 (.cells [.bool false, .ae, .ae] 105 false)):=(Kp.refl [] s2).new _;have g3:(St.new s2 (.cells [.bool false, .ae, .ae] 105 false)).mem.get s2.next=some (.cells [.bool false, .ae, .ae] 105 false):=au _ _;have n3:(St.new s2 (.cells [.bool false, .ae, .ae] 105 false)).next=s2.next+1:=rfl;rw[cG,aS];generalize St.new s2 (.cells [.bool false, .ae, .ae] 105 false)=s3 at*;have qa:=(k3.keep st.next (by omega) (by simp)).trans ((k2.keep st.next (by omega) (by simp)).trans g1);have HV:=(k3.keep s1.next (by omega) (by simp)).trans g2;have ku:Kp [] st s3:=(k1.trans k2 (by simp)).trans k3 (by simp)
 have go:∀Q:CV->St->Prop,(∀x s,(∃a b,x= .tuple [a, .str (wo n).2.1,b]/\Kp [] st s/\(∀X,(∀b∈X,b<st.next)->IsNode s X a (wo n).1)/\(∀X,(∀b∈X,b<st.next)->IsNode s X b (wo n).2.2))->Q x s)->∀b0:Nat,b0=cq n->
  c8 (fun mr s9 Dr=>fl 1 (ar 0 mr) s9 fun eo=>us (bh .slice eo s9) fun eF=>us (aj .lss none false (ar 5 mr) eF s9) fun dJ=>
   aB dJ (fB R (ar 3 mr) [ar 5 mr] s9 fun eT df=>fB R (ar 3 mr) [ar 4 mr] df fun fj de=>us (aj .lss none false eT fj de) fun fO=>
    aB fO (us (aj .add none true (ar 5 mr) (.int .i64 1) de) fun gu=>Dr [ar 0 mr,ar 1 mr,ar 2 mr,ar 3 mr,ar 5 mr,gu] de)
     (us (aj .add none true (ar 5 mr) (.int .i64 1) de) fun gZ=>Dr [ar 0 mr,ar 1 mr,ar 2 mr,ar 3 mr,ar 4 mr,gZ] de))
    (us (aI 3 (ar 0 mr) s9) fun iB=>R 151 [iB,ar 4 mr] s9 fun gP bU=>us (az gP 0 bU) fun iN=>us (az gP 1 bU) fun iA=>us (az gP 2 bU) fun jD=>
     upon (aP 3 (ar 1 mr) iN bU) fun _ ep=>upon (aP 3 (ar 2 mr) jD ep) fun _ eV=>us (aI 3 (ar 1 mr) eV) fun iW=>us (aI 3 (ar 2 mr) eV) fun jC=>Q (.tuple [iW,iA,jC]) eV))
   [.ptr st.next 0, .ptr s1.next 0, .ptr s2.next 0, .func (.func 150) [] [.ptr st.next 0],I b0,I ((b0+1:Nat):Int)] s3:=by
  intro Q hQ b0 Gv;refine bK (fun fu vs s=>∃i b:Nat,i+fu=n.cells.length/\b<i/\cq n<=b/\vs=[.ptr st.next 0, .ptr s1.next 0, .ptr s2.next 0, .func (.func 150) [] [.ptr st.next 0],I b,I i]/\Kp [] s3 s/\rI n fu i b=gT n) ?_ (n:=n.cells.length-(cq n+1)) ⟨b0+1,b0,by omega,by omega,by omega,rfl,Kp.refl _ _,by rw[Gv];rfl⟩;rintro fu vs s k ⟨i,b,hi,hbi,hfb,rfl,hk,Bk⟩ next;have lI:Kp [] st s:=ku.trans hk (by simp);have gs:=(hk.keep st.next (by omega) (by simp)).trans qa;have gs2:=(hk.keep s1.next (by omega) (by simp)).trans HV;have gs3:=(hk.keep s2.next (by omega) (by simp)).trans g3;have hns:=hk.next;have hlen:=(h1.mono lI).len n.cells.length (bL _) (by omega) s;simp only[aJ,aK,fl,ah,af,aA,gs,aq,aAF,aAA,aAy,av,hlen,dv,ag]
  by_cases hc:i<n.cells.length
  ·obtain⟨f,rfl⟩:∃f,fu=f+1:=⟨fu-1,by omega⟩;rw[aAJ hc,aAI rfl,dP];simp only[aBf,aBC];refine(AE (lI.fresh hf) (by omega) gs (h1.mono lI) (h2.mono lI) hn hl hc).mono ?_;rintro _ df ⟨rfl,so⟩;have oC:Kp [] st df:=lI.trans so (by simp);rw[dP];simp only[aBf,aBC];refine(AE (oC.fresh hf) (by have:=so.next;omega) ((so.keep st.next (by omega) (by simp)).trans gs) (h1.mono oC) (h2.mono oC) hn hl (i:=b) (by omega)).mono ?_;rintro _ de ⟨rfl,qy⟩;simp only[dv,af,ag,gF i (by omega)];have acd:Kp [] s3 de:=(hk.trans so (by simp)).trans qy (by simp);simp only[rI]at Bk
   by_cases hu:gz n i<gz n b
   ·rw[aAJ hu,aAI rfl];rw[aAI hu]at Bk;exact next f _ _ (by omega) ⟨i+1,i,by omega,by omega,by omega,rfl,acd,Bk⟩
   ·rw[aAB hu,aAH (by decide)];rw[aAH hu]at Bk;exact next f _ _ (by omega) ⟨i+1,b,by omega,by omega,by omega,rfl,acd,Bk⟩
  ·have hfu:fu=0\/n.cells.length<i:=by omega
   have hb:b=gT n:=by
    rcases hfu with rfl|h
    ·exact Bk
    ·omega
   subst hb;have hlt:=(xf n NP).2.1;rw[aAB hc,aAH (by decide),aQ (n:=3) gs rfl,af];refine(Us ⟨vc,vk,rfl,h1.mono lI,h2.mono lI⟩ (by omega) hn.jf hlt).mono ?_;rintro _ bU ⟨a,b,rfl,qH,ha,hb⟩;have M3:=qH.next;have gA:=(qH.keep s1.next (by omega) (by simp)).trans gs2;have gB:=(qH.keep s2.next (by omega) (by simp)).trans gs3;have ha':=ha [s1.next,s2.next] (by simp;omega);have py:=hb [s1.next,s2.next] (by simp;omega);obtain⟨c1,d1,rfl,e1,f1⟩:=ha';obtain⟨c2,d2,rfl,e2,f2⟩:=py;obtain⟨x1,x2,x3⟩:=e1.bG;obtain⟨y1,y2,y3⟩:=f1.bG;obtain⟨z1,z2,z3⟩:=e2.bG;obtain⟨w1,w2,w3⟩:=f2.bG;have jZ:∀a b c:CV,bp [.bool false, .ae, .ae] 0 [a,b,c]=[a,b,c]:=fun a b c=>rfl;simp only[aD,aN,af];rw[aF,gA,aR,aX,jZ];refine⟨⟨rfl,by simp[x2,y2],by simp⟩, ?_⟩;rw[aF,al _ _ _ _ (by omega),gB,aR,aX,jZ];refine⟨⟨rfl,by simp[z2,w2],by simp⟩, ?_⟩;rw[aQ (n:=3) ((al _ _ _ _ (by omega)).trans (ao _ _ _)) rfl,af,aQ (n:=3) (ao _ _ _) rfl,af];have kB:Kp [s1.next,s2.next] bU (St.set (St.set bU s1.next (.cells [.bool (cC n (gT n)).1.leaf,c1,d1] 105 false)) s2.next (.cells [.bool (cC n (gT n)).2.2.leaf,c2,d2] 105 false)):=((Kp.refl _ bU).set (p:=s1.next) _ (.inl (by simp)) (by omega)).set (p:=s2.next) _ (.inl (by simp)) (by simp;omega);refine hQ _ _ ⟨_,_,rfl,(lI.trans qH (by simp)).trans kB (by simp;omega),fun X hX=> ?_,fun X hX=> ?_⟩
   ·have:=ha (X++[s1.next,s2.next]) (by intro b hb;simp at hb;rcases hb with h|h|h;have:=hX b h;omega;omega;omega);exact(this.mono (kB.mono (by simp))).dM (by intro q hq;simp[hq])
   ·have:=hb (X++[s1.next,s2.next]) (by intro b hb;simp at hb;rcases hb with h|h|h;have:=hX b h;omega;omega;omega);exact(this.mono (kB.mono (by simp))).dM (by intro q hq;simp[hq])
 have Jh:=(h1.mono ku).len n.cells.length (bL _) (by omega) s3;simp only[cN,aJ,aK,fl,ah,af,aA,qa,aq,aAF,aAA,aAy,av,ag,Jh,l6];unfold cq at NP;cases fV:n.leaf with
 |true=>
  rw[fV,aAI rfl]at NP;have e1:aj .leq none false (I n.cells.length) (.int .i64 1) s3= .ok (.bool false) s3:=by rw[aw,oT,aAB (by omega)]
  have e2:aj .add none true (.int .i64 1) (.int .i64 1) s3= .ok (I ((1+1:Nat):Int)) s3:=rfl;rw[aAI rfl,e1,af,ag,aAH (by decide),e2,af];have:=go _ (fun x s h=>h) 1 (by unfold cq;rw[fV,aAI rfl]);simp only[fl,aJ,aK]at this⊢;exact this
 |false=>
  rw[fV,aAH (by decide)]at NP;have e1:aj .leq none false (I n.cells.length) (.int .i64 0) s3= .ok (.bool false) s3:=by rw[aw,oT,aAB (by omega)]
  have e2:aj .add none true (.int .i64 0) (.int .i64 1) s3= .ok (I ((0+1:Nat):Int)) s3:=rfl;rw[aAH (by decide),e1,af,ag,aAH (by decide),e2,af];have:=go _ (fun x s h=>h) 0 (by unfold cq;rw[fV,aAH (by decide)]);simp only[fl,aJ,aK]at this⊢;exact this
end
