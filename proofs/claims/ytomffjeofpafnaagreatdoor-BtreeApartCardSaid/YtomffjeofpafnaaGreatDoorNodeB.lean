import Derived.Test.YtomffjeofpafnaaGreatDoorNodeA
namespace Lim
open Go
noncomputable section
set_option maxRecDepth 100000
section
variable {st st':St}
theorem Ml {X:List Nat}{v:CV}{z:Nat}(hs:Sl st X v 1 (ai (List.replicate z 0)))(hl:z<=1000000):R 178 [v, .func (.func 179) [] []] st fun x st'=>x= .bool false/\Kp [] st st':=by
 refine bO ?_;rw[ahb]
 have key:R 200 [v, .func (.func 179) [] []] st fun x st'=>x= .int .i64 (-1)/\Kp [] st st':=by
  refine bO ?_;rw[agP];have hlen:=hs.len z (by simp) (by omega) st;simp only[db,aK,aL,hlen,af];refine bM (fun fu vs s=>∃i,fu+i=z/\vs=[v, .func (.func 179) [] [],I z,I i]/\Kp [] st s) ?_ (n:=z) ⟨0,rfl,rfl,Kp.refl _ _⟩;rintro fu vs s k ⟨i,hi,rfl,oV⟩ next;simp only[aK,aL,dM,af,ag]
  by_cases hc:i<z
  ·rw[aBc hc,aBb rfl];have Ma:=(hs.ef (Y:=[]) (by simp)).mono oV;refine Ma.idx (i:=i) (by simpa using hc) _ ?_;have e:(ai (List.replicate z 0))[i]'(by simpa using hc)= .int .u8 0:=by simp[ai,bN]
   rw[e,dQ];simp only[aBw,aBQ];refine bO ?_;rw[aha];simp only[av,fj,aBV,aBm,af,ag,aAR,aBf];have a1:=ik i (by omega) s none;rw[av]at a1;rw[a1,af];exact next (fu-1) _ _ (by omega) ⟨i+1,by omega,rfl,oV⟩
  ·rw[aAW hc,aAZ (by decide)];exact⟨trivial,oV⟩
 refine key.mono ?_;rintro _ s ⟨rfl,h⟩;simp[h]
structure Dec (mT s:St)(b1 b9 r:Nat)(F:List Nat)(leaf:Bool)(vc vk:CV)(cells:List da)(kids:List Nat)(L:List UInt8)(Fc Fk:List Nat):Prop where
 kp:Kp [] mT s
 g1:s.mem.get b1=some (.cells [.bool false, .ae, .ae] 105 false)
 g9:s.mem.get b9=some (.cells [.bool leaf,vc,vk] 105 false)
 rd:nP s r F L
 oc:Own s vc 4 109 (bj cells) Fc
 ok:Own s vk 1 3 (bU kids) Fk
 lt:∀b,b=b1\/b=b9\/b∈F\/b∈Fc\/b∈Fk->mT.next<=b/\b<s.next
 ne:b1≠b9/\b1∉F/\b9∉F
 dc:∀b∈Fc,b≠b1/\b≠b9/\b∉F/\b∉Fk
 dk:∀b∈Fk,b≠b1/\b≠b9/\b∉F
def vP (n:aZ)(st:St)(y:CV)(st':St):Prop:=∃x,y= .tuple [x,I 0]/\Kp [] st st'/\∀X,(∀b∈X,b<st.next)->IsNode st' X x n
theorem LD {v:CV}{n:aZ}{z:Nat}(hf:cT st)(h:Sl st [] v 1 (ai (lY n++List.replicate z 0)))(hn:n.ok)(hl:n.size+z<=512):R 138 [v] st (vP n st):=by
 have oF:n.cells.length<=512:=by
  have:=dZ n.leaf n.cells;rw[bS]at hl;omega
 refine bO ?_;rw[ahG];have k1:Kp [] st (St.new st (.cells [.bool false, .ae, .ae] 105 false)):=(Kp.refl [] st).new _;have g1:(St.new st (.cells [.bool false, .ae, .ae] 105 false)).mem.get st.next=some (.cells [.bool false, .ae, .ae] 105 false):=aq _ _;have n1:(St.new st (.cells [.bool false, .ae, .ae] 105 false)).next=st.next+1:=rfl;rw[cM,aT];generalize St.new st (.cells [.bool false, .ae, .ae] 105 false)=s1 at*;have hlen:(lY n++List.replicate z 0).length=n.size+z:=by rw[aAY,aBz];rfl
 have e1:aj .gtr none true (I ((n.size+z:Nat):Int)) (.int .i64 512) s1= .ok (.bool false) s1:=by rw[av,dj,aAW (by omega)]
 rw[(h.mono k1).len (n.size+z) (by rw[bF,hlen];omega) (by omega) s1];simp only[af,e1,ag,aAR,aBf];refine(vh (h.mono k1) (by omega)).mono ?_;rintro _ s3 ⟨r,F,rfl,k3,rd3,Dw⟩;have Pq:∀b∈F,b<s3.next:=by obtain⟨q,vv,G,rfl,_,h,_⟩:=rd3;exact h
 have e2:lY n++List.replicate z 0=uv (if n.leaf=true then 1 else 0)++(uv n.cells.length++(cJ n.leaf n.cells++((if n.leaf=true then []else eK n.kids)++List.replicate z 0))):=by unfold lY;simp
 rw[e2]at rd3;refine(Nx rd3).mono ?_;rintro _ s4 ⟨rfl,k4,n4,rd4⟩;have mP:bJ [.bool false, .ae, .ae] [(0,1, .bool n.leaf)] s4= .ok (.agg [.bool n.leaf, .ae, .ae]) s4:=rfl;rw[mP,af];refine rq rfl rfl rfl ?_;have n31:=k3.next;have g4:=(k4.keep st.next (by omega) (fun h=>by have:=Dw _ h;omega)).trans ((k3.keep st.next (by omega) (by simp)).trans g1);have k5:Kp [] s4 (St.new s4 (.cells [.bool n.leaf, .ae, .ae] 105 false)):=(Kp.refl _ s4).new _;have SN:Kp [] st s4:=(k1.trans k3 (by simp)).trans k4 fun q hq=> .inr (by have:=Dw q hq;omega)
 have lt0:∀b,b=st.next\/b=s4.next\/b∈F\/b∈([]:List Nat)\/b∈([]:List Nat)->st.next<=b/\b<(St.new s4 (.cells [.bool n.leaf, .ae, .ae] 105 false)).next:=by
  intro b hb;rcases hb with rfl|rfl|hb|hb|hb
  ·simp;omega
  ·simp;omega
  ·have:=Dw b hb;have:=Pq b hb;simp;omega
  ·cases hb
  ·cases hb
 have D0:Dec st (St.new s4 (.cells [.bool n.leaf, .ae, .ae] 105 false)) st.next s4.next r F n.leaf .ae .ae [] [] (uv n.cells.length++(cJ n.leaf n.cells++((if n.leaf=true then []else eK n.kids)++List.replicate z 0))) [] []:=
  ⟨SN.trans k5 (by simp),(k5.keep _ (by omega) (by simp)).trans g4,aq _ _,rd4.keep k5 (by simp), .inl ⟨rfl,rfl,rfl⟩, .inl ⟨rfl,rfl,rfl⟩,lt0,⟨by omega,fun h=>by have:=Dw _ h;omega,fun h=>by have:=Pq _ h;omega⟩,by simp,by simp⟩
 generalize hb9:s4.next=b9 at*;generalize JH:st.next=b1 at*;have OE:st.next=b1:=JH;generalize St.new s4 (.cells [.bool n.leaf, .ae, .ae] 105 false)=s6 at*;clear g4 k5 SN rd4 k4 n4 rd3 k3 n31 mP;refine jU (fun vs s=>∃vc Fc,vs=[v, .ptr b1 0, .ptr r 0, .ptr b9 0]/\Dec st s b1 b9 r F n.leaf vc .ae n.cells [] ((if n.leaf=true then []else eK n.kids)++List.replicate z 0) Fc []) ?_ ?_
 ·intro qj oN;rw[db];refine(kz (n:=n.cells.length) (m:=512) D0.rd oF (by omega)).mono ?_;rintro _ s7 ⟨rfl,k7,n7,rd7⟩
  have D7:Dec st s7 b1 b9 r F n.leaf .ae .ae [] [] (cJ n.leaf n.cells++((if n.leaf=true then []else eK n.kids)++List.replicate z 0)) [] []:=
   ⟨D0.kp.trans k7 fun q hq=> .inr (D0.lt q (by simp[hq])).1,(k7.keep b1 (D0.lt b1 (by simp)).2 D0.ne.2.1).trans D0.g1,(k7.keep b9 (D0.lt b9 (by simp)).2 D0.ne.2.2).trans D0.g9,rd7, .inl ⟨rfl,rfl,rfl⟩, .inl ⟨rfl,rfl,rfl⟩,fun b hb=>by rw[n7];exact D0.lt b hb,D0.ne,by simp,by simp⟩
  simp only[aK,aL];refine bM (fun fu vs s=>∃i vc Fc,fu+i=n.cells.length/\vs=[v, .ptr b1 0, .ptr r 0, .ptr b9 0,I n.cells.length,I i]/\Dec st s b1 b9 r F n.leaf vc .ae (n.cells.take i) [] (cJ n.leaf (n.cells.drop i)++((if n.leaf=true then []else eK n.kids)++List.replicate z 0)) Fc []) ?_ (n:=n.cells.length) ⟨0, .ae,[],rfl,rfl,by simpa using D7⟩;rintro fu vs s k ⟨i,vc,Fc,hi,rfl,D⟩ next;simp only[aK,aL,dM,af,ag]
  by_cases hc:i<n.cells.length
  ·rw[aBc hc,aBb rfl];refine(pX D.rd).same ?_;simp only[du,af,aBm,ag,aAR,aBf,bG];have O1:cT s:=D.kp.fresh hf;have HP:Kp [] s (St.skip s):=(Kp.refl _ s).skip;have Td:(St.skip s).mem.get b9=some (.cells [.bool n.leaf,vc, .ae] 105 false):=D.g9;have iq:(St.skip s).mem.get s.next=none:=O1 _ (aAU _);have nsk:(St.skip s).next=s.next+1:=rfl;have rdk:=D.rd.keep HP (by simp);have ock:=D.oc.keep HP fun b hb=>⟨(D.lt b (by simp[hb])).2,by simp⟩;have g1k:(St.skip s).mem.get b1=_:=D.g1;generalize St.skip s=sk at*;have l9:=D.lt b9 (by simp);have l1:=D.lt b1 (by simp);have lF:∀b∈F,st.next<=b/\b<s.next:=fun b hb=>D.lt b (by simp[hb]);have lc:∀b∈Fc,st.next<=b/\b<s.next:=fun b hb=>D.lt b (by simp[hb]);simp only[ah,af,az,Td,ar,aAT,aAS,aAQ,au];have vU:=hn.cell _ (aBq hc);rw[aBj hc,fq,aBE]at rdk;refine(Tv rdk vU (fun b hb=>by have:=lF b hb;omega)).mono ?_;rintro _ sl ⟨rfl,kl,rdl⟩;have nl:=kl.next;have WN:s.next∉F:=fun h=>by have:=lF _ h;omega
   have Ff:sl.mem.get s.next=none:=(kl.keep s.next (by omega) WN).trans iq;have gl:=(kl.keep b9 (by omega) D.ne.2.2).trans Td;have g1l:=(kl.keep b1 (by omega) D.ne.2.1).trans g1k;have ocl:=ock.keep kl fun b hb=>⟨by have:=lc b hb;omega,(D.dc b hb).2.2.1⟩;refine DI 48 ocl (by omega) (fun q hq=>by have:=lc q hq;omega) (by omega) Ff rfl rfl rfl (fk _) (by rw[br,aBh];omega) ?_;intro v' s2 F' o2 k2 zx;have gl2:(St.set sl s.next (.cells (CV.agg (aQ n.cells[i])).cK 109 false)).mem.get b9=some (.cells [.bool n.leaf,vc, .ae] 105 false):=(ak _ _ _ _ (by omega)).trans gl;have nn2:=k2.next;have g92:=(k2.keep b9 (by omega) (by simp only[aAX,aCr];exact⟨by omega,fun h=>(D.dc b9 h).2.1 rfl⟩)).trans gl;have sH:=(k2.keep b1 (by omega) (by simp only[aAX,aCr];exact⟨by omega,fun h=>(D.dc b1 h).1 rfl⟩)).trans g1l;have rd2:=rdl.keep k2 (fun b hb=>by simp only[aAX,aCr];exact⟨by have:=lF b hb;omega,fun h=>(D.dc b h).2.2.1 hb⟩);obtain⟨c1,c2⟩:=o2.cq;have kg:bt [.bool n.leaf,vc, .ae] 1 [v']=[.bool n.leaf,v', .ae]:=rfl;simp only[gl2,ar,aAS,aAQ,au,aCV,and_true,ah,af,aH,aAT,g92,aS,c2,kg,ik i (by omega),iq];refine⟨⟨rfl,by simp[c1],by simp⟩, ?_⟩
   have e5:bj (n.cells.take i)++(CV.agg (aQ n.cells[i])).cK=bj (n.cells.take (i+1)):=by
    rw[aBl hc,gj];simp[bj]
   rw[e5]at o2
   have ks:Kp [] st s2:=((D.kp.trans HP (by simp)).trans kl fun q hq=> .inr (lF q hq).1).trans k2 fun q hq=> .inr (by
    rcases aAX.1 hq with rfl|hq
    ·omega
    ·exact(lc q hq).1)
   have Ue:∀b∈F',st.next<=b/\b<s2.next/\(b∈Fc\/sl.next<=b):=fun b hb=>by
    obtain⟨a1,a2⟩:=zx b hb;refine⟨?_,a2,a1⟩;rcases a1 with h|h
    ·exact(lc b h).1
    ·omega
   have X1:b9∉F':=fun h=>by
    rcases(Ue b9 h).2.2 with h|h
    ·exact(D.dc b9 h).2.1 rfl
    ·omega
   refine next (fu-1) _ _ (by omega) ⟨i+1,v',F',by omega,rfl,ks.set _ (.inr l9.1) (by omega), ?_,ao _ _ _, ?_,o2.mono fun b hb=>ak _ _ _ _ (fun e=>X1 (e▸hb)), .inl ⟨rfl,rfl,rfl⟩,fun b hb=> ?_,D.ne,fun b hb=> ?_,by simp⟩
   ·exact(ak _ _ _ _ D.ne.1).trans sH
   ·exact rd2.keep (X:=[b9]) ((Kp.refl _ s2).set (p:=b9) _ (.inl (by simp)) (by omega)) (fun b hb=>by simp;exact fun e=>D.ne.2.2 (e▸hb))
   ·show st.next<=b/\b<s2.next;rcases hb with rfl|rfl|hb|hb|hb
    ·omega
    ·omega
    ·have:=lF b hb;omega
    ·have:=Ue b hb;omega
    ·cases hb
   ·rcases(Ue b hb).2.2 with h|h
    ·exact D.dc b h
    ·exact⟨by omega,by omega,fun h2=>by have:=lF b h2;omega,by simp⟩
  ·rw[aAW hc,aAZ (by decide)];have e5:n.cells.take i=n.cells:=aBa (by omega);have e6:n.cells.drop i=[]:=aBC (by omega);rw[e5,e6]at D;exact oN _ _ ⟨vc,Fc,rfl,by simpa[cJ]using D⟩
 ·rintro _ s7 ⟨vc,Fc,rfl,D7⟩;simp only[db,aK,aL];have rD:=hn.iQ;have ajT:∀s,Own s vc 4 109 (bj n.cells) Fc->(∀b∈Fc,b<s.next)->Sl s [] vc 4 (bj n.cells):=fun s ho hb=>ho.sl fun b h=>⟨by simp,hb b h⟩;refine bM (fun fu vs s=>∃i vk Fk,fu+i=n.kids.length/\vs=[v, .ptr b1 0, .ptr r 0, .ptr b9 0,I i]/\Dec st s b1 b9 r F n.leaf vc vk n.cells (n.kids.take i) ((if n.leaf=true then []else eK (n.kids.drop i))++List.replicate z 0) Fc Fk) ?_ (n:=n.kids.length) ⟨0, .ae,[],rfl,rfl,by simpa using D7⟩;rintro fu vs s k ⟨i,vk,Fk,hi,rfl,D⟩ next;have l9:=D.lt b9 (by simp);have l1:=D.lt b1 (by simp);have lF:∀b∈F,st.next<=b/\b<s.next:=fun b hb=>D.lt b (by simp[hb]);have lc:∀b∈Fc,st.next<=b/\b<s.next:=fun b hb=>D.lt b (by simp[hb]);have lk:∀b∈Fk,st.next<=b/\b<s.next:=fun b hb=>D.lt b (by simp[hb]);have acy:=(ajT s D.oc fun b hb=>(lc b hb).2).len n.cells.length (br _) (by omega) s;have elq:aj .leq none false (I i) (I n.cells.length) s= .ok (.bool (decide (i<=n.cells.length))) s:=by rw[av,nt];congr 2;simp only[aBu];omega
  simp only[aK,aL,fl,ah,af,az,D.g9,ar,aAT,aAS,aAQ,au,acy,elq,aG,aBr]
  by_cases hc:i<n.kids.length
  ·have fp:n.leaf=false:=by
    cases h:n.leaf with
    |false=>rfl
    |true=>rw[h,aBb rfl]at rD;omega
   rw[fp,aAZ (by decide)]at rD;rw[aBc (by omega)];simp only[bh,af,ea];refine(pX D.rd).same ?_;have AN:=D.rd;have hg9:=D.g9;rw[fp]at hg9;rw[aAZ (by rw[fp];decide)]at AN;simp only[af,aF,aBr,aG,iU,bh,ah,az,hg9,ar,aAT,aAQ,au,du,aBk,ag,bG];have O1:cT s:=D.kp.fresh hf;have HP:Kp [] s (St.skip s):=(Kp.refl _ s).skip;have Td:(St.skip s).mem.get b9=some (.cells [.bool false,vc,vk] 105 false):=hg9;have iq:(St.skip s).mem.get s.next=none:=O1 _ (aAU _);have nsk:(St.skip s).next=s.next+1:=rfl;have rdk:=AN.keep HP (by simp);have Y5:=D.ok.keep HP fun b hb=>⟨(lk b hb).2,by simp⟩;have ock:=D.oc.keep HP fun b hb=>⟨(lc b hb).2,by simp⟩;have g1k:(St.skip s).mem.get b1=_:=D.g1;generalize St.skip s=sk at*;simp only[Td,ar,aAS,aAQ,au];rw[aBj hc,nD,aBE]at rdk;have hkm:=hn.By _ (aBq hc);refine(kz (n:=n.kids[i]) (m:=2147483647) rdk hkm (by omega)).mono ?_;rintro _ sl ⟨rfl,kl,nl,rdl⟩;have WN:s.next∉F:=fun h=>by have:=lF _ h;omega
   have Ff:sl.mem.get s.next=none:=(kl.keep s.next (by omega) WN).trans iq;have gl:=(kl.keep b9 (by omega) D.ne.2.2).trans Td;have g1l:=(kl.keep b1 (by omega) D.ne.2.1).trans g1k;have okl:=Y5.keep kl fun b hb=>⟨by have:=lk b hb;omega,(D.dk b hb).2.2⟩;have ocl:=ock.keep kl fun b hb=>⟨by have:=lc b hb;omega,(D.dc b hb).2.2.1⟩;have avM:n.kids.length<=513:=by omega
   refine DI 8 okl (by omega) (fun q hq=>by have:=lk q hq;omega) (by omega) Ff rfl rfl rfl rfl (by rw[py,aBh];omega) ?_;intro v' s2 F' o2 k2 zx;have gl2:(St.set sl s.next (.cells (CV.cK (I n.kids[i])) 3 false)).mem.get b9=some (.cells [.bool false,vc,vk] 105 false):=(ak _ _ _ _ (by omega)).trans gl;have nn2:=k2.next;have g92:=(k2.keep b9 (by omega) (by simp only[aAX,aCr];exact⟨by omega,fun h=>(D.dk b9 h).2.1 rfl⟩)).trans gl;have sH:=(k2.keep b1 (by omega) (by simp only[aAX,aCr];exact⟨by omega,fun h=>(D.dk b1 h).1 rfl⟩)).trans g1l;have rd2:=rdl.keep k2 (fun b hb=>by simp only[aAX,aCr];exact⟨by have:=lF b hb;omega,fun h=>(D.dk b h).2.2 hb⟩);have NX:=ocl.keep k2 (fun b hb=>⟨by have:=lc b hb;omega,by simp only[aAX,aCr];exact⟨by have:=lc b hb;omega,(D.dc b hb).2.2.2⟩⟩);obtain⟨c1,c2⟩:=o2.cq;have kg:bt [.bool false,vc,vk] 2 [v']=[.bool false,vc,v']:=rfl;have abY:bt [.bool false,vc,vk] 2 (CV.cK v')=[.bool false,vc,v']:=by rw[c2];rfl
   simp only[gl2,ar,aAS,aAQ,au,aCV,and_true,ah,af,aH,aAT,g92,aS,c2,kg,ik i (by omega),iq];refine⟨⟨rfl,by simp[c1],by simp⟩, ?_⟩
   have e5:bU (n.kids.take i)++CV.cK (I n.kids[i])=bU (n.kids.take (i+1)):=by
    rw[aBl hc,mO];simp[bU]
   rw[e5]at o2
   have ks:Kp [] st s2:=((D.kp.trans HP (by simp)).trans kl fun q hq=> .inr (lF q hq).1).trans k2 fun q hq=> .inr (by
    rcases aAX.1 hq with rfl|hq
    ·omega
    ·exact(lk q hq).1)
   have Ue:∀b∈F',st.next<=b/\b<s2.next/\(b∈Fk\/sl.next<=b):=fun b hb=>by
    obtain⟨a1,a2⟩:=zx b hb;refine⟨?_,a2,a1⟩;rcases a1 with h|h
    ·exact(lk b h).1
    ·omega
   have X1:b9∉F':=fun h=>by
    rcases(Ue b9 h).2.2 with h|h
    ·exact(D.dk b9 h).2.1 rfl
    ·omega
   refine next (fu-1) _ _ (by omega) ⟨i+1,v',F',by omega,rfl,ks.set _ (.inr l9.1) (by omega),(ak _ _ _ _ D.ne.1).trans sH, ?_, ?_,NX.mono fun b hb=>ak _ _ _ _ (D.dc b hb).2.1,o2.mono fun b hb=>ak _ _ _ _ (fun e=>X1 (e▸hb)),fun b hb=> ?_,D.ne,fun b hb=> ?_,fun b hb=> ?_⟩
   ·rw[fp];exact ao _ _ _
   ·rw[aAZ (by rw[fp];decide)];exact rd2.keep (X:=[b9]) ((Kp.refl _ s2).set (p:=b9) _ (.inl (by simp)) (by omega)) (fun b hb=>by simp;exact fun e=>D.ne.2.2 (e▸hb))
   ·show st.next<=b/\b<s2.next;rcases hb with rfl|rfl|hb|hb|hb
    ·omega
    ·omega
    ·have:=lF b hb;omega
    ·have:=lc b hb;omega
    ·have:=Ue b hb;omega
   ·refine⟨(D.dc b hb).1,(D.dc b hb).2.1,(D.dc b hb).2.2.1,fun h=> ?_⟩;rcases(Ue b h).2.2 with h2|h2
    ·exact(D.dc b hb).2.2.2 h2
    ·have:=lc b hb;omega
   ·rcases(Ue b hb).2.2 with h|h
    ·exact D.dk b h
    ·exact⟨by omega,by omega,fun h2=>by have:=lF b h2;omega⟩
  ·
    have FB:i=n.kids.length:=by omega
    have e5:n.kids.take i=n.kids:=aBa (by omega);have e6:n.kids.drop i=[]:=aBC (by omega);rw[e5,e6]at D;have AN:nP s r F (List.replicate z 0):=by have:=D.rd;cases fp:n.leaf<;>rw[fp]at this<;>simpa[eK]using this
    have Fe:∀s',Kp [] s s'->IsNode s' [] (.agg [.bool n.leaf,vc,vk]) n:=fun s' hk=>
     ⟨vc,vk,rfl,(D.oc.keep hk fun b hb=>⟨(lc b hb).2,by simp⟩).sl fun b hb=>⟨by simp,by have:=lc b hb;have:=hk.next;omega⟩,(D.ok.keep hk fun b hb=>⟨(lk b hb).2,by simp⟩).sl fun b hb=>⟨by simp,by have:=lk b hb;have:=hk.next;omega⟩⟩
    have fin:us (bo .slice v s) fun kL=>R 156 [.ptr r 0] s fun jM fZ=>us (aj .sub none false kL jM fZ) fun jX=>us (aN 1 v (some jX) none fZ) fun kK=>R 117 [.ptr r 0] fZ fun jK cD=>us (mo .not jK cD) fun ko=>
     us (bg (al false ko) cD (aI 3 (.ptr b9 0) cD)) fun lT=>gE (al false ko) cD (fun k=>R 145 [lT] cD k) fun lq kx=>us (bg (al false ko) kx (mo .not lq kx)) fun mz=>us (bk ko (.bool true) mz kx) fun nU=>
     us (bg (al false nU) kx (.ok kK kx)) fun oS=>gE (al false nU) kx (fun k=>R 178 [oS, .func (.func 179) [] []] kx k) fun qT cC=>us (bk nU (.bool true) qT cC) fun og=>
     aB og (us (bJ [.bool false, .ae, .ae] [] cC) fun qQ=>upon (aR 3 (.ptr b1 0) qQ cC) fun _ wa=>us (aI 3 (.ptr b1 0) wa) fun tp=>vP n st (.tuple [tp, .int .i64 4]) wa)
      (us (aI 3 (.ptr b9 0) cC) fun qP=>upon (aR 3 (.ptr b1 0) qP cC) fun _ jn=>us (aI 3 (.ptr b1 0) jn) fun qA=>vP n st (.tuple [qA, .int .i64 0]) jn):=by
     have hv:=h.mono D.kp;rw[hv.len (n.size+z) (by rw[bF,hlen];omega) (by omega) s,af];refine(Jh AN).same ?_;have e7:aj .sub none false (I ((n.size+z:Nat):Int)) (I ((List.replicate z (0:UInt8)).length)) s= .ok (I n.size) s:=by rw[av,dJ,aBz,bD (by omega)];congr 2;omega
     obtain⟨v',q1,q2⟩:=hv.lo (n:=n.size+z) (l:=n.size) (by omega) (by rw[bF,hlen];omega) (by omega) s;rw[e7,af,q1,af];refine(pX AN).same ?_;rw[du,af,aBm];simp only[aG,aAR,aBf,aBk,bh,ea];rw[aO (n:=3) D.g9 rfl,af];refine(zN (Fe s (Kp.refl _ _)) hn (by omega)).mono ?_;rintro _ kx ⟨rfl,DP⟩
     have e8:ai (List.replicate z 0)=(ai (lY n++List.replicate z 0)).drop (n.size*1):=by
      rw[bH,aCF,aDn (by rw[bF];rfl)]
     rw[<-e8]at q2;simp only[bh,du,af,aBm,aF,aG,aAR,aBf,aBk,ea];refine(Ml (q2.mono DP) (by omega)).mono ?_;rintro _ cC ⟨rfl,L7⟩;have HR:Kp [] s cC:=DP.trans L7 (by simp);have aul:=HR.next;have g98:=(HR.keep b9 l9.2 (by simp)).trans D.g9;have Tj:=(HR.keep b1 l1.2 (by simp)).trans D.g1;obtain⟨c1,c2⟩:=D.oc.cq;obtain⟨d1,d2⟩:=D.ok.cq;have kg:bt [.bool false, .ae, .ae] 0 [.bool n.leaf,vc,vk]=[.bool n.leaf,vc,vk]:=rfl;rw[ag,aAZ (by decide),aO (n:=3) g98 rfl,af,aH,Tj,aS,aU,kg];refine⟨⟨rfl,by simp[c1,d1],by simp⟩, ?_⟩;rw[aO (n:=3) (ao _ _ _) rfl,af];have Oq:Kp [] s cC:=HR;refine⟨_,rfl,(D.kp.trans HR (by simp)).set _ (.inr l1.1) (by omega),fun X hX=>⟨vc,vk,rfl, ?_, ?_⟩⟩
     ·exact((D.oc.keep HR fun b hb=>⟨(lc b hb).2,by simp⟩).mono fun b hb=>ak _ _ _ _ (D.dc b hb).1).sl fun b hb=>⟨fun h=>by have:=hX b h;have:=lc b hb;omega,by have:=lc b hb;simp;omega⟩
     ·exact((D.ok.keep HR fun b hb=>⟨(lk b hb).2,by simp⟩).mono fun b hb=>ak _ _ _ _ (D.dk b hb).1).sl fun b hb=>⟨fun h=>by have:=hX b h;have:=lk b hb;omega,by have:=lk b hb;simp;omega⟩
    by_cases hle:i<=n.cells.length
    ·have fp:n.leaf=true:=by
      cases h:n.leaf with
      |true=>rfl
      |false=>rw[h,aAZ (by decide)]at rD;omega
     rw[aBc hle];simp only[bh,af,ea];refine(pX AN).same ?_;have hg9:=D.g9;simp only[af,aF,aBr,aG,iU,bh,ah,az,hg9,ar,aAT,aAQ,au,du,fp,aBm,ag,aAR,aBf]
     simpa only[aK,aL,fp]using fin
    ·rw[aAW hle];simp only[cc,af,xq,aF,aAR,aBf,aG,aBr,iU,ag];exact fin
end
section
variable {st st':St}
theorem oR.sl {k e:Nat}{v x:CV}{L:List CV}(h:oR k e v L st x st'):Kp [] st st'/\Sl st' [] x k L:=by
 obtain⟨F,h1,h2,h3,_⟩:=h;exact⟨h1,h2.sl fun b hb=>⟨by simp,(h3 b hb).2⟩⟩
theorem xO {v:CV}{n:aZ}(h:IsNode st [] v n)(hl:n.cells.length<=100000)(hk:n.kids.length<=100001):R 149 [v] st fun x st'=>Kp [] st st'/\∀X,(∀b∈X,b<st.next)->IsNode st' X x n:=by
 obtain⟨vc,vk,rfl,h1,h2⟩:=h;refine bO ?_;rw[ahx];rw[cr,aU];refine⟨rfl, ?_⟩;have k1:Kp [] st (St.new st (.cells [.bool n.leaf,vc,vk] 105 false)):=(Kp.refl [] st).new _;have g1:(St.new st (.cells [.bool n.leaf,vc,vk] 105 false)).mem.get st.next=some (.cells [.bool n.leaf,vc,vk] 105 false):=aq _ _;have n1:(St.new st (.cells [.bool n.leaf,vc,vk] 105 false)).next=st.next+1:=rfl;generalize St.new st (.cells [.bool n.leaf,vc,vk] 105 false)=s1 at*;have k2:Kp [] s1 (St.new s1 (.cells [.bool false, .ae, .ae] 105 false)):=(Kp.refl [] s1).new _;have g2:(St.new s1 (.cells [.bool false, .ae, .ae] 105 false)).mem.get s1.next=some (.cells [.bool false, .ae, .ae] 105 false):=aq _ _;have n2:(St.new s1 (.cells [.bool false, .ae, .ae] 105 false)).next=s1.next+1:=rfl;rw[cM,aT,bG];generalize St.new s1 (.cells [.bool false, .ae, .ae] 105 false)=s2 at*;have sH:=(k2.keep st.next (by omega) (by simp)).trans g1;have mV:Kp [] st s2:=k1.trans k2 (by simp);simp only[ah,af,az,sH,ar,aAT,aAS,aAQ,au];refine(sO (h1.mono mV) (dK _) (by rw[br];omega)).mono ?_;intro x7 s3 hc;obtain⟨k3,c3⟩:=hc.sl;have n3:=k3.next;have nH:=(k3.keep st.next (by omega) (by simp)).trans sH;have jf:Kp [] st s3:=mV.trans k3 (by simp);simp only[nH,ar,aAS,aAQ,au];refine(zL (h2.mono jf) (jc _) (by rw[py];omega)).mono ?_;intro dx s4 hc4;obtain⟨k4,c4⟩:=hc4.sl;have n4:=k4.next;have JL:=(k4.keep st.next (by omega) (by simp)).trans nH;have Lp:=(k4.keep s1.next (by omega) (by simp)).trans ((k3.keep s1.next (by omega) (by simp)).trans g2);have c3':=c3.mono k4;obtain⟨p1,p2,p3⟩:=c3.bu;obtain⟨q1,q2,q3⟩:=c4.bu
 have mP:bJ [.bool false, .ae, .ae] [(0,1, .bool n.leaf),(1,1,x7),(2,1,dx)] s4= .ok (.agg [.bool n.leaf,x7,dx]) s4:=by
  rw[dO];simp[cI,bt,p1,p3,q1,q3]
 have kg:bt [.bool false, .ae, .ae] 0 [.bool n.leaf,x7,dx]=[.bool n.leaf,x7,dx]:=rfl;simp only[mP,af,aH,Lp,aS,aU,kg,JL,ar,aAS,aAQ,au,aCV,and_true];refine⟨⟨rfl,by simp[p2,q2],by simp⟩, ?_⟩;rw[aO (n:=3) (ao _ _ _) rfl,af];have k5:Kp [s1.next] s4 (St.set s4 s1.next (.cells [.bool n.leaf,x7,dx] 105 false)):=(Kp.refl _ s4).set _ (.inl (by simp)) (by omega);refine⟨(jf.trans k4 (by simp)).set _ (.inr (by omega)) (by omega),fun X hX=>⟨x7,dx,rfl, ?_, ?_⟩⟩
 ·obtain⟨F,a1,a2,a3,_⟩:=hc;exact((a2.keep k4 fun b hb=>⟨(a3 b hb).2,by simp⟩).mono fun b hb=>ak _ _ _ _ (by have:=(a3 b hb).1;omega)).sl fun b hb=>⟨fun h=>by have:=hX b h;have:=(a3 b hb).1;omega,by have:=(a3 b hb).2;simp;omega⟩
 ·obtain⟨F,a1,a2,a3,_⟩:=hc4;exact(a2.mono fun b hb=>ak _ _ _ _ (by have:=(a3 b hb).1;omega)).sl fun b hb=>⟨fun h=>by have:=hX b h;have:=(a3 b hb).1;omega,by have:=(a3 b hb).2;simp;omega⟩
theorem Vn {v:CV}{n:aZ}{i:Nat}(h:IsNode st [] v n)(hl:n.cells.length<=10000)(hk:n.kids.length=if n.leaf=true then 0 else n.cells.length+1)(hi:i<n.cells.length):
 R 151 [v,I i] st fun x st'=>∃a b,x= .tuple [a, .str (cH n i).2.1,b]/\Kp [] st st'/\(∀X,(∀b∈X,b<st.next)->IsNode st' X a (cH n i).1)/\(∀X,(∀b∈X,b<st.next)->IsNode st' X b (cH n i).2.2):=by
 obtain⟨vc,vk,rfl,h1,h2⟩:=h;refine bO ?_;rw[ahv];rw[cr,aU];refine⟨rfl, ?_⟩;have k1:Kp [] st (St.new st (.cells [.bool n.leaf,vc,vk] 105 false)):=(Kp.refl [] st).new _;have g1:(St.new st (.cells [.bool n.leaf,vc,vk] 105 false)).mem.get st.next=some (.cells [.bool n.leaf,vc,vk] 105 false):=aq _ _;have n1:(St.new st (.cells [.bool n.leaf,vc,vk] 105 false)).next=st.next+1:=rfl;generalize St.new st (.cells [.bool n.leaf,vc,vk] 105 false)=s1 at*;have k2:Kp [] s1 (St.new s1 (.cells [.bool false, .ae, .ae] 105 false)):=(Kp.refl [] s1).new _;have g2:(St.new s1 (.cells [.bool false, .ae, .ae] 105 false)).mem.get s1.next=some (.cells [.bool false, .ae, .ae] 105 false):=aq _ _;have n2:(St.new s1 (.cells [.bool false, .ae, .ae] 105 false)).next=s1.next+1:=rfl;rw[cM,aT];generalize St.new s1 (.cells [.bool false, .ae, .ae] 105 false)=s2 at*;have k3:Kp [] s2 (St.new s2 (.cells [.bool false, .ae, .ae] 105 false)):=(Kp.refl [] s2).new _;have g3:(St.new s2 (.cells [.bool false, .ae, .ae] 105 false)).mem.get s2.next=some (.cells [.bool false, .ae, .ae] 105 false):=aq _ _;have n3:(St.new s2 (.cells [.bool false, .ae, .ae] 105 false)).next=s2.next+1:=rfl;rw[cM,aT];generalize St.new s2 (.cells [.bool false, .ae, .ae] 105 false)=s3 at*;have nH:=(k3.keep st.next (by omega) (by simp)).trans ((k2.keep st.next (by omega) (by simp)).trans g1);have Ir:=(k3.keep s1.next (by omega) (by simp)).trans g2;have jf:Kp [] st s3:=(k1.trans k2 (by simp)).trans k3 (by simp);have hc3:=h1.mono jf
 have fin:∀(s8 s9:St) (jX qA:CV) (a b:aZ),Kp [] s3 s8->Kp [] s8 s9->(∀X,(∀b∈X,b<s3.next)->IsNode s8 X jX a)->(∀X,(∀b∈X,b<s8.next)->IsNode s9 X qA b)->∀(lq:CV) (key:bZ),lq= .str key->∀(K:St->St->Prop),(∀dd dm,Kp [s1.next,s2.next] s9 dd->Kp [s1.next,s2.next] s9 dm->K dd dm)->
  upon (aR 3 (.ptr s1.next 0) jX s9) fun _ dd=>upon (aR 3 (.ptr s2.next 0) qA dd) fun _ dm=>K dd dm/\us (aI 3 (.ptr s1.next 0) dm) fun vV=>us (aI 3 (.ptr s2.next 0) dm) fun uC=>
   ∃a' b',CV.tuple [vV,lq,uC]= .tuple [a', .str key,b']/\Kp [] st dm/\(∀X,(∀b∈X,b<st.next)->IsNode dm X a' a)/\(∀X,(∀b∈X,b<st.next)->IsNode dm X b' b):=by
  intro s8 s9 jX qA a b q1 q2 h35 h49 lq key e40 K hK;have m8:=q1.next;have m9:=q2.next;have ang:=h35 [s1.next,s2.next] (by simp;omega);obtain⟨c1,d1,rfl,e1,f1⟩:=ang;have ane:=h49 [s1.next,s2.next] (by simp;omega);obtain⟨c2,d2,rfl,e2,f2⟩:=ane;obtain⟨x1,x2,x3⟩:=e1.bu;obtain⟨y1,y2,y3⟩:=f1.bu;obtain⟨z1,z2,z3⟩:=e2.bu;obtain⟨w1,w2,w3⟩:=f2.bu;have q3:Kp [] s3 s9:=q1.trans q2 (by simp);have ZQ:=(q3.keep s1.next (by omega) (by simp)).trans Ir;have ZP:=(q3.keep s2.next (by omega) (by simp)).trans g3;have kg:∀a b c:CV,bt [.bool false, .ae, .ae] 0 [a,b,c]=[a,b,c]:=fun a b c=>rfl;rw[aH,ZQ,aS,aU,kg];refine⟨⟨rfl,by simp[x2,y2],by simp⟩, ?_⟩;rw[aH,ak _ _ _ _ (by omega),ZP,aS,aU,kg];refine⟨⟨rfl,by simp[z2,w2],by simp⟩, ?_⟩;have kA:Kp [s1.next,s2.next] s9 (St.set s9 s1.next (.cells [.bool a.leaf,c1,d1] 105 false)):=(Kp.refl _ s9).set _ (.inl (by simp)) (by omega);have kB:Kp [s1.next,s2.next] s9 (St.set (St.set s9 s1.next (.cells [.bool a.leaf,c1,d1] 105 false)) s2.next (.cells [.bool b.leaf,c2,d2] 105 false)):=kA.set _ (.inl (by simp)) (by simp;omega);refine⟨hK _ _ kA kB, ?_⟩;rw[aO (n:=3) ((ak _ _ _ _ (by omega)).trans (ao _ _ _)) rfl,af,aO (n:=3) (ao _ _ _) rfl,af];refine⟨_,_,by rw[e40],(jf.trans q3 (by simp)).trans kB (by simp;omega),fun X hX=> ?_,fun X hX=> ?_⟩
  ·have:=(h35 (X++[s1.next,s2.next]) (by intro b hb;simp at hb;rcases hb with h|h|h;have:=hX b h;omega;omega;omega)).mono (q2.mono (by simp));exact(this.mono (kB.mono (by simp))).ef (by intro q hq;simp[hq])
  ·have:=h49 (X++[s1.next,s2.next]) (by intro b hb;simp at hb;rcases hb with h|h|h;have:=hX b h;omega;omega;omega);exact(this.mono (kB.mono (by simp))).ef (by intro q hq;simp[hq])
 have hlen:=br n.cells;obtain⟨bc,pc,lc,tc,gc,u1,u2,u3,u4,u5⟩:=h1.cellAt (L:=n.cells.map aQ) (by omega) (eV _) (i:=i) (by simpa using hi);have u6:=u5 0 (.str n.cells[i].key) (by simp[aQ]);rw[aBJ]at u6;have HT:=jf.next;have w7:∀s,Kp [] s3 s->s.mem.get st.next=some (.cells [.bool n.leaf,vc,vk] 105 false)/\s.mem.get bc=some (.cells lc tc gc):=fun s hs=>⟨(hs.keep _ (by omega) (by simp)).trans nH,((jf.trans hs (by simp)).keep _ u3 (by simp)).trans u2⟩
 have Ug:∀s9 s,Kp [] s3 s9->Kp [s1.next,s2.next] s9 s->s.mem.get st.next=some (.cells [.bool n.leaf,vc,vk] 105 false)/\s.mem.get bc=some (.cells lc tc gc):=fun s9 s h9 hs=>
  ⟨(hs.keep _ (by have:=h9.next;omega) (by simp;omega)).trans (w7 s9 h9).1,(hs.keep _ (by have:=h9.next;omega) (by simp;omega)).trans (w7 s9 h9).2⟩
 have c48:∀s,Kp [] s3 s->Sl s [] vc 4 (bj n.cells):=fun s hs=>hc3.mono hs;have ckk:∀s,Kp [] s3 s->Sl s [] vk 1 (bU n.kids):=fun s hs=>(h2.mono jf).mono hs;simp only[fl,ah,af,az,nH,ar,aAT,aAS,aAQ,au,ag];cases fp:n.leaf with
 |true=>
  rw[fp,aBb rfl]at hk;rw[aBb rfl,bG];obtain⟨v7,p1,p2⟩:=hc3.hi (n:=n.cells.length) (by omega) hlen (h:=i) (by omega) s3;obtain⟨b1,b2,b3⟩:=p2.bu
  have mP:bJ [.bool false, .ae, .ae] [(0,1, .bool true),(1,1,v7)] s3= .ok (.agg [.bool true,v7, .ae]) s3:=by
   rw[dO];simp[cI,bt,b1,b3]
  have Is:=nH;simp only[az,Is,ar,aAS,aAQ,au,p1,af,mP];rw[jg _ _ (by omega)]at p2;refine(xO (n:=⟨true,n.cells.take i,[]⟩) ⟨v7, .ae,rfl,p2, .inl ⟨rfl,rfl⟩⟩ (by simp;omega) (by simp)).mono ?_;rintro x9 s4 ⟨k4,hx9⟩;obtain⟨e1,e2⟩:=w7 s4 k4;obtain⟨Rn,p3,p4⟩:=(c48 s4 k4).lo (n:=n.cells.length) (by omega) hlen (l:=i) (by omega) s4;obtain⟨c1,c2,c3⟩:=p4.bu
  have Lg:bJ [.bool false, .ae, .ae] [(0,1, .bool true),(1,1,Rn)] s4= .ok (.agg [.bool true,Rn, .ae]) s4:=by
   rw[dO];simp[cI,bt,c1,c3]
  simp only[ah,aAT,aBJ,az,e1,e2,u1,u6,ar,aAS,aAQ,au,p3,af,Lg];rw[jh _ _ (by omega)]at p4;refine(xO (n:=⟨true,n.cells.drop i,[]⟩) ⟨Rn, .ae,rfl,p4, .inl ⟨rfl,rfl⟩⟩ (by simp;omega) (by simp)).mono ?_;rintro eH s5 ⟨k5,WC⟩;have L6:Kp [] s3 s5:=k4.trans k5 (by simp);obtain⟨e3,e4⟩:=w7 s5 L6;obtain⟨e5,e6⟩:=w7 s3 (Kp.refl _ _);have et:cH n i=(⟨true,n.cells.take i,[]⟩,n.cells[i].key,⟨true,n.cells.drop i,[]⟩):=by unfold cH;rw[aBb fp,aAV hi];rfl
  rw[et];simp only[Is,e3,e4,e6,u6,ar,aAS,aAQ,au,aCV];refine fin s4 s5 x9 eH _ _ k4 k5 hx9 WC _ n.cells[i].key rfl (fun dd _=>((L5 (dd.mem.get st.next) fun l=>Y4 l[1]? fun v=>v=vc)/\True)/\((L5 (dd.mem.get bc) fun l=>Y4 l[pc]? fun v=>v= .str n.cells[i].key)/\True)/\True) fun dd dm q1 q2=> ?_;obtain⟨t1,t2⟩:=Ug s5 dd L6 q1;simp only[t1,t2,u6,ar,aAS,aAQ,au,aCV,and_true]
 |false=>
  rw[fp,aAZ (by decide)]at hk;rw[aAZ (by decide)];have OT:=(ckk s3 (Kp.refl _ _)).len n.kids.length (by simp) (by omega) s3
  have emm:Bm false (I ((i+1:Nat):Int)) (I n.kids.length) s3= .ok (I ((i+1:Nat):Int)) s3:=by
   have e:Bm false (I ((i+1:Nat):Int)) (I n.kids.length) s3= .ok (I (if (n.kids.length:Int)<((i+1:Nat):Int)then (n.kids.length:Int)else ((i+1:Nat):Int))) s3:=rfl;rw[e,aAZ (by omega)]
  obtain⟨v7,p1,p2⟩:=hc3.hi (n:=n.cells.length) (by omega) hlen (h:=i) (by omega) s3;obtain⟨v8,p5,p6⟩:=(ckk s3 (Kp.refl _ _)).hi (n:=n.kids.length) (by omega) (by simp) (h:=i+1) (by omega) s3;obtain⟨b1,b2,b3⟩:=p2.bu;obtain⟨d1,d2,d3⟩:=p6.bu
  have mP:bJ [.bool false, .ae, .ae] [(1,1,v7),(2,1,v8)] s3= .ok (.agg [.bool false,v7,v8]) s3:=by
   rw[dO];simp[cI,bt,b1,b3,d1,d3]
  have Is:=nH;simp only[ik i (by omega),af,fl,ah,aAT,az,Is,ar,aAS,aAQ,au,OT,emm,bG,p1,p5,mP];rw[jg _ _ (by omega)]at p2;rw[aCF,uh]at p6;refine(xO (n:=⟨false,n.cells.take i,n.kids.take (i+1)⟩) ⟨v7,v8,rfl,p2,p6⟩ (by simp;omega) (by simp;omega)).mono ?_;rintro x9 s4 ⟨k4,hx9⟩;obtain⟨e1,e2⟩:=w7 s4 k4;obtain⟨Rn,p3,p4⟩:=(c48 s4 k4).lo (n:=n.cells.length) (by omega) hlen (l:=i+1) (by omega) s4;obtain⟨v18,p7,p8⟩:=(ckk s4 k4).lo (n:=n.kids.length) (by omega) (by simp) (l:=i+1) (by omega) s4;obtain⟨c1,c2,c3⟩:=p4.bu;obtain⟨f1,f2,f3⟩:=p8.bu
  have Lg:bJ [.bool false, .ae, .ae] [(1,1,Rn),(2,1,v18)] s4= .ok (.agg [.bool false,Rn,v18]) s4:=by
   rw[dO];simp[cI,bt,c1,c3,f1,f3]
  simp only[ah,aAT,aBJ,az,e1,e2,u1,u6,ar,aAS,aAQ,au,ik i (by omega),p3,p7,af,Lg];rw[jh _ _ (by omega)]at p4;rw[aCF,ui]at p8;refine(xO (n:=⟨false,n.cells.drop (i+1),n.kids.drop (i+1)⟩) ⟨Rn,v18,rfl,p4,p8⟩ (by simp;omega) (by simp;omega)).mono ?_;rintro eH s5 ⟨k5,WC⟩;have L6:Kp [] s3 s5:=k4.trans k5 (by simp);obtain⟨e3,e4⟩:=w7 s5 L6;obtain⟨e5,e6⟩:=w7 s3 (Kp.refl _ _);have et:cH n i=(⟨false,n.cells.take i,n.kids.take (i+1)⟩,n.cells[i].key,⟨false,n.cells.drop (i+1),n.kids.drop (i+1)⟩):=by unfold cH;rw[aAZ (by rw[fp];decide),aAV hi];rfl
  rw[et];simp only[Is,e3,e4,e6,u6,ar,aAS,aAQ,au,aCV];refine fin s4 s5 x9 eH _ _ k4 k5 hx9 WC _ n.cells[i].key rfl (fun dd _=>((L5 (dd.mem.get st.next) fun l=>Y4 l[1]? fun v=>v=vc)/\True)/\((L5 (dd.mem.get bc) fun l=>Y4 l[pc]? fun v=>v= .str n.cells[i].key)/\True)/\True) fun dd dm q1 q2=> ?_;obtain⟨t1,t2⟩:=Ug s5 dd L6 q1;simp only[t1,t2,u6,ar,aAS,aAQ,au,aCV,and_true]
end
section
variable {st st':St}
theorem Rv {n:aZ}(hn:n.ok)(hl:n.cells.length<=1000){i:Nat}(hi:i<n.cells.length):BZ (cH n i).1/\BZ (cH n i).2.2:=by
 have hk:=hn.iQ;unfold cH;cases fp:n.leaf with
 |true=>
  have hc:=hn.cell;rw[fp]at hc;rw[aBb rfl];exact⟨⟨fun c h=>hc c (aBD h),by simp,by simp;omega,by simp⟩,⟨fun c h=>hc c (aBG h),by simp,by simp;omega,by simp⟩⟩
 |false=>
  have hc:=hn.cell;rw[fp]at hc;rw[fp,aAZ (by decide)]at hk;rw[aAZ (by decide)];exact⟨⟨fun c h=>hc c (aBD h),fun k h=>hn.By k (aBD h),by simp;omega,by simp;omega⟩,⟨fun c h=>hc c (aBG h),fun k h=>hn.By k (aBG h),by simp;omega,by simp;omega⟩⟩
theorem BZ.size {n:aZ}(h:BZ n):n.size<=200000:=by
 have h1:=mX (leaf:=n.leaf) (l:=n.cells) h.cell;have h2:=pz (l:=n.kids) h.By;have h3:=h.cells;have h4:=h.kids;have h5:(uv n.cells.length).length<=2:=pN (by omega);rw[bS]
 split<;>omega
theorem A4 {p:Nat}{vc vk:CV}{n:aZ}{i:Nat}(hf:cT st)(hp:p<st.next)(hg:st.mem.get p=some (.cells [.bool n.leaf,vc,vk] 105 false))(h1:Sl st [] vc 4 (bj n.cells))(h2:Sl st [] vk 1 (bU n.kids))(hn:n.ok)(hl:n.cells.length<=1000)(hi:i<n.cells.length):
 R 150 [I i, .ptr p 0] st fun x st'=>x=I (gF n i)/\Kp [] st st':=by
 refine bO ?_;rw[ahw];rw[aO (n:=3) hg rfl,af];refine(Vn ⟨vc,vk,rfl,h1,h2⟩ (by omega) hn.iQ hi).mono ?_;rintro _ s1 ⟨a,b,rfl,k1,ha,hb⟩;obtain⟨nb1,nb2⟩:=Rv hn hl hi;have ZG:=ha [] (by simp);have FI:=hb [] (by simp);obtain⟨c1,d1,rfl,e1,f1⟩:=ZG;obtain⟨c2,d2,rfl,e2,f2⟩:=FI;obtain⟨x1,x2,x3⟩:=e1.bu;obtain⟨y1,y2,y3⟩:=f1.bu;obtain⟨z1,z2,z3⟩:=e2.bu;obtain⟨w1,w2,w3⟩:=f2.bu;have g2:(St.new s1 (.cells [.bool false, .ae, .ae] 105 false)).mem.get s1.next=some (.cells [.bool false, .ae, .ae] 105 false):=aq _ _;have g3:(St.new (St.new s1 (.cells [.bool false, .ae, .ae] 105 false)) (.cells [.bool false, .ae, .ae] 105 false)).mem.get (s1.next+1)=some (.cells [.bool false, .ae, .ae] 105 false):=aq (St.new s1 (.cells [.bool false, .ae, .ae] 105 false)) _;have Pv:(St.new (St.new s1 (.cells [.bool false, .ae, .ae] 105 false)) (.cells [.bool false, .ae, .ae] 105 false)).mem.get s1.next=some (.cells [.bool false, .ae, .ae] 105 false):=(aW _ _ _ (by simp)).trans g2;have n3:(St.new (St.new s1 (.cells [.bool false, .ae, .ae] 105 false)) (.cells [.bool false, .ae, .ae] 105 false)).next=s1.next+2:=rfl;have k3:Kp [] s1 (St.new (St.new s1 (.cells [.bool false, .ae, .ae] 105 false)) (.cells [.bool false, .ae, .ae] 105 false)):=((Kp.refl [] s1).new _).new _;have y0:(St.new s1 (.cells [.bool false, .ae, .ae] 105 false)).next=s1.next+1:=rfl;simp only[aD,aJ,af,cM,aT,y0];generalize St.new (St.new s1 (.cells [.bool false, .ae, .ae] 105 false)) (.cells [.bool false, .ae, .ae] 105 false)=s3 at*;have kg:∀a b c:CV,bt [.bool false, .ae, .ae] 0 [a,b,c]=[a,b,c]:=fun a b c=>rfl;rw[aH,Pv,aS,aU,kg];refine⟨⟨rfl,by simp[x2,y2],by simp⟩, ?_⟩;rw[aH,ak _ _ _ _ (by omega),g3,aS,aU,kg];refine⟨⟨rfl,by simp[z2,w2],by simp⟩, ?_⟩;have kA:Kp [] s1 (St.set s3 s1.next (.cells [.bool (cH n i).1.leaf,c1,d1] 105 false)):=k3.set _ (.inr (aAU _)) (by omega)
 have kB:Kp [] s1 (St.set (St.set s3 s1.next (.cells [.bool (cH n i).1.leaf,c1,d1] 105 false)) (s1.next+1) (.cells [.bool (cH n i).2.2.leaf,c2,d2] 105 false)):=kA.set _ (.inr (by omega)) (by simp;omega);have gA:(St.set (St.set s3 s1.next (.cells [.bool (cH n i).1.leaf,c1,d1] 105 false)) (s1.next+1) (.cells [.bool (cH n i).2.2.leaf,c2,d2] 105 false)).mem.get s1.next=some (.cells [.bool (cH n i).1.leaf,c1,d1] 105 false):=(ak _ _ _ _ (by omega)).trans (ao _ _ _);have gB:(St.set (St.set s3 s1.next (.cells [.bool (cH n i).1.leaf,c1,d1] 105 false)) (s1.next+1) (.cells [.bool (cH n i).2.2.leaf,c2,d2] 105 false)).mem.get (s1.next+1)=some (.cells [.bool (cH n i).2.2.leaf,c2,d2] 105 false):=ao _ _ _;have nB:(St.set (St.set s3 s1.next (.cells [.bool (cH n i).1.leaf,c1,d1] 105 false)) (s1.next+1) (.cells [.bool (cH n i).2.2.leaf,c2,d2] 105 false)).next=s1.next+2:=n3;generalize St.set (St.set s3 s1.next (.cells [.bool (cH n i).1.leaf,c1,d1] 105 false)) (s1.next+1) (.cells [.bool (cH n i).2.2.leaf,c2,d2] 105 false)=s5 at*;have Fy:Kp [] st s5:=k1.trans kB (by simp);rw[bG,aO (n:=3) gA rfl,af];refine(vN (Fy.fresh hf) (n:=(cH n i).1) ⟨c1,d1,rfl,e1.mono kB,f1.mono kB⟩ nb1).mono ?_;intro x9 s6 m6;have k6:=m6.kp;have gB6:=(k6.keep _ (by omega) (by simp)).trans gB;rw[(m6.sl [] (by simp)).len (cH n i).1.size (by simp[aZ.size]) (by omega) s6,af,aO (n:=3) gB6 rfl,af];refine(vN (k6.fresh (Fy.fresh hf)) (n:=(cH n i).2.2) ⟨c2,d2,rfl,(e2.mono kB).mono k6,(f2.mono kB).mono k6⟩ nb2).mono ?_;intro dI s7 m7;have k7:=m7.kp;rw[(m7.sl [] (by simp)).len (cH n i).2.2.size (by simp[aZ.size]) (by omega) s7,af];have sa:=nb1.size;have sb:=nb2.size;rw[aO (n:=3) gB rfl];have es:∀s,aj .sub none false (I (cH n i).1.size) (I (cH n i).2.2.size) s= .ok (I (((cH n i).1.size:Int)-(cH n i).2.2.size)) s:=fun s=>by rw[av,dJ,bD (by omega)]
 have en:∀s,mo .neg (I (((cH n i).1.size:Int)-(cH n i).2.2.size)) s= .ok (I (-(((cH n i).1.size:Int)-(cH n i).2.2.size))) s:=fun s=>by
  have:mo .neg (I (((cH n i).1.size:Int)-(cH n i).2.2.size)) s= .ok (I (IntKind.i64.wrap (0-(((cH n i).1.size:Int)-(cH n i).2.2.size)))) s:=rfl;rw[this,bD (by omega)];congr 2;omega
 have em:∀(a b:Int) s,Bm true (I a) (I b) s= .ok (I (if a<b then b else a)) s:=fun a b s=>rfl;simp only[es,af,en,em,aCV,and_true];refine⟨?_,(Fy.trans k6 (by simp)).trans k7 (by simp)⟩;unfold gF
 congr 1
 split<;>omega
theorem Qs {v:CV}{n:aZ}(hf:cT st)(h:IsNode st [] v n)(hn:n.ok)(hl:n.cells.length<=1000)(O2:cz n<n.cells.length):
 R 109 [v] st fun x st'=>∃a b,x= .tuple [a, .str (wD n).2.1,b]/\Kp [] st st'/\(∀X,(∀b∈X,b<st.next)->IsNode st' X a (wD n).1)/\(∀X,(∀b∈X,b<st.next)->IsNode st' X b (wD n).2.2):=by
 obtain⟨vc,vk,rfl,h1,h2⟩:=h;refine bO ?_;rw[aid];rw[cr,aU];refine⟨rfl, ?_⟩;have k1:Kp [] st (St.new st (.cells [.bool n.leaf,vc,vk] 105 false)):=(Kp.refl [] st).new _;have g1:(St.new st (.cells [.bool n.leaf,vc,vk] 105 false)).mem.get st.next=some (.cells [.bool n.leaf,vc,vk] 105 false):=aq _ _;have n1:(St.new st (.cells [.bool n.leaf,vc,vk] 105 false)).next=st.next+1:=rfl;generalize St.new st (.cells [.bool n.leaf,vc,vk] 105 false)=s1 at*;have k2:Kp [] s1 (St.new s1 (.cells [.bool false, .ae, .ae] 105 false)):=(Kp.refl [] s1).new _;have g2:(St.new s1 (.cells [.bool false, .ae, .ae] 105 false)).mem.get s1.next=some (.cells [.bool false, .ae, .ae] 105 false):=aq _ _;have n2:(St.new s1 (.cells [.bool false, .ae, .ae] 105 false)).next=s1.next+1:=rfl;rw[cM,aT];generalize St.new s1 (.cells [.bool false, .ae, .ae] 105 false)=s2 at*;have k3:Kp [] s2 (St.new s2 (.cells [.bool false, .ae, .ae] 105 false)):=(Kp.refl [] s2).new _;have g3:(St.new s2 (.cells [.bool false, .ae, .ae] 105 false)).mem.get s2.next=some (.cells [.bool false, .ae, .ae] 105 false):=aq _ _;have n3:(St.new s2 (.cells [.bool false, .ae, .ae] 105 false)).next=s2.next+1:=rfl;rw[cM,aT];generalize St.new s2 (.cells [.bool false, .ae, .ae] 105 false)=s3 at*;have nH:=(k3.keep st.next (by omega) (by simp)).trans ((k2.keep st.next (by omega) (by simp)).trans g1);have Ir:=(k3.keep s1.next (by omega) (by simp)).trans g2;have jf:Kp [] st s3:=(k1.trans k2 (by simp)).trans k3 (by simp)
 have go:∀Q:CV->St->Prop,(∀x s,(∃a b,x= .tuple [a, .str (wD n).2.1,b]/\Kp [] st s/\(∀X,(∀b∈X,b<st.next)->IsNode s X a (wD n).1)/\(∀X,(∀b∈X,b<st.next)->IsNode s X b (wD n).2.2))->Q x s)->∀b0:Nat,b0=cz n->
  dn (fun ml s9 DP=>fl 1 (aw 0 ml) s9 fun eH=>us (bo .slice eH s9) fun eW=>us (aj .lss none false (aw 5 ml) eW s9) fun eg=>
   aB eg (fD R (aw 3 ml) [aw 5 ml] s9 fun ft dd=>fD R (aw 3 ml) [aw 4 ml] dd fun fW dm=>us (aj .lss none false ft fW dm) fun gf=>
    aB gf (us (aj .add none true (aw 5 ml) (.int .i64 1) dm) fun gP=>DP [aw 0 ml,aw 1 ml,aw 2 ml,aw 3 ml,aw 5 ml,gP] dm)
     (us (aj .add none true (aw 5 ml) (.int .i64 1) dm) fun iE=>DP [aw 0 ml,aw 1 ml,aw 2 ml,aw 3 ml,aw 4 ml,iE] dm))
    (us (aI 3 (aw 0 ml) s9) fun iT=>R 151 [iT,aw 4 ml] s9 fun ie bY=>us (aA ie 0 bY) fun jw=>us (aA ie 1 bY) fun jl=>us (aA ie 2 bY) fun j7=>
     upon (aR 3 (aw 1 ml) jw bY) fun _ eh=>upon (aR 3 (aw 2 ml) j7 eh) fun _ fe=>us (aI 3 (aw 1 ml) fe) fun jB=>us (aI 3 (aw 2 ml) fe) fun kL=>Q (.tuple [jB,jl,kL]) fe))
   [.ptr st.next 0, .ptr s1.next 0, .ptr s2.next 0, .func (.func 150) [] [.ptr st.next 0],I b0,I ((b0+1:Nat):Int)] s3:=by
  intro Q hQ b0 FI;refine bM (fun fu vs s=>∃i b:Nat,i+fu=n.cells.length/\b<i/\cz n<=b/\vs=[.ptr st.next 0, .ptr s1.next 0, .ptr s2.next 0, .func (.func 150) [] [.ptr st.next 0],I b,I i]/\Kp [] s3 s/\rV n fu i b=gU n) ?_ (n:=n.cells.length-(cz n+1)) ⟨b0+1,b0,by omega,by omega,by omega,rfl,Kp.refl _ _,by rw[FI];rfl⟩;rintro fu vs s k ⟨i,b,hi,hbi,hfb,rfl,hk,BH⟩ next;have lO:Kp [] st s:=jf.trans hk (by simp);have gs:=(hk.keep st.next (by omega) (by simp)).trans nH;have gs2:=(hk.keep s1.next (by omega) (by simp)).trans Ir;have gs3:=(hk.keep s2.next (by omega) (by simp)).trans g3;have hns:=hk.next;have hlen:=(h1.mono lO).len n.cells.length (br _) (by omega) s;simp only[aK,aL,fl,ah,af,az,gs,ar,aAT,aAS,aAQ,au,hlen,dM,ag]
  by_cases hc:i<n.cells.length
  ·obtain⟨f,rfl⟩:∃f,fu=f+1:=⟨fu-1,by omega⟩;rw[aBc hc,aBb rfl,dQ];simp only[aBw,aBR];refine(A4 (lO.fresh hf) (by omega) gs (h1.mono lO) (h2.mono lO) hn hl hc).mono ?_;rintro _ dd ⟨rfl,qj⟩;have oN:Kp [] st dd:=lO.trans qj (by simp);rw[dQ];simp only[aBw,aBR];refine(A4 (oN.fresh hf) (by have:=qj.next;omega) ((qj.keep st.next (by omega) (by simp)).trans gs) (h1.mono oN) (h2.mono oN) hn hl (i:=b) (by omega)).mono ?_;rintro _ dm ⟨rfl,pJ⟩;simp only[dM,af,ag,ik i (by omega)];have acL:Kp [] s3 dm:=(hk.trans qj (by simp)).trans pJ (by simp);simp only[rV]at BH
   by_cases hu:gF n i<gF n b
   ·rw[aBc hu,aBb rfl];rw[aBb hu]at BH;exact next f _ _ (by omega) ⟨i+1,i,by omega,by omega,by omega,rfl,acL,BH⟩
   ·rw[aAW hu,aAZ (by decide)];rw[aAZ hu]at BH;exact next f _ _ (by omega) ⟨i+1,b,by omega,by omega,by omega,rfl,acL,BH⟩
  ·have hfu:fu=0\/n.cells.length<i:=by omega
   have hb:b=gU n:=by
    rcases hfu with rfl|h
    ·exact BH
    ·omega
   subst hb;have hlt:=(xv n O2).2.1;rw[aAW hc,aAZ (by decide),aO (n:=3) gs rfl,af];refine(Vn ⟨vc,vk,rfl,h1.mono lO,h2.mono lO⟩ (by omega) hn.iQ hlt).mono ?_;rintro _ bY ⟨a,b,rfl,qI,ha,hb⟩;have Od:=qI.next;have gA:=(qI.keep s1.next (by omega) (by simp)).trans gs2;have gB:=(qI.keep s2.next (by omega) (by simp)).trans gs3;have ha':=ha [s1.next,s2.next] (by simp;omega);have pK:=hb [s1.next,s2.next] (by simp;omega);obtain⟨c1,d1,rfl,e1,f1⟩:=ha';obtain⟨c2,d2,rfl,e2,f2⟩:=pK;obtain⟨x1,x2,x3⟩:=e1.bu;obtain⟨y1,y2,y3⟩:=f1.bu;obtain⟨z1,z2,z3⟩:=e2.bu;obtain⟨w1,w2,w3⟩:=f2.bu;have kg:∀a b c:CV,bt [.bool false, .ae, .ae] 0 [a,b,c]=[a,b,c]:=fun a b c=>rfl;simp only[aD,aJ,af];rw[aH,gA,aS,aU,kg];refine⟨⟨rfl,by simp[x2,y2],by simp⟩, ?_⟩;rw[aH,ak _ _ _ _ (by omega),gB,aS,aU,kg];refine⟨⟨rfl,by simp[z2,w2],by simp⟩, ?_⟩;rw[aO (n:=3) ((ak _ _ _ _ (by omega)).trans (ao _ _ _)) rfl,af,aO (n:=3) (ao _ _ _) rfl,af];have kB:Kp [s1.next,s2.next] bY (St.set (St.set bY s1.next (.cells [.bool (cH n (gU n)).1.leaf,c1,d1] 105 false)) s2.next (.cells [.bool (cH n (gU n)).2.2.leaf,c2,d2] 105 false)):=((Kp.refl _ bY).set (p:=s1.next) _ (.inl (by simp)) (by omega)).set (p:=s2.next) _ (.inl (by simp)) (by simp;omega);refine hQ _ _ ⟨_,_,rfl,(lO.trans qI (by simp)).trans kB (by simp;omega),fun X hX=> ?_,fun X hX=> ?_⟩
   ·have:=ha (X++[s1.next,s2.next]) (by intro b hb;simp at hb;rcases hb with h|h|h;have:=hX b h;omega;omega;omega);exact(this.mono (kB.mono (by simp))).ef (by intro q hq;simp[hq])
   ·have:=hb (X++[s1.next,s2.next]) (by intro b hb;simp at hb;rcases hb with h|h|h;have:=hX b h;omega;omega;omega);exact(this.mono (kB.mono (by simp))).ef (by intro q hq;simp[hq])
 have JB:=(h1.mono jf).len n.cells.length (br _) (by omega) s3;simp only[db,aK,aL,fl,ah,af,az,nH,ar,aAT,aAS,aAQ,au,ag,JB,lW];unfold cz at O2;cases fp:n.leaf with
 |true=>
  rw[fp,aBb rfl]at O2;have e1:aj .leq none false (I n.cells.length) (.int .i64 1) s3= .ok (.bool false) s3:=by rw[av,nt,aAW (by omega)]
  have e2:aj .add none true (.int .i64 1) (.int .i64 1) s3= .ok (I ((1+1:Nat):Int)) s3:=rfl;rw[aBb rfl,e1,af,ag,aAZ (by decide),e2,af];have:=go _ (fun x s h=>h) 1 (by unfold cz;rw[fp,aBb rfl]);simp only[fl,aK,aL]at this⊢;exact this
 |false=>
  rw[fp,aAZ (by decide)]at O2;have e1:aj .leq none false (I n.cells.length) (.int .i64 0) s3= .ok (.bool false) s3:=by rw[av,nt,aAW (by omega)]
  have e2:aj .add none true (.int .i64 0) (.int .i64 1) s3= .ok (I ((0+1:Nat):Int)) s3:=rfl;rw[aAZ (by decide),e1,af,ag,aAZ (by decide),e2,af];have:=go _ (fun x s h=>h) 0 (by unfold cz;rw[fp,aAZ (by decide)]);simp only[fl,aK,aL]at this⊢;exact this
end
