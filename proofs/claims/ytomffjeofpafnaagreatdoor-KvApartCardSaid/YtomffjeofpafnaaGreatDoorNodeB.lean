import Derived.Test.YtomffjeofpafnaaGreatDoorNodeA
namespace Lim
open Go
noncomputable section
set_option linter.defProp false
set_option maxRecDepth 100000
section
variable {st st':St}
def OI {X:List Nat}{v:CV}{z:Nat}(hs:Sl st X v 1 (aj (List.replicate z 0)))(hl:z<=1000000):R 178 [v,.func (.func 179) [] []] st λx st'=>x=.bool false/\Kp [] st st':=by
 refine bP ?_;rw[akd]
 have key:R 200 [v,.func (.func 179) [] []] st λx st'=>x=.int .i64 (-1)/\Kp [] st st':=by
  refine bP ?_;rw[ajR];have hlen:=hs.len z uG qE st;simp only[cV,aL,aM,hlen,af];refine bN (λfu vs s=>∃i,fu+i=z/\vs=[v,.func (.func 179) [] [],I z,I i]/\Kp [] st s) ?_ (n:=z) ⟨0,rfl,rfl,Kp.refl _ _⟩;rintro fu vs s k ⟨i,hi,rfl,pP⟩ next;simp only[aL,aM,dC,af,ag]
  by_cases hc:i<z
  .rw[aEV hc,aEW rfl];have JN:=(hs.dW (Y:=[]) uG).mono pP;refine JN.idx (i:=i) Dx _ ?_;have e:(aj (List.replicate z 0))[i]'(by simpa using hc)=.int .u8 0:=by simp[aj,bQ]
   rw[e,dM];simp only[aFt,aFN];refine bP ?_;rw[akc];simp only[az,fh,aFZ,aFh,af,ag,aEM,aFa];have a1:=gH i qE s none;rw[az]at a1;rw[a1,af];exact next (fu-1) _ _ qE ⟨i+1,qE,rfl,pP⟩
  .rw[aEO hc,aET u7];exact⟨aer,pP⟩
 refine key.mono ?_;rintro _ s ⟨rfl,h⟩;simp[h]
structure Dec (kK s:St)(b1 b9 r:Nat)(F:List Nat)(leaf:Bool)(vc vk:CV)(cells:List dh)(kids:List Nat)(L:List UInt8)(Fc Fk:List Nat):Prop where
 kp:Kp [] kK s
 g1:s.m.g b1=some (.cells [.bool false,.ae,.ae] 105 false)
 g9:s.m.g b9=some (.cells [.bool leaf,vc,vk] 105 false)
 rd:oG s r F L
 oc:Own s vc 4 109 (bC cells) Fc
 ok:Own s vk 1 3 (cJ kids) Fk
 lt:∀b,b=b1\/b=b9\/b∈F\/b∈Fc\/b∈Fk->kK.nx<=b/\b<s.nx
 ne:b1≠b9/\b1∉F/\b9∉F
 dc:∀b∈Fc,b≠b1/\b≠b9/\b∉F/\b∉Fk
 dk:∀b∈Fk,b≠b1/\b≠b9/\b∉F
def xh (n:bp)(st:St)(y:CV)(st':St):Prop:=∃x,y=.tuple [x,I 0]/\Kp [] st st'/\∀X,(∀b∈X,b<st.nx)->IsNode st' X x n
def NP {v:CV}{n:bp}{z:Nat}(hf:eH st)(h:Sl st [] v 1 (aj (mG n++List.replicate z 0)))(hn:n.ok)(hl:n.size+z<=512):R 138 [v] st (xh n st):=by
 have oO:n.cells.length<=512:=by
  have:=eC n.leaf n.cells;rw[ck]at hl;omega
 refine bP ?_;rw[akJ];have k1:Kp [] st (St.new st (.cells [.bool false,.ae,.ae] 105 false)):=(Kp.refl [] st).new _;have g1:(St.new st (.cells [.bool false,.ae,.ae] 105 false)).m.g st.nx=some (.cells [.bool false,.ae,.ae] 105 false):=ao _ _;have n1:(St.new st (.cells [.bool false,.ae,.ae] 105 false)).nx=st.nx+1:=rfl;rw[cH,aS];generalize St.new st (.cells [.bool false,.ae,.ae] 105 false)=s1 at*;have hlen:(mG n++List.replicate z 0).length=n.size+z:=by rw[aEU,aFI];rfl
 have e1:ai .gtr none true (I ((n.size+z:Nat):Int)) (.int .i64 512) s1=.ok (.bool false) s1:=by rw[az,dx,aEO qE]
 rw[(h.mono k1).len (n.size+z) (by rw[bJ,hlen];omega) qE s1];simp only[af,e1,ag,aEM,aFa];refine(wC (h.mono k1) qE).mono ?_;rintro _ s3 ⟨r,F,rfl,k3,rd3,EN⟩;have RR:∀b∈F,b<s3.nx:=by obtain⟨q,vv,G,rfl,_,h,_⟩:=rd3;exact h
 have e2:mG n++List.replicate z 0=uv (if n.leaf=true then 1 else 0)++(uv n.cells.length++(cT n.leaf n.cells++((if n.leaf=true then []else eY n.kids)++List.replicate z 0))):=by unfold mG;simp
 rw[e2]at rd3;refine(PQ rd3).mono ?_;rintro _ s4 ⟨rfl,k4,n4,rd4⟩;have nD:bk [.bool false,.ae,.ae] [(0,1,.bool n.leaf)] s4=.ok (.agg [.bool n.leaf,.ae,.ae]) s4:=rfl;rw[nD,af];refine mH rfl rfl rfl ?_;have n31:=k3.nx;have g4:=(k4.keep st.nx qE (λh=>by have:=EN _ h;omega)).trans ((k3.keep st.nx qE uG).trans g1);have k5:Kp [] s4 (St.new s4 (.cells [.bool n.leaf,.ae,.ae] 105 false)):=(Kp.refl _ s4).new _;have Vq:=(k1.trans k3 uG).trans k4 λq hq=>.inr (by have:=EN q hq;omega)
 have lt0:∀b,b=st.nx\/b=s4.nx\/b∈F\/b∈([]:List Nat)\/b∈([]:List Nat)->st.nx<=b/\b<(St.new s4 (.cells [.bool n.leaf,.ae,.ae] 105 false)).nx:=by
  intro b hb;rcases hb with rfl|rfl|hb|hb|hb
  .simp;omega
  .simp;omega
  .have:=EN b hb;have:=RR b hb;simp;omega
  .cases hb
  .cases hb
 have D0:Dec st (St.new s4 (.cells [.bool n.leaf,.ae,.ae] 105 false)) st.nx s4.nx r F n.leaf .ae .ae [] [] (uv n.cells.length++(cT n.leaf n.cells++((if n.leaf=true then []else eY n.kids)++List.replicate z 0))) [] []:=
  ⟨Vq.trans k5 uG,(k5.keep _ qE uG).trans g4,ao _ _,rd4.keep k5 uG,.inl ⟨rfl,rfl,rfl⟩,.inl ⟨rfl,rfl,rfl⟩,lt0,⟨qE,λh=>by have:=EN _ h;omega,λh=>by have:=RR _ h;omega⟩,uG,uG⟩
 generalize hb9:s4.nx=b9 at*;generalize Ix:st.nx=b1 at*;have QS:=Ix;generalize St.new s4 (.cells [.bool n.leaf,.ae,.ae] 105 false)=s6 at*;clear g4 k5 Vq rd4 k4 n4 rd3 k3 n31 nD;refine jO (λvs s=>∃vc Fc,vs=[v,.ptr b1 0,.ptr r 0,.ptr b9 0]/\Dec st s b1 b9 r F n.leaf vc .ae n.cells [] ((if n.leaf=true then []else eY n.kids)++List.replicate z 0) Fc []) ?_ ?_
 .intro qh pG;rw[cV];refine(kX (n:=n.cells.length) (m:=512) D0.rd oO qE).mono ?_;rintro _ s7 ⟨rfl,k7,n7,rd7⟩
  have D7:Dec st s7 b1 b9 r F n.leaf .ae .ae [] [] (cT n.leaf n.cells++((if n.leaf=true then []else eY n.kids)++List.replicate z 0)) [] []:=
   ⟨D0.kp.trans k7 λq hq=>.inr (D0.lt q TN).1,(k7.keep b1 (D0.lt b1 uG).2 D0.ne.2.1).trans D0.g1,(k7.keep b9 (D0.lt b9 uG).2 D0.ne.2.2).trans D0.g9,rd7,.inl ⟨rfl,rfl,rfl⟩,.inl ⟨rfl,rfl,rfl⟩,λb hb=>by rw[n7];exact D0.lt b hb,D0.ne,uG,uG⟩
  simp only[aL,aM];refine bN (λfu vs s=>∃i vc Fc,fu+i=n.cells.length/\vs=[v,.ptr b1 0,.ptr r 0,.ptr b9 0,I n.cells.length,I i]/\Dec st s b1 b9 r F n.leaf vc .ae (n.cells.take i) [] (cT n.leaf (n.cells.drop i)++((if n.leaf=true then []else eY n.kids)++List.replicate z 0)) Fc []) ?_ (n:=n.cells.length) ⟨0,.ae,[],rfl,rfl,by simpa using D7⟩;rintro fu vs s k ⟨i,vc,Fc,hi,rfl,D⟩ next;simp only[aL,aM,dC,af,ag]
  by_cases hc:i<n.cells.length
  .rw[aEV hc,aEW rfl];refine(qO D.rd).same ?_;simp only[cU,af,aFh,ag,aEM,aFa,bG];have Rp:=D.kp.fresh hf;have JI:Kp [] s (St.skip s):=(Kp.refl _ s).skip;have XX:(St.skip s).m.g b9=some (.cells [.bool n.leaf,vc,.ae] 105 false):=D.g9;have jx:(St.skip s).m.g s.nx=none:=Rp _ (aEQ _);have nsk:(St.skip s).nx=s.nx+1:=rfl;have rdk:=D.rd.keep JI uG;have ock:=D.oc.keep JI λb hb=>⟨(D.lt b O2).2,uG⟩;have g1k:(St.skip s).m.g b1=_:=D.g1;generalize St.skip s=sk at*;have l9:=D.lt b9 uG;have l1:=D.lt b1 uG;have lF:∀b∈F,st.nx<=b/\b<s.nx:=λb hb=>D.lt b O2;have lc:∀b∈Fc,st.nx<=b/\b<s.nx:=λb hb=>D.lt b O2;simp only[ah,af,aB,XX,aq,aER,aEN,aEL,ay];have vH:=hn.cell _ (aFj hc);rw[aFk hc,fC,aFx]at rdk;refine(VX rdk vH (λb hb=>adC)).mono ?_;rintro _ sl ⟨rfl,kl,rdl⟩;have nl:=kl.nx;have Zx:s.nx∉F:=λh=>by have:=lF _ h;omega
   have GY:=(kl.keep s.nx qE Zx).trans jx;have gl:=(kl.keep b9 qE D.ne.2.2).trans XX;have g1l:=(kl.keep b1 qE D.ne.2.1).trans g1k;have ocl:=ock.keep kl λb hb=>⟨acr,(D.dc b hb).2.2.1⟩;refine xe 48 ocl qE (λq hq=>by have:=lc q hq;omega) qE GY rfl rfl rfl (fx _) (by rw[bB,aFc];omega) ?_;intro v' s2 F' o2 k2 xq;have gl2:(St.set sl s.nx (.cells (CV.agg (aU n.cells[i])).cN 109 false)).m.g b9=some (.cells [.bool n.leaf,vc,.ae] 105 false):=(al _ _ _ _ qE).trans gl;have nn2:=k2.nx;have g92:=(k2.keep b9 qE (by simp only[aEP,aGk];exact⟨qE,λh=>(D.dc b9 h).2.1 rfl⟩)).trans gl;have rj:=(k2.keep b1 qE (by simp only[aEP,aGk];exact⟨qE,λh=>(D.dc b1 h).1 rfl⟩)).trans g1l;have rd2:=rdl.keep k2 (λb hb=>by simp only[aEP,aGk];exact⟨adC,λh=>(D.dc b h).2.2.1 hb⟩);obtain⟨c1,c2⟩:=o2.cE;have kP:bD [.bool n.leaf,vc,.ae] 1 [v']=[.bool n.leaf,v',.ae]:=rfl;simp only[gl2,aq,aEN,aEL,ay,aHa,and_true,af,aJ,g92,aW,c2,kP,gH i qE];refine⟨⟨rfl,by simp[c1],uG⟩,?_⟩
   have e5:bC (n.cells.take i)++(CV.agg (aU n.cells[i])).cN=bC (n.cells.take (i+1)):=by
    rw[aFe hc,gE];simp[bC]
   rw[e5]at o2
   have ks:=((D.kp.trans JI uG).trans kl λq hq=>.inr (lF q hq).1).trans k2 λq hq=>.inr (by
    rcases aEP.1 hq with rfl|hq
    .omega
    .exact(lc q hq).1)
   have WH:∀b∈F',st.nx<=b/\b<s2.nx/\(b∈Fc\/sl.nx<=b):=λb hb=>by
    obtain⟨a1,a2⟩:=xq b hb;refine⟨?_,a2,a1⟩;rcases a1 with h|h
    .exact(lc b h).1
    .omega
   have aay:b9∉F':=λh=>by
    rcases(WH b9 h).2.2 with h|h
    .exact(D.dc b9 h).2.1 rfl
    .omega
   refine next (fu-1) _ _ qE ⟨i+1,v',F',qE,rfl,ks.set _ (.inr l9.1) qE,?_,ar _ _ _,?_,o2.mono λb hb=>al _ _ _ _ (λe=>aay (e▸hb)),.inl ⟨rfl,rfl,rfl⟩,λb hb=>?_,D.ne,λb hb=>?_,uG⟩
   .exact(al _ _ _ _ D.ne.1).trans rj
   .exact rd2.keep (X:=[b9]) ((Kp.refl _ s2).set (p:=b9) _ (.inl uG) qE) (λb hb=>by simp;exact λe=>D.ne.2.2 (e▸hb))
   .show st.nx<=b/\b<s2.nx;rcases hb with rfl|rfl|hb|hb|hb
    .omega
    .omega
    .have:=lF b hb;omega
    .have:=WH b hb;omega
    .cases hb
   .rcases(WH b hb).2.2 with h|h
    .exact D.dc b h
    .exact⟨qE,qE,λh2=>by have:=lF b h2;omega,uG⟩
  .rw[aEO hc,aET u7];have e5:n.cells.take i=n.cells:=aEX qE;have e6:n.cells.drop i=[]:=aFu qE;rw[e5,e6]at D;exact pG _ _ ⟨vc,Fc,rfl,by simpa[cT]using D⟩
 .rintro _ s7 ⟨vc,Fc,rfl,D7⟩;simp only[cV,aL,aM];have rO:=hn.jw;have ank:∀s,Own s vc 4 109 (bC n.cells) Fc->(∀b∈Fc,b<s.nx)->Sl s [] vc 4 (bC n.cells):=λs ho hb=>ho.sl λb h=>⟨uG,hb b h⟩;refine bN (λfu vs s=>∃i vk Fk,fu+i=n.kids.length/\vs=[v,.ptr b1 0,.ptr r 0,.ptr b9 0,I i]/\Dec st s b1 b9 r F n.leaf vc vk n.cells (n.kids.take i) ((if n.leaf=true then []else eY (n.kids.drop i))++List.replicate z 0) Fc Fk) ?_ (n:=n.kids.length) ⟨0,.ae,[],rfl,rfl,by simpa using D7⟩;rintro fu vs s k ⟨i,vk,Fk,hi,rfl,D⟩ next;have l9:=D.lt b9 uG;have l1:=D.lt b1 uG;have lF:∀b∈F,st.nx<=b/\b<s.nx:=λb hb=>D.lt b O2;have lc:∀b∈Fc,st.nx<=b/\b<s.nx:=λb hb=>D.lt b O2;have lk:∀b∈Fk,st.nx<=b/\b<s.nx:=λb hb=>D.lt b O2;have afH:=(ank s D.oc λb hb=>(lc b hb).2).len n.cells.length (bB _) qE s;have elq:ai .leq none false (I i) (I n.cells.length) s=.ok (.bool (decide (i<=n.cells.length))) s:=by rw[az,iy];congr 2;simp only[aFo];omega
  simp only[aL,aM,fl,ah,af,aB,D.g9,aq,aER,aEN,aEL,ay,afH,elq,aG,aFm]
  by_cases hc:i<n.kids.length
  .have fL:n.leaf=false:=by
    cases h:n.leaf with
    |false=>rfl
    |true=>rw[h,aEW rfl]at rO;omega
   rw[fL,aET u7]at rO;rw[aEV qE];simp only[bh,af,eR];refine(qO D.rd).same ?_;have BS:=D.rd;have hg9:=D.g9;rw[fL]at hg9;rw[aET abX]at BS;simp only[af,aF,aFm,aG,gQ,bh,ah,aB,hg9,aq,aER,aEL,ay,cU,aFf,ag,bG];have Rp:=D.kp.fresh hf;have JI:Kp [] s (St.skip s):=(Kp.refl _ s).skip;have XX:(St.skip s).m.g b9=some (.cells [.bool false,vc,vk] 105 false):=hg9;have jx:(St.skip s).m.g s.nx=none:=Rp _ (aEQ _);have nsk:(St.skip s).nx=s.nx+1:=rfl;have rdk:=BS.keep JI uG;have okk:=D.ok.keep JI λb hb=>⟨(lk b hb).2,uG⟩;have ock:=D.oc.keep JI λb hb=>⟨(lc b hb).2,uG⟩;have g1k:(St.skip s).m.g b1=_:=D.g1;generalize St.skip s=sk at*;simp only[XX,aq,aEN,aEL,ay];rw[aFk hc,ot,aFx]at rdk;have hkm:=hn.CK _ (aFj hc);refine(kX (n:=n.kids[i]) (m:=2147483647) rdk hkm qE).mono ?_;rintro _ sl ⟨rfl,kl,nl,rdl⟩;have Zx:s.nx∉F:=λh=>by have:=lF _ h;omega
   have GY:=(kl.keep s.nx qE Zx).trans jx;have gl:=(kl.keep b9 qE D.ne.2.2).trans XX;have g1l:=(kl.keep b1 qE D.ne.2.1).trans g1k;have okl:=okk.keep kl λb hb=>⟨by have:=lk b hb;omega,(D.dk b hb).2.2⟩;have ocl:=ock.keep kl λb hb=>⟨acr,(D.dc b hb).2.2.1⟩;have azO:n.kids.length<=513:=qE
   refine xe 8 okl qE (λq hq=>by have:=lk q hq;omega) qE GY rfl rfl rfl rfl (by rw[qd,aFc];omega) ?_;intro v' s2 F' o2 k2 xq;have gl2:(St.set sl s.nx (.cells (CV.cN (I n.kids[i])) 3 false)).m.g b9=some (.cells [.bool false,vc,vk] 105 false):=(al _ _ _ _ qE).trans gl;have nn2:=k2.nx;have g92:=(k2.keep b9 qE (by simp only[aEP,aGk];exact⟨qE,λh=>(D.dk b9 h).2.1 rfl⟩)).trans gl;have rj:=(k2.keep b1 qE (by simp only[aEP,aGk];exact⟨qE,λh=>(D.dk b1 h).1 rfl⟩)).trans g1l;have rd2:=rdl.keep k2 (λb hb=>by simp only[aEP,aGk];exact⟨adC,λh=>(D.dk b h).2.2 hb⟩);have Qm:=ocl.keep k2 (λb hb=>⟨acr,by simp only[aEP,aGk];exact⟨acr,(D.dc b hb).2.2.2⟩⟩);obtain⟨c1,c2⟩:=o2.cE;have kP:bD [.bool false,vc,vk] 2 [v']=[.bool false,vc,v']:=rfl;have afn:bD [.bool false,vc,vk] 2 (CV.cN v')=[.bool false,vc,v']:=by rw[c2];rfl
   simp only[gl2,aq,aEN,aEL,ay,aHa,and_true,af,aJ,g92,aW,c2,kP,gH i qE];refine⟨⟨rfl,by simp[c1],uG⟩,?_⟩
   have e5:cJ (n.kids.take i)++CV.cN (I n.kids[i])=cJ (n.kids.take (i+1)):=by
    rw[aFe hc,ny];simp[cJ]
   rw[e5]at o2
   have ks:=((D.kp.trans JI uG).trans kl λq hq=>.inr (lF q hq).1).trans k2 λq hq=>.inr (by
    rcases aEP.1 hq with rfl|hq
    .omega
    .exact(lk q hq).1)
   have WH:∀b∈F',st.nx<=b/\b<s2.nx/\(b∈Fk\/sl.nx<=b):=λb hb=>by
    obtain⟨a1,a2⟩:=xq b hb;refine⟨?_,a2,a1⟩;rcases a1 with h|h
    .exact(lk b h).1
    .omega
   have aay:b9∉F':=λh=>by
    rcases(WH b9 h).2.2 with h|h
    .exact(D.dk b9 h).2.1 rfl
    .omega
   refine next (fu-1) _ _ qE ⟨i+1,v',F',qE,rfl,ks.set _ (.inr l9.1) qE,(al _ _ _ _ D.ne.1).trans rj,?_,?_,Qm.mono λb hb=>al _ _ _ _ (D.dc b hb).2.1,o2.mono λb hb=>al _ _ _ _ (λe=>aay (e▸hb)),λb hb=>?_,D.ne,λb hb=>?_,λb hb=>?_⟩
   .rw[fL];exact ar _ _ _
   .rw[aET abX];exact rd2.keep (X:=[b9]) ((Kp.refl _ s2).set (p:=b9) _ (.inl uG) qE) (λb hb=>by simp;exact λe=>D.ne.2.2 (e▸hb))
   .show st.nx<=b/\b<s2.nx;rcases hb with rfl|rfl|hb|hb|hb
    .omega
    .omega
    .have:=lF b hb;omega
    .have:=lc b hb;omega
    .have:=WH b hb;omega
   .refine⟨(D.dc b hb).1,(D.dc b hb).2.1,(D.dc b hb).2.2.1,λh=>?_⟩;rcases(WH b h).2.2 with h2|h2
    .exact(D.dc b hb).2.2.2 h2
    .have:=lc b hb;omega
   .rcases(WH b hb).2.2 with h|h
    .exact D.dk b h
    .exact⟨qE,qE,λh2=>by have:=lF b h2;omega⟩
  ·
    have Hh:i=n.kids.length:=qE
    have e5:n.kids.take i=n.kids:=aEX qE;have e6:n.kids.drop i=[]:=aFu qE;rw[e5,e6]at D;have BS:oG s r F (List.replicate z 0):=by have:=D.rd;cases fL:n.leaf<;>rw[fL]at this<;>simpa[eY]using this
    have GX:∀s',Kp [] s s'->IsNode s' [] (.agg [.bool n.leaf,vc,vk]) n:=λs' hk=>
     ⟨vc,vk,rfl,(D.oc.keep hk λb hb=>⟨(lc b hb).2,uG⟩).sl λb hb=>⟨uG,by have:=lc b hb;have:=hk.nx;omega⟩,(D.ok.keep hk λb hb=>⟨(lk b hb).2,uG⟩).sl λb hb=>⟨uG,by have:=lk b hb;have:=hk.nx;omega⟩⟩
    have fin:us (bo .slice v s) λju=>R 156 [.ptr r 0] s λiJ gY=>us (ai .sub none false ju iJ gY) λjt=>us (aQ 1 v (some jt) none gY) λjz=>R 117 [.ptr r 0] gY λiY bU=>us (kY .not iY bU) λjb=>
     us (aZ (ak false jb) bU (aI 3 (.ptr b9 0) bU)) λkH=>fD (ak false jb) bU (λk=>R 145 [kH] bU k) λkg jd=>us (aZ (ak false jb) jd (kY .not kg jd)) λlu=>us (aX jb (.bool true) lu jd) λlV=>
     us (aZ (ak false lV) jd (.ok jz jd)) λlU=>fD (ak false lV) jd (λk=>R 178 [lU,.func (.func 179) [] []] jd k) λpN dp=>us (aX lV (.bool true) pN dp) λmC=>
     aD mC (us (bk [.bool false,.ae,.ae] [] dp) λnJ=>upon (aR 3 (.ptr b1 0) nJ dp) λ_ vj=>us (aI 3 (.ptr b1 0) vj) λpM=>xh n st (.tuple [pM,.int .i64 4]) vj)
      (us (aI 3 (.ptr b9 0) dp) λpL=>upon (aR 3 (.ptr b1 0) pL dp) λ_ iN=>us (aI 3 (.ptr b1 0) iN) λpD=>xh n st (.tuple [pD,.int .i64 0]) iN):=by
     have hv:=h.mono D.kp;rw[hv.len (n.size+z) (by rw[bJ,hlen];omega) qE s,af];refine(Ln BS).same ?_;have e7:ai .sub none false (I ((n.size+z:Nat):Int)) (I ((List.replicate z (0:UInt8)).length)) s=.ok (I n.size) s:=by rw[az,dR,aFI,bz qE];congr 2;omega
     obtain⟨v',q1,q2⟩:=hv.lo (n:=n.size+z) (l:=n.size) qE (by rw[bJ,hlen];omega) qE s;rw[e7,af,q1,af];refine(qO BS).same ?_;rw[cU,af,aFh];simp only[aG,aEM,aFa,aFf,bh,eR];rw[aK (n:=3) D.g9 rfl,af];refine(A6 (GX s (Kp.refl _ _)) hn qE).mono ?_;rintro _ jd ⟨rfl,CM⟩
     have e8:aj (List.replicate z 0)=(aj (mG n++List.replicate z 0)).drop (n.size*1):=by
      rw[bL,aGB,aHx (by rw[bJ];rfl)]
     rw[<-e8]at q2;simp only[bh,cU,af,aFh,aF,aG,aEM,aFa,aFf,eR];refine(OI (q2.mono CM) qE).mono ?_;rintro _ dp ⟨rfl,Oq⟩;have JK:=CM.trans Oq uG;have ayh:=JK.nx;have g98:=(JK.keep b9 l9.2 uG).trans D.g9;have VJ:=(JK.keep b1 l1.2 uG).trans D.g1;obtain⟨c1,c2⟩:=D.oc.cE;obtain⟨d1,d2⟩:=D.ok.cE;have kP:bD [.bool false,.ae,.ae] 0 [.bool n.leaf,vc,vk]=[.bool n.leaf,vc,vk]:=rfl;rw[ag,aET u7,aK (n:=3) g98 rfl,af,aJ,VJ,aW,aT,kP];refine⟨⟨rfl,by simp[c1,d1],uG⟩,?_⟩;rw[aK (n:=3) (ar _ _ _) rfl,af];have QH:=JK;refine⟨_,rfl,(D.kp.trans JK uG).set _ (.inr l1.1) qE,λX hX=>⟨vc,vk,rfl,?_,?_⟩⟩
     .exact((D.oc.keep JK λb hb=>⟨(lc b hb).2,uG⟩).mono λb hb=>al _ _ _ _ (D.dc b hb).1).sl λb hb=>⟨λh=>by have:=hX b h;have:=lc b hb;omega,by have:=lc b hb;simp;omega⟩
     .exact((D.ok.keep JK λb hb=>⟨(lk b hb).2,uG⟩).mono λb hb=>al _ _ _ _ (D.dk b hb).1).sl λb hb=>⟨λh=>by have:=hX b h;have:=lk b hb;omega,by have:=lk b hb;simp;omega⟩
    by_cases hle:i<=n.cells.length
    .have fL:n.leaf=true:=by
      cases h:n.leaf with
      |true=>rfl
      |false=>rw[h,aET u7]at rO;omega
     rw[aEV hle];simp only[bh,af,eR];refine(qO BS).same ?_;have hg9:=D.g9;simp only[af,aF,aFm,aG,gQ,bh,ah,aB,hg9,aq,aER,aEL,ay,cU,fL,aFh,ag,aEM,aFa]
     simpa only[aL,aM,fL]using fin
    .rw[aEO hle];simp only[bS,af,pz,aF,aEM,aFa,aG,aFm,gQ,ag];exact fin
end
section
variable {st st':St}
def pJ.sl {k e:Nat}{v x:CV}{L:List CV}(h:pJ k e v L st x st'):Kp [] st st'/\Sl st' [] x k L:=by
 obtain⟨F,h1,h2,h3,_⟩:=h;exact⟨h1,h2.sl λb hb=>⟨uG,(h3 b hb).2⟩⟩
def zd {v:CV}{n:bp}(h:IsNode st [] v n)(hl:n.cells.length<=100000)(hk:n.kids.length<=100001):R 149 [v] st λx st'=>Kp [] st st'/\∀X,(∀b∈X,b<st.nx)->IsNode st' X x n:=by
 obtain⟨vc,vk,rfl,h1,h2⟩:=h;refine bP ?_;rw[akA];rw[bV,aT];refine⟨rfl,?_⟩;have k1:Kp [] st (St.new st (.cells [.bool n.leaf,vc,vk] 105 false)):=(Kp.refl [] st).new _;have g1:(St.new st (.cells [.bool n.leaf,vc,vk] 105 false)).m.g st.nx=some (.cells [.bool n.leaf,vc,vk] 105 false):=ao _ _;have n1:(St.new st (.cells [.bool n.leaf,vc,vk] 105 false)).nx=st.nx+1:=rfl;generalize St.new st (.cells [.bool n.leaf,vc,vk] 105 false)=s1 at*;have k2:Kp [] s1 (St.new s1 (.cells [.bool false,.ae,.ae] 105 false)):=(Kp.refl [] s1).new _;have g2:(St.new s1 (.cells [.bool false,.ae,.ae] 105 false)).m.g s1.nx=some (.cells [.bool false,.ae,.ae] 105 false):=ao _ _;have n2:(St.new s1 (.cells [.bool false,.ae,.ae] 105 false)).nx=s1.nx+1:=rfl;rw[cH,aS,bG];generalize St.new s1 (.cells [.bool false,.ae,.ae] 105 false)=s2 at*;have rj:=(k2.keep st.nx qE uG).trans g1;have nK:=k1.trans k2 uG;simp only[ah,af,aB,rj,aq,aER,aEN,aEL,ay];refine(tW (h1.mono nK) (dS _) Yk).mono ?_;intro x7 s3 hc;obtain⟨k3,c3⟩:=hc.sl;have n3:=k3.nx;have nE:=(k3.keep st.nx qE uG).trans rj;have jN:=nK.trans k3 uG;simp only[nE,aq,aEN,aEL,ay];refine(A4 (h2.mono jN) (jI _) (by rw[qd];omega)).mono ?_;intro dd s4 hc4;obtain⟨k4,c4⟩:=hc4.sl;have n4:=k4.nx;have Iz:=(k4.keep st.nx qE uG).trans nE;have ND:=(k4.keep s1.nx qE uG).trans ((k3.keep s1.nx qE uG).trans g2);have c3':=c3.mono k4;obtain⟨p1,p2,p3⟩:=c3.bE;obtain⟨q1,q2,q3⟩:=c4.bE
 have nD:bk [.bool false,.ae,.ae] [(0,1,.bool n.leaf),(1,1,x7),(2,1,dd)] s4=.ok (.agg [.bool n.leaf,x7,dd]) s4:=by
  rw[dV];simp[cR,bD,p1,p3,q1,q3]
 have kP:bD [.bool false,.ae,.ae] 0 [.bool n.leaf,x7,dd]=[.bool n.leaf,x7,dd]:=rfl;simp only[nD,af,aJ,ND,aW,aT,kP,Iz,aq,aEL,ay,aHa,and_true];refine⟨⟨rfl,by simp[p2,q2],uG⟩,?_⟩;rw[aK (n:=3) (ar _ _ _) rfl,af];have k5:Kp [s1.nx] s4 (St.set s4 s1.nx (.cells [.bool n.leaf,x7,dd] 105 false)):=(Kp.refl _ s4).set _ (.inl uG) qE;refine⟨(jN.trans k4 uG).set _ (.inr qE) qE,λX hX=>⟨x7,dd,rfl,?_,?_⟩⟩
 .obtain⟨F,a1,a2,a3,_⟩:=hc;exact((a2.keep k4 λb hb=>⟨(a3 b hb).2,uG⟩).mono λb hb=>al _ _ _ _ abQ).sl λb hb=>⟨λh=>by have:=hX b h;have:=(a3 b hb).1;omega,by have:=(a3 b hb).2;simp;omega⟩
 .obtain⟨F,a1,a2,a3,_⟩:=hc4;exact(a2.mono λb hb=>al _ _ _ _ abQ).sl λb hb=>⟨λh=>by have:=hX b h;have:=(a3 b hb).1;omega,by have:=(a3 b hb).2;simp;omega⟩
def X9 {v:CV}{n:bp}{i:Nat}(h:IsNode st [] v n)(hl:n.cells.length<=10000)(hk:n.kids.length=if n.leaf=true then 0 else n.cells.length+1)(hi:i<n.cells.length):
 R 151 [v,I i] st λx st'=>∃a b,x=.tuple [a,.str (cQ n i).2.1,b]/\Kp [] st st'/\(∀X,(∀b∈X,b<st.nx)->IsNode st' X a (cQ n i).1)/\(∀X,(∀b∈X,b<st.nx)->IsNode st' X b (cQ n i).2.2):=by
 obtain⟨vc,vk,rfl,h1,h2⟩:=h;refine bP ?_;rw[aky];rw[bV,aT];refine⟨rfl,?_⟩;have k1:Kp [] st (St.new st (.cells [.bool n.leaf,vc,vk] 105 false)):=(Kp.refl [] st).new _;have g1:(St.new st (.cells [.bool n.leaf,vc,vk] 105 false)).m.g st.nx=some (.cells [.bool n.leaf,vc,vk] 105 false):=ao _ _;have n1:(St.new st (.cells [.bool n.leaf,vc,vk] 105 false)).nx=st.nx+1:=rfl;generalize St.new st (.cells [.bool n.leaf,vc,vk] 105 false)=s1 at*;have k2:Kp [] s1 (St.new s1 (.cells [.bool false,.ae,.ae] 105 false)):=(Kp.refl [] s1).new _;have g2:(St.new s1 (.cells [.bool false,.ae,.ae] 105 false)).m.g s1.nx=some (.cells [.bool false,.ae,.ae] 105 false):=ao _ _;have n2:(St.new s1 (.cells [.bool false,.ae,.ae] 105 false)).nx=s1.nx+1:=rfl;rw[cH,aS];generalize St.new s1 (.cells [.bool false,.ae,.ae] 105 false)=s2 at*;have k3:Kp [] s2 (St.new s2 (.cells [.bool false,.ae,.ae] 105 false)):=(Kp.refl [] s2).new _;have g3:(St.new s2 (.cells [.bool false,.ae,.ae] 105 false)).m.g s2.nx=some (.cells [.bool false,.ae,.ae] 105 false):=ao _ _;have n3:(St.new s2 (.cells [.bool false,.ae,.ae] 105 false)).nx=s2.nx+1:=rfl;rw[cH,aS];generalize St.new s2 (.cells [.bool false,.ae,.ae] 105 false)=s3 at*;have nE:=(k3.keep st.nx qE uG).trans ((k2.keep st.nx qE uG).trans g1);have Hu:=(k3.keep s1.nx qE uG).trans g2;have jN:=(k1.trans k2 uG).trans k3 uG;have hc3:=h1.mono jN
 have fin:∀(s8 s9:St) (jt pD:CV) (a b:bp),Kp [] s3 s8->Kp [] s8 s9->(∀X,(∀b∈X,b<s3.nx)->IsNode s8 X jt a)->(∀X,(∀b∈X,b<s8.nx)->IsNode s9 X pD b)->∀(kg:CV) (key:cn),kg=.str key->∀(K:St->St->Prop),(∀s10 dq,Kp [s1.nx,s2.nx] s9 s10->Kp [s1.nx,s2.nx] s9 dq->K s10 dq)->
  upon (aR 3 (.ptr s1.nx 0) jt s9) λ_ s10=>upon (aR 3 (.ptr s2.nx 0) pD s10) λ_ dq=>K s10 dq/\us (aI 3 (.ptr s1.nx 0) dq) λuh=>us (aI 3 (.ptr s2.nx 0) dq) λrZ=>
   ∃a' b',CV.tuple [uh,kg,rZ]=.tuple [a',.str key,b']/\Kp [] st dq/\(∀X,(∀b∈X,b<st.nx)->IsNode dq X a' a)/\(∀X,(∀b∈X,b<st.nx)->IsNode dq X b' b):=by
  intro s8 s9 jt pD a b q1 q2 h35 h49 kg key e40 K hK;have m8:=q1.nx;have m9:=q2.nx;have aqI:=h35 [s1.nx,s2.nx] vR;obtain⟨c1,d1,rfl,e1,f1⟩:=aqI;have aqG:=h49 [s1.nx,s2.nx] vR;obtain⟨c2,d2,rfl,e2,f2⟩:=aqG;obtain⟨x1,x2,x3⟩:=e1.bE;obtain⟨y1,y2,y3⟩:=f1.bE;obtain⟨z1,z2,z3⟩:=e2.bE;obtain⟨w1,w2,w3⟩:=f2.bE;have q3:=q1.trans q2 uG;have g29:=(q3.keep s1.nx qE uG).trans Hu;have g39:=(q3.keep s2.nx qE uG).trans g3;have kP:∀a b c:CV,bD [.bool false,.ae,.ae] 0 [a,b,c]=[a,b,c]:=λa b c=>rfl;rw[aJ,g29,aW,aT,kP];refine⟨⟨rfl,abV,uG⟩,?_⟩;rw[aJ,al _ _ _ _ qE,g39,aW,aT,kP];refine⟨⟨rfl,by simp[z2,w2],uG⟩,?_⟩;have kA:Kp [s1.nx,s2.nx] s9 (St.set s9 s1.nx (.cells [.bool a.leaf,c1,d1] 105 false)):=(Kp.refl _ s9).set _ (.inl uG) qE;have kB:Kp [s1.nx,s2.nx] s9 (St.set (St.set s9 s1.nx (.cells [.bool a.leaf,c1,d1] 105 false)) s2.nx (.cells [.bool b.leaf,c2,d2] 105 false)):=kA.set _ (.inl uG) vR;refine⟨hK _ _ kA kB,?_⟩;rw[aK (n:=3) ((al _ _ _ _ qE).trans (ar _ _ _)) rfl,af,aK (n:=3) (ar _ _ _) rfl,af];refine⟨_,_,by rw[e40],(jN.trans q3 uG).trans kB vR,λX hX=>?_,λX hX=>?_⟩
  .have:=(h35 (X++[s1.nx,s2.nx]) (by intro b hb;simp at hb;rcases hb with h|h|h;have:=hX b h;omega;omega;omega)).mono (q2.mono uG);exact(this.mono (kB.mono uG)).dW (by intro q hq;simp[hq])
  .have:=h49 (X++[s1.nx,s2.nx]) (by intro b hb;simp at hb;rcases hb with h|h|h;have:=hX b h;omega;omega;omega);exact(this.mono (kB.mono uG)).dW (by intro q hq;simp[hq])
 have hlen:=bB n.cells;obtain⟨bc,pc,lc,tc,gc,u1,u2,u3,u4,u5⟩:=h1.cellAt (L:=n.cells.map aU) qE (fp _) (i:=i) O1;have u6:=u5 0 (.str n.cells[i].key) TT;rw[aFC]at u6;have JM:=jN.nx;have yq:∀s,Kp [] s3 s->s.m.g st.nx=some (.cells [.bool n.leaf,vc,vk] 105 false)/\s.m.g bc=some (.cells lc tc gc):=λs hs=>⟨(hs.keep _ qE uG).trans nE,((jN.trans hs uG).keep _ u3 uG).trans u2⟩
 have WJ:∀s9 s,Kp [] s3 s9->Kp [s1.nx,s2.nx] s9 s->s.m.g st.nx=some (.cells [.bool n.leaf,vc,vk] 105 false)/\s.m.g bc=some (.cells lc tc gc):=λs9 s h9 hs=>
  ⟨(hs.keep _ (by have:=h9.nx;omega) vR).trans (yq s9 h9).1,(hs.keep _ (by have:=h9.nx;omega) vR).trans (yq s9 h9).2⟩
 have c48:∀s,Kp [] s3 s->Sl s [] vc 4 (bC n.cells):=λs hs=>hc3.mono hs;have ckk:∀s,Kp [] s3 s->Sl s [] vk 1 (cJ n.kids):=λs hs=>(h2.mono jN).mono hs;simp only[fl,ah,af,aB,nE,aq,aER,aEN,aEL,ay,ag];cases fL:n.leaf with
 |true=>
  rw[fL,aEW rfl]at hk;rw[aEW rfl,bG];obtain⟨v7,p1,p2⟩:=hc3.hi (n:=n.cells.length) qE hlen (h:=i) qE s3;obtain⟨b1,b2,b3⟩:=p2.bE
  have nD:bk [.bool false,.ae,.ae] [(0,1,.bool true),(1,1,v7)] s3=.ok (.agg [.bool true,v7,.ae]) s3:=by
   rw[dV];simp[cR,bD,b1,b3]
  have aaV:=nE;simp only[p1,af,nD];rw[jQ _ _ qE]at p2;refine(zd (n:=⟨true,n.cells.take i,[]⟩) ⟨v7,.ae,rfl,p2,.inl ⟨rfl,rfl⟩⟩ vR uG).mono ?_;rintro x9 s4 ⟨k4,hx9⟩;obtain⟨e1,e2⟩:=yq s4 k4;obtain⟨TU,p3,p4⟩:=(c48 s4 k4).lo (n:=n.cells.length) qE hlen (l:=i) qE s4;obtain⟨c1,c2,c3⟩:=p4.bE
  have Nv:bk [.bool false,.ae,.ae] [(0,1,.bool true),(1,1,TU)] s4=.ok (.agg [.bool true,TU,.ae]) s4:=by
   rw[dV];simp[cR,bD,c1,c3]
  simp only[ah,aFC,aB,e1,e2,u1,u6,aq,aEN,aEL,ay,p3,af,Nv];rw[jR _ _ qE]at p4;refine(zd (n:=⟨true,n.cells.drop i,[]⟩) ⟨TU,.ae,rfl,p4,.inl ⟨rfl,rfl⟩⟩ vR uG).mono ?_;rintro ef s5 ⟨k5,Zn⟩;have Oo:=k4.trans k5 uG;obtain⟨e3,e4⟩:=yq s5 Oo;obtain⟨e5,e6⟩:=yq s3 (Kp.refl _ _);have et:cQ n i=(⟨true,n.cells.take i,[]⟩,n.cells[i].key,⟨true,n.cells.drop i,[]⟩):=by unfold cQ;rw[aEW fL,aES hi];rfl
  rw[et];simp only[e3,e4,e6,u6,aq,aEN,aEL,ay,aHa];refine fin s4 s5 x9 ef _ _ k4 k5 hx9 Zn _ n.cells[i].key rfl (λs10 _=>((Oj (s10.m.g st.nx) λl=>onV l[1]? λv=>v=vc)/\True)/\((Oj (s10.m.g bc) λl=>onV l[pc]? λv=>v=.str n.cells[i].key)/\True)/\True) λs10 dq q1 q2=>?_;obtain⟨t1,t2⟩:=WJ s5 s10 Oo q1;simp only[t1,t2,u6,aq,aEN,aEL,ay,and_true]
 |false=>
  rw[fL,aET u7]at hk;rw[aET u7];have Rh:=(ckk s3 (Kp.refl _ _)).len n.kids.length uG qE s3
  have emm:Cz false (I ((i+1:Nat):Int)) (I n.kids.length) s3=.ok (I ((i+1:Nat):Int)) s3:=by
   have e:Cz false (I ((i+1:Nat):Int)) (I n.kids.length) s3=.ok (I (if (n.kids.length:Int)<((i+1:Nat):Int)then (n.kids.length:Int)else ((i+1:Nat):Int))) s3:=rfl;rw[e,aET qE]
  obtain⟨v7,p1,p2⟩:=hc3.hi (n:=n.cells.length) qE hlen (h:=i) qE s3;obtain⟨v8,p5,p6⟩:=(ckk s3 (Kp.refl _ _)).hi (n:=n.kids.length) qE uG (h:=i+1) qE s3;obtain⟨b1,b2,b3⟩:=p2.bE;obtain⟨d1,d2,d3⟩:=p6.bE
  have nD:bk [.bool false,.ae,.ae] [(1,1,v7),(2,1,v8)] s3=.ok (.agg [.bool false,v7,v8]) s3:=by
   rw[dV];simp[cR,bD,b1,b3,d1,d3]
  have aaV:=nE;simp only[gH i qE,af,Rh,emm,bG,p1,p5,nD];rw[jQ _ _ qE]at p2;rw[aGB,vx]at p6;refine(zd (n:=⟨false,n.cells.take i,n.kids.take (i+1)⟩) ⟨v7,v8,rfl,p2,p6⟩ vR vR).mono ?_;rintro x9 s4 ⟨k4,hx9⟩;obtain⟨e1,e2⟩:=yq s4 k4;obtain⟨TU,p3,p4⟩:=(c48 s4 k4).lo (n:=n.cells.length) qE hlen (l:=i+1) qE s4;obtain⟨v18,p7,p8⟩:=(ckk s4 k4).lo (n:=n.kids.length) qE uG (l:=i+1) qE s4;obtain⟨c1,c2,c3⟩:=p4.bE;obtain⟨f1,f2,f3⟩:=p8.bE
  have Nv:bk [.bool false,.ae,.ae] [(1,1,TU),(2,1,v18)] s4=.ok (.agg [.bool false,TU,v18]) s4:=by
   rw[dV];simp[cR,bD,c1,c3,f1,f3]
  simp only[ah,aFC,aB,e1,e2,u1,u6,aq,aEN,aEL,ay,p3,p7,af,Nv];rw[jR _ _ qE]at p4;rw[aGB,vy]at p8;refine(zd (n:=⟨false,n.cells.drop (i+1),n.kids.drop (i+1)⟩) ⟨TU,v18,rfl,p4,p8⟩ vR vR).mono ?_;rintro ef s5 ⟨k5,Zn⟩;have Oo:=k4.trans k5 uG;obtain⟨e3,e4⟩:=yq s5 Oo;obtain⟨e5,e6⟩:=yq s3 (Kp.refl _ _);have et:cQ n i=(⟨false,n.cells.take i,n.kids.take (i+1)⟩,n.cells[i].key,⟨false,n.cells.drop (i+1),n.kids.drop (i+1)⟩):=by unfold cQ;rw[aET abX,aES hi];rfl
  rw[et];simp only[e3,e4,e6,u6,aq,aEN,aEL,ay,aHa];refine fin s4 s5 x9 ef _ _ k4 k5 hx9 Zn _ n.cells[i].key rfl (λs10 _=>((Oj (s10.m.g st.nx) λl=>onV l[1]? λv=>v=vc)/\True)/\((Oj (s10.m.g bc) λl=>onV l[pc]? λv=>v=.str n.cells[i].key)/\True)/\True) λs10 dq q1 q2=>?_;obtain⟨t1,t2⟩:=WJ s5 s10 Oo q1;simp only[t1,t2,u6,aq,aEN,aEL,ay,and_true]
end
section
variable {st st':St}
def Ua {n:bp}(hn:n.ok)(hl:n.cells.length<=1000){i:Nat}(hi:i<n.cells.length):Dq (cQ n i).1/\Dq (cQ n i).2.2:=by
 have hk:=hn.jw;unfold cQ;cases fL:n.leaf with
 |true=>
  have hc:=hn.cell;rw[fL]at hc;rw[aEW rfl];exact⟨⟨λc h=>hc c (aFz h),uG,vR,uG⟩,⟨λc h=>hc c (aFF h),uG,vR,uG⟩⟩
 |false=>
  have hc:=hn.cell;rw[fL]at hc;rw[fL,aET u7]at hk;rw[aET u7];exact⟨⟨λc h=>hc c (aFz h),λk h=>hn.CK k (aFz h),vR,vR⟩,⟨λc h=>hc c (aFF h),λk h=>hn.CK k (aFF h),vR,vR⟩⟩
def Dq.size {n:bp}(h:Dq n):n.size<=200000:=by
 have h1:=nM (leaf:=n.leaf) (l:=n.cells) h.cell;have h2:=qf (l:=n.kids) h.CK;have h3:=h.cells;have h4:=h.kids;have h5:(uv n.cells.length).length<=2:=qF qE;rw[ck]
 split<;>omega
def Cj {p:Nat}{vc vk:CV}{n:bp}{i:Nat}(hf:eH st)(hp:p<st.nx)(hg:st.m.g p=some (.cells [.bool n.leaf,vc,vk] 105 false))(h1:Sl st [] vc 4 (bC n.cells))(h2:Sl st [] vk 1 (cJ n.kids))(hn:n.ok)(hl:n.cells.length<=1000)(hi:i<n.cells.length):
 R 150 [I i,.ptr p 0] st λx st'=>x=I (gR n i)/\Kp [] st st':=by
 refine bP ?_;rw[akz];rw[aK (n:=3) hg rfl,af];refine(X9 ⟨vc,vk,rfl,h1,h2⟩ qE hn.jw hi).mono ?_;rintro _ s1 ⟨a,b,rfl,k1,ha,hb⟩;obtain⟨nb1,nb2⟩:=Ua hn hl hi;have ha0:=ha [] uG;have Nw:=hb [] uG;obtain⟨c1,d1,rfl,e1,f1⟩:=ha0;obtain⟨c2,d2,rfl,e2,f2⟩:=Nw;obtain⟨x1,x2,x3⟩:=e1.bE;obtain⟨y1,y2,y3⟩:=f1.bE;obtain⟨z1,z2,z3⟩:=e2.bE;obtain⟨w1,w2,w3⟩:=f2.bE;have g2:(St.new s1 (.cells [.bool false,.ae,.ae] 105 false)).m.g s1.nx=some (.cells [.bool false,.ae,.ae] 105 false):=ao _ _;have g3:(St.new (St.new s1 (.cells [.bool false,.ae,.ae] 105 false)) (.cells [.bool false,.ae,.ae] 105 false)).m.g (s1.nx+1)=some (.cells [.bool false,.ae,.ae] 105 false):=ao (St.new s1 (.cells [.bool false,.ae,.ae] 105 false)) _;have RZ:(St.new (St.new s1 (.cells [.bool false,.ae,.ae] 105 false)) (.cells [.bool false,.ae,.ae] 105 false)).m.g s1.nx=some (.cells [.bool false,.ae,.ae] 105 false):=(bg _ _ _ uG).trans g2;have n3:(St.new (St.new s1 (.cells [.bool false,.ae,.ae] 105 false)) (.cells [.bool false,.ae,.ae] 105 false)).nx=s1.nx+2:=rfl;have k3:Kp [] s1 (St.new (St.new s1 (.cells [.bool false,.ae,.ae] 105 false)) (.cells [.bool false,.ae,.ae] 105 false)):=((Kp.refl [] s1).new _).new _;have y0:(St.new s1 (.cells [.bool false,.ae,.ae] 105 false)).nx=s1.nx+1:=rfl;simp only[aE,aN,af,cH,aS,y0];generalize St.new (St.new s1 (.cells [.bool false,.ae,.ae] 105 false)) (.cells [.bool false,.ae,.ae] 105 false)=s3 at*;have kP:∀a b c:CV,bD [.bool false,.ae,.ae] 0 [a,b,c]=[a,b,c]:=λa b c=>rfl;rw[aJ,RZ,aW,aT,kP];refine⟨⟨rfl,abV,uG⟩,?_⟩;rw[aJ,al _ _ _ _ qE,g3,aW,aT,kP];refine⟨⟨rfl,by simp[z2,w2],uG⟩,?_⟩;have kA:Kp [] s1 (St.set s3 s1.nx (.cells [.bool (cQ n i).1.leaf,c1,d1] 105 false)):=k3.set _ (.inr (aEQ _)) qE
 have kB:Kp [] s1 (St.set (St.set s3 s1.nx (.cells [.bool (cQ n i).1.leaf,c1,d1] 105 false)) (s1.nx+1) (.cells [.bool (cQ n i).2.2.leaf,c2,d2] 105 false)):=kA.set _ (.inr qE) vR;have gA:(St.set (St.set s3 s1.nx (.cells [.bool (cQ n i).1.leaf,c1,d1] 105 false)) (s1.nx+1) (.cells [.bool (cQ n i).2.2.leaf,c2,d2] 105 false)).m.g s1.nx=some (.cells [.bool (cQ n i).1.leaf,c1,d1] 105 false):=(al _ _ _ _ qE).trans (ar _ _ _);have gB:(St.set (St.set s3 s1.nx (.cells [.bool (cQ n i).1.leaf,c1,d1] 105 false)) (s1.nx+1) (.cells [.bool (cQ n i).2.2.leaf,c2,d2] 105 false)).m.g (s1.nx+1)=some (.cells [.bool (cQ n i).2.2.leaf,c2,d2] 105 false):=ar _ _ _;have nB:(St.set (St.set s3 s1.nx (.cells [.bool (cQ n i).1.leaf,c1,d1] 105 false)) (s1.nx+1) (.cells [.bool (cQ n i).2.2.leaf,c2,d2] 105 false)).nx=s1.nx+2:=n3;generalize St.set (St.set s3 s1.nx (.cells [.bool (cQ n i).1.leaf,c1,d1] 105 false)) (s1.nx+1) (.cells [.bool (cQ n i).2.2.leaf,c2,d2] 105 false)=s5 at*;have Hg:=k1.trans kB uG;rw[bG,aK (n:=3) gA rfl,af];refine(w9 (Hg.fresh hf) (n:=(cQ n i).1) ⟨c1,d1,rfl,e1.mono kB,f1.mono kB⟩ nb1).mono ?_;intro x9 s6 m6;have k6:=m6.kp;have gB6:=(k6.keep _ qE uG).trans gB;rw[(m6.sl [] uG).len (cQ n i).1.size aef qE s6,af,aK (n:=3) gB6 rfl,af];refine(w9 (k6.fresh (Hg.fresh hf)) (n:=(cQ n i).2.2) ⟨c2,d2,rfl,(e2.mono kB).mono k6,(f2.mono kB).mono k6⟩ nb2).mono ?_;intro dw s7 m7;have k7:=m7.kp;rw[(m7.sl [] uG).len (cQ n i).2.2.size aef qE s7,af];have sa:=nb1.size;have sb:=nb2.size;rw[aK (n:=3) gB rfl];have es:∀s,ai .sub none false (I (cQ n i).1.size) (I (cQ n i).2.2.size) s=.ok (I (((cQ n i).1.size:Int)-(cQ n i).2.2.size)) s:=λs=>acP
 have en:∀s,kY .neg (I (((cQ n i).1.size:Int)-(cQ n i).2.2.size)) s=.ok (I (-(((cQ n i).1.size:Int)-(cQ n i).2.2.size))) s:=λs=>by
  have:kY .neg (I (((cQ n i).1.size:Int)-(cQ n i).2.2.size)) s=.ok (I (IntKind.i64.wrap (0-(((cQ n i).1.size:Int)-(cQ n i).2.2.size)))) s:=rfl;rw[this,bz qE];congr 2;omega
 have em:∀(a b:Int) s,Cz true (I a) (I b) s=.ok (I (if a<b then b else a)) s:=λa b s=>rfl;simp only[es,af,en,em,aHa,and_true];refine⟨?_,(Hg.trans k6 uG).trans k7 uG⟩;unfold gR
 congr 1
 split<;>omega
def Ta {v:CV}{n:bp}(hf:eH st)(h:IsNode st [] v n)(hn:n.ok)(hl:n.cells.length<=1000)(Rr:cG n<n.cells.length):
 R 109 [v] st λx st'=>∃a b,x=.tuple [a,.str (xS n).2.1,b]/\Kp [] st st'/\(∀X,(∀b∈X,b<st.nx)->IsNode st' X a (xS n).1)/\(∀X,(∀b∈X,b<st.nx)->IsNode st' X b (xS n).2.2):=by
 obtain⟨vc,vk,rfl,h1,h2⟩:=h;refine bP ?_;rw[alj];rw[bV,aT];refine⟨rfl,?_⟩;have k1:Kp [] st (St.new st (.cells [.bool n.leaf,vc,vk] 105 false)):=(Kp.refl [] st).new _;have g1:(St.new st (.cells [.bool n.leaf,vc,vk] 105 false)).m.g st.nx=some (.cells [.bool n.leaf,vc,vk] 105 false):=ao _ _;have n1:(St.new st (.cells [.bool n.leaf,vc,vk] 105 false)).nx=st.nx+1:=rfl;generalize St.new st (.cells [.bool n.leaf,vc,vk] 105 false)=s1 at*;have k2:Kp [] s1 (St.new s1 (.cells [.bool false,.ae,.ae] 105 false)):=(Kp.refl [] s1).new _;have g2:(St.new s1 (.cells [.bool false,.ae,.ae] 105 false)).m.g s1.nx=some (.cells [.bool false,.ae,.ae] 105 false):=ao _ _;have n2:(St.new s1 (.cells [.bool false,.ae,.ae] 105 false)).nx=s1.nx+1:=rfl;rw[cH,aS];generalize St.new s1 (.cells [.bool false,.ae,.ae] 105 false)=s2 at*;have k3:Kp [] s2 (St.new s2 (.cells [.bool false,.ae,.ae] 105 false)):=(Kp.refl [] s2).new _;have g3:(St.new s2 (.cells [.bool false,.ae,.ae] 105 false)).m.g s2.nx=some (.cells [.bool false,.ae,.ae] 105 false):=ao _ _;have n3:(St.new s2 (.cells [.bool false,.ae,.ae] 105 false)).nx=s2.nx+1:=rfl;rw[cH,aS];generalize St.new s2 (.cells [.bool false,.ae,.ae] 105 false)=s3 at*;have nE:=(k3.keep st.nx qE uG).trans ((k2.keep st.nx qE uG).trans g1);have Hu:=(k3.keep s1.nx qE uG).trans g2;have jN:=(k1.trans k2 uG).trans k3 uG
 have go:∀Q:CV->St->Prop,(∀x s,(∃a b,x=.tuple [a,.str (xS n).2.1,b]/\Kp [] st s/\(∀X,(∀b∈X,b<st.nx)->IsNode s X a (xS n).1)/\(∀X,(∀b∈X,b<st.nx)->IsNode s X b (xS n).2.2))->Q x s)->∀b0:Nat,b0=cG n->
  cZ (λmP s9 CM=>fl 1 (au 0 mP) s9 λef=>us (bo .slice ef s9) λeF=>us (ai .lss none false (au 5 mP) eF s9) λdQ=>
   aD dQ (fF R (au 3 mP) [au 5 mP] s9 λeX s10=>fF R (au 3 mP) [au 4 mP] s10 λfv dq=>us (ai .lss none false eX fv dq) λfM=>
    aD fM (us (ai .add none true (au 5 mP) (.int .i64 1) dq) λgu=>CM [au 0 mP,au 1 mP,au 2 mP,au 3 mP,au 5 mP,gu] dq)
     (us (ai .add none true (au 5 mP) (.int .i64 1) dq) λgW=>CM [au 0 mP,au 1 mP,au 2 mP,au 3 mP,au 4 mP,gW] dq))
    (us (aI 3 (au 0 mP) s9) λiI=>R 151 [iI,au 4 mP] s9 λgO bO=>us (av gO 0 bO) λiZ=>us (av gO 1 bO) λiH=>us (av gO 2 bO) λjn=>
     upon (aR 3 (au 1 mP) iZ bO) λ_ ey=>upon (aR 3 (au 2 mP) jn ey) λ_ eT=>us (aI 3 (au 1 mP) eT) λiK=>us (aI 3 (au 2 mP) eT) λju=>Q (.tuple [iK,iH,ju]) eT))
   [.ptr st.nx 0,.ptr s1.nx 0,.ptr s2.nx 0,.func (.func 150) [] [.ptr st.nx 0],I b0,I ((b0+1:Nat):Int)] s3:=by
  intro Q hQ b0 Nw;refine bN (λfu vs s=>∃i b:Nat,i+fu=n.cells.length/\b<i/\cG n<=b/\vs=[.ptr st.nx 0,.ptr s1.nx 0,.ptr s2.nx 0,.func (.func 150) [] [.ptr st.nx 0],I b,I i]/\Kp [] s3 s/\tp n fu i b=ik n) ?_ (n:=n.cells.length-(cG n+1)) ⟨b0+1,b0,qE,qE,qE,rfl,Kp.refl _ _,by rw[Nw];rfl⟩;rintro fu vs s k ⟨i,b,hi,hbi,hfb,rfl,hk,CW⟩ next;have mr:=jN.trans hk uG;have gs:=(hk.keep st.nx qE uG).trans nE;have gs2:=(hk.keep s1.nx qE uG).trans Hu;have gs3:=(hk.keep s2.nx qE uG).trans g3;have hns:=hk.nx;have hlen:=(h1.mono mr).len n.cells.length (bB _) qE s;simp only[aL,aM,fl,ah,af,aB,gs,aq,aER,aEN,aEL,ay,hlen,dC,ag]
  by_cases hc:i<n.cells.length
  .obtain⟨f,rfl⟩:∃f,fu=f+1:=⟨fu-1,qE⟩;rw[aEV hc,aEW rfl,dM];simp only[aFt,aFS];refine(Cj (mr.fresh hf) qE gs (h1.mono mr) (h2.mono mr) hn hl hc).mono ?_;rintro _ s10 ⟨rfl,qh⟩;have pG:=mr.trans qh uG;rw[dM];simp only[aFt,aFS];refine(Cj (pG.fresh hf) (by have:=qh.nx;omega) ((qh.keep st.nx qE uG).trans gs) (h1.mono pG) (h2.mono pG) hn hl (i:=b) qE).mono ?_;rintro _ dq ⟨rfl,qx⟩;simp only[dC,af,ag,gH i qE];have afV:=(hk.trans qh uG).trans qx uG;simp only[tp]at CW
   by_cases hu:gR n i<gR n b
   .rw[aEV hu,aEW rfl];rw[aEW hu]at CW;exact next f _ _ qE ⟨i+1,i,qE,qE,qE,rfl,afV,CW⟩
   .rw[aEO hu,aET u7];rw[aET hu]at CW;exact next f _ _ qE ⟨i+1,b,qE,qE,qE,rfl,afV,CW⟩
  .have hfu:fu=0\/n.cells.length<i:=by omega
   have hb:b=ik n:=by
    rcases hfu with rfl|h
    .exact CW
    .omega
   subst hb;have hlt:=(yF n Rr).2.1;rw[aEO hc,aET u7,aK (n:=3) gs rfl,af];refine(X9 ⟨vc,vk,rfl,h1.mono mr,h2.mono mr⟩ qE hn.jw hlt).mono ?_;rintro _ bO ⟨a,b,rfl,qg,ha,hb⟩;have Om:=qg.nx;have gA:=(qg.keep s1.nx qE uG).trans gs2;have gB:=(qg.keep s2.nx qE uG).trans gs3;have ha':=ha [s1.nx,s2.nx] vR;have qz:=hb [s1.nx,s2.nx] vR;obtain⟨c1,d1,rfl,e1,f1⟩:=ha';obtain⟨c2,d2,rfl,e2,f2⟩:=qz;obtain⟨x1,x2,x3⟩:=e1.bE;obtain⟨y1,y2,y3⟩:=f1.bE;obtain⟨z1,z2,z3⟩:=e2.bE;obtain⟨w1,w2,w3⟩:=f2.bE;have kP:∀a b c:CV,bD [.bool false,.ae,.ae] 0 [a,b,c]=[a,b,c]:=λa b c=>rfl;simp only[aE,aN,af];rw[aJ,gA,aW,aT,kP];refine⟨⟨rfl,abV,uG⟩,?_⟩;rw[aJ,al _ _ _ _ qE,gB,aW,aT,kP];refine⟨⟨rfl,by simp[z2,w2],uG⟩,?_⟩;rw[aK (n:=3) ((al _ _ _ _ qE).trans (ar _ _ _)) rfl,af,aK (n:=3) (ar _ _ _) rfl,af];have kB:Kp [s1.nx,s2.nx] bO (St.set (St.set bO s1.nx (.cells [.bool (cQ n (ik n)).1.leaf,c1,d1] 105 false)) s2.nx (.cells [.bool (cQ n (ik n)).2.2.leaf,c2,d2] 105 false)):=((Kp.refl _ bO).set (p:=s1.nx) _ (.inl uG) qE).set (p:=s2.nx) _ (.inl uG) vR;refine hQ _ _ ⟨_,_,rfl,(mr.trans qg uG).trans kB vR,λX hX=>?_,λX hX=>?_⟩
   .have:=ha (X++[s1.nx,s2.nx]) (by intro b hb;simp at hb;rcases hb with h|h|h;have:=hX b h;omega;omega;omega);exact(this.mono (kB.mono uG)).dW (by intro q hq;simp[hq])
   .have:=hb (X++[s1.nx,s2.nx]) (by intro b hb;simp at hb;rcases hb with h|h|h;have:=hX b h;omega;omega;omega);exact(this.mono (kB.mono uG)).dW (by intro q hq;simp[hq])
 have LK:=(h1.mono jN).len n.cells.length (bB _) qE s3;simp only[cV,aL,aM,fl,ah,af,aB,nE,aq,aER,aEN,aEL,ay,ag,LK,lB];unfold cG at Rr;cases fL:n.leaf with
 |true=>
  rw[fL,aEW rfl]at Rr;have e1:ai .leq none false (I n.cells.length) (.int .i64 1) s3=.ok (.bool false) s3:=by rw[az,iy,aEO qE]
  have e2:ai .add none true (.int .i64 1) (.int .i64 1) s3=.ok (I ((1+1:Nat):Int)) s3:=rfl;rw[aEW rfl,e1,af,ag,aET u7,e2,af];have:=go _ (λx s h=>h) 1 (by unfold cG;rw[fL,aEW rfl]);simp only[fl]at this⊢;exact this
 |false=>
  rw[fL,aET u7]at Rr;have e1:ai .leq none false (I n.cells.length) (.int .i64 0) s3=.ok (.bool false) s3:=by rw[az,iy,aEO qE]
  have e2:ai .add none true (.int .i64 0) (.int .i64 1) s3=.ok (I ((0+1:Nat):Int)) s3:=rfl;rw[aET u7,e1,af,ag,aET u7,e2,af];have:=go _ (λx s h=>h) 0 (by unfold cG;rw[fL,aET u7]);simp only[fl]at this⊢;exact this
end
