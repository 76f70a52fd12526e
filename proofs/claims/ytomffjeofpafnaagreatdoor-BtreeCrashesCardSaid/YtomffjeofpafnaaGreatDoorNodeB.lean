import Derived.Test.YtomffjeofpafnaaGreatDoorNodeA
namespace Lim
open Go
noncomputable section
set_option linter.defProp false
set_option maxRecDepth 100000
section
variable {st st':St}
def Nk {X:List Nat}{v:CV}{z:Nat}(hs:Sl st X v 1 (aj (List.replicate z 0)))(hl:z<=1000000):R 178 [v,.func (.func 179) [] []] st λx st'=>x=.bool false/\Kp [] st st':=by
 refine bN ?_;rw[ajd]
 have key:R 200 [v,.func (.func 179) [] []] st λx st'=>x=.int .i64 (-1)/\Kp [] st st':=by
  refine bN ?_;rw[aiR];have hlen:=hs.len z rq pX st;simp only[cK,aH,aI,hlen,af];refine bK (λfu vs s=>∃i,fu+i=z/\vs=[v,.func (.func 179) [] [],I z,I i]/\Kp [] st s) ?_ (n:=z) ⟨0,rfl,rfl,Kp.refl _ _⟩;rintro fu vs s k ⟨i,hi,rfl,nt⟩ next;simp only[aH,aI,dq,af,ag]
  by_cases hc:i<z
  .rw[aDz hc,aDy rfl];have HB:=(hs.dz (Y:=[]) rq).mono nt;refine HB.idx (i:=i) Hw _ ?_;have e:(aj (List.replicate z 0))[i]'(by simpa using hc)=.int .u8 0:=by simp[aj,bP]
   rw[e,dM];simp only[aDV,aEs];refine bN ?_;rw[ajc];simp only[ay,fq,aEq,aDJ,af,ag,aDp,aDE];have a1:=gT i pX s none;rw[ay]at a1;rw[a1,af];exact next (fu-1) _ _ pX ⟨i+1,pX,rfl,nt⟩
  .rw[aDr hc,aDv wI];exact⟨adu,nt⟩
 refine key.mono ?_;rintro _ s ⟨rfl,h⟩;simp[h]
structure Dec (jO s:St)(b1 b9 r:Nat)(F:List Nat)(leaf:Bool)(vc vk:CV)(cells:List dh)(kids:List Nat)(L:List UInt8)(Fc Fk:List Nat):Prop where
 kp:Kp [] jO s
 g1:s.m.g b1=some (.cells [.bool false,.ae,.ae] 105 false)
 g9:s.m.g b9=some (.cells [.bool leaf,vc,vk] 105 false)
 rd:oo s r F L
 oc:Own s vc 4 109 (bG cells) Fc
 ok:Own s vk 1 3 (cF kids) Fk
 lt:∀b,b=b1\/b=b9\/b∈F\/b∈Fc\/b∈Fk->jO.nx<=b/\b<s.nx
 ne:b1≠b9/\b1∉F/\b9∉F
 dc:∀b∈Fc,b≠b1/\b≠b9/\b∉F/\b∉Fk
 dk:∀b∈Fk,b≠b1/\b≠b9/\b∉F
def wy (n:bg)(st:St)(y:CV)(st':St):Prop:=∃x,y=.tuple [x,I 0]/\Kp [] st st'/\∀X,(∀b∈X,b<st.nx)->IsNode st' X x n
def MC {v:CV}{n:bg}{z:Nat}(hf:eM st)(h:Sl st [] v 1 (aj (mD n++List.replicate z 0)))(hn:n.ok)(hl:n.size+z<=512):R 138 [v] st (wy n st):=by
 have qC:n.cells.length<=512:=by
  have:=eT n.leaf n.cells;rw[cc]at hl;omega
 refine bN ?_;rw[ajI];have k1:Kp [] st (St.new st (.cells [.bool false,.ae,.ae] 105 false)):=(Kp.refl [] st).new _;have g1:(St.new st (.cells [.bool false,.ae,.ae] 105 false)).m.g st.nx=some (.cells [.bool false,.ae,.ae] 105 false):=aw _ _;have n1:(St.new st (.cells [.bool false,.ae,.ae] 105 false)).nx=st.nx+1:=rfl;rw[cE,aT];generalize St.new st (.cells [.bool false,.ae,.ae] 105 false)=s1 at*;have hlen:(mD n++List.replicate z 0).length=n.size+z:=by rw[aDw,aEo];rfl
 have e1:ai .gtr none true (I ((n.size+z:Nat):Int)) (.int .i64 512) s1=.ok (.bool false) s1:=by rw[ay,dx,aDr pX]
 rw[(h.mono k1).len (n.size+z) (by rw[bJ,hlen];omega) pX s1];simp only[af,e1,ag,aDp,aDE];refine(vR (h.mono k1) pX).mono ?_;rintro _ s3 ⟨r,F,rfl,k3,rd3,yn⟩;have Ml:∀b∈F,b<s3.nx:=by obtain⟨q,vv,G,rfl,_,h,_⟩:=rd3;exact h
 have e2:mD n++List.replicate z 0=uv (if n.leaf=true then 1 else 0)++(uv n.cells.length++(cR n.leaf n.cells++((if n.leaf=true then []else eK n.kids)++List.replicate z 0))):=by unfold mD;simp
 rw[e2]at rd3;refine(Ot rd3).mono ?_;rintro _ s4 ⟨rfl,k4,n4,rd4⟩;have mR:bu [.bool false,.ae,.ae] [(0,1,.bool n.leaf)] s4=.ok (.agg [.bool n.leaf,.ae,.ae]) s4:=rfl;rw[mR,af];refine ud rfl rfl rfl ?_;have n31:=k3.nx;have g4:=(k4.keep st.nx pX (λh=>by have:=yn _ h;omega)).trans ((k3.keep st.nx pX rq).trans g1);have k5:Kp [] s4 (St.new s4 (.cells [.bool n.leaf,.ae,.ae] 105 false)):=(Kp.refl _ s4).new _;have TK:=(k1.trans k3 rq).trans k4 λq hq=>.inr (by have:=yn q hq;omega)
 have lt0:∀b,b=st.nx\/b=s4.nx\/b∈F\/b∈([]:List Nat)\/b∈([]:List Nat)->st.nx<=b/\b<(St.new s4 (.cells [.bool n.leaf,.ae,.ae] 105 false)).nx:=by
  intro b hb;rcases hb with rfl|rfl|hb|hb|hb
  .simp;omega
  .simp;omega
  .have:=yn b hb;have:=Ml b hb;simp;omega
  .cases hb
  .cases hb
 have D0:Dec st (St.new s4 (.cells [.bool n.leaf,.ae,.ae] 105 false)) st.nx s4.nx r F n.leaf .ae .ae [] [] (uv n.cells.length++(cR n.leaf n.cells++((if n.leaf=true then []else eK n.kids)++List.replicate z 0))) [] []:=
  ⟨TK.trans k5 rq,(k5.keep _ pX rq).trans g4,aw _ _,rd4.keep k5 rq,.inl ⟨rfl,rfl,rfl⟩,.inl ⟨rfl,rfl,rfl⟩,lt0,⟨pX,λh=>by have:=yn _ h;omega,λh=>by have:=Ml _ h;omega⟩,rq,rq⟩
 generalize hb9:s4.nx=b9 at*;generalize KB:st.nx=b1 at*;have Pe:=KB;generalize St.new s4 (.cells [.bool n.leaf,.ae,.ae] 105 false)=s6 at*;clear g4 k5 TK rd4 k4 n4 rd3 k3 n31 mR;refine iN (λvs s=>∃vc Fc,vs=[v,.ptr b1 0,.ptr r 0,.ptr b9 0]/\Dec st s b1 b9 r F n.leaf vc .ae n.cells [] ((if n.leaf=true then []else eK n.kids)++List.replicate z 0) Fc []) ?_ ?_
 .intro rn oY;rw[cK];refine(kP (n:=n.cells.length) (m:=512) D0.rd qC pX).mono ?_;rintro _ s7 ⟨rfl,k7,n7,rd7⟩
  have D7:Dec st s7 b1 b9 r F n.leaf .ae .ae [] [] (cR n.leaf n.cells++((if n.leaf=true then []else eK n.kids)++List.replicate z 0)) [] []:=
   ⟨D0.kp.trans k7 λq hq=>.inr (D0.lt q WD).1,(k7.keep b1 (D0.lt b1 rq).2 D0.ne.2.1).trans D0.g1,(k7.keep b9 (D0.lt b9 rq).2 D0.ne.2.2).trans D0.g9,rd7,.inl ⟨rfl,rfl,rfl⟩,.inl ⟨rfl,rfl,rfl⟩,λb hb=>by rw[n7];exact D0.lt b hb,D0.ne,rq,rq⟩
  simp only[aH,aI];refine bK (λfu vs s=>∃i vc Fc,fu+i=n.cells.length/\vs=[v,.ptr b1 0,.ptr r 0,.ptr b9 0,I n.cells.length,I i]/\Dec st s b1 b9 r F n.leaf vc .ae (n.cells.take i) [] (cR n.leaf (n.cells.drop i)++((if n.leaf=true then []else eK n.kids)++List.replicate z 0)) Fc []) ?_ (n:=n.cells.length) ⟨0,.ae,[],rfl,rfl,by simpa using D7⟩;rintro fu vs s k ⟨i,vc,Fc,hi,rfl,D⟩ next;simp only[aH,aI,dq,af,ag]
  by_cases hc:i<n.cells.length
  .rw[aDz hc,aDy rfl];refine(qh D.rd).same ?_;simp only[cN,af,aDJ,ag,aDp,aDE,bA];have PH:=D.kp.fresh hf;have IM:Kp [] s (St.skip s):=(Kp.refl _ s).skip;have V3:(St.skip s).m.g b9=some (.cells [.bool n.leaf,vc,.ae] 105 false):=D.g9;have jd:(St.skip s).m.g s.nx=none:=PH _ (aDt _);have nsk:(St.skip s).nx=s.nx+1:=rfl;have rdk:=D.rd.keep IM rq;have ock:=D.oc.keep IM λb hb=>⟨(D.lt b Ww).2,rq⟩;have g1k:(St.skip s).m.g b1=_:=D.g1;generalize St.skip s=sk at*;have l9:=D.lt b9 rq;have l1:=D.lt b1 rq;have lF:∀b∈F,st.nx<=b/\b<s.nx:=λb hb=>D.lt b Ww;have lc:∀b∈Fc,st.nx<=b/\b<s.nx:=λb hb=>D.lt b Ww;simp only[ah,af,aC,V3,ar,aDx,aDq,aDo,az];have DW:=hn.cell _ (aDL hc);rw[aDN hc,fx,aDY]at rdk;refine(Ut rdk DW (λb hb=>adk)).mono ?_;rintro _ sl ⟨rfl,kl,rdl⟩;have nl:=kl.nx;have Yc:s.nx∉F:=λh=>by have:=lF _ h;omega
   have Gh:=(kl.keep s.nx pX Yc).trans jd;have gl:=(kl.keep b9 pX D.ne.2.2).trans V3;have g1l:=(kl.keep b1 pX D.ne.2.1).trans g1k;have ocl:=ock.keep kl λb hb=>⟨abf,(D.dc b hb).2.2.1⟩;refine Ei 48 ocl pX (λq hq=>by have:=lc q hq;omega) pX Gh rfl rfl rfl (gz _) (by rw[bM,aDF];omega) ?_;intro v' s2 F' o2 k2 vd;have gl2:(St.set sl s.nx (.cells (CV.agg (aZ n.cells[i])).cA 109 false)).m.g b9=some (.cells [.bool n.leaf,vc,.ae] 105 false):=(al _ _ _ _ pX).trans gl;have nn2:=k2.nx;have g92:=(k2.keep b9 pX (by simp only[aDs,aEM];exact⟨pX,λh=>(D.dc b9 h).2.1 rfl⟩)).trans gl;have tk:=(k2.keep b1 pX (by simp only[aDs,aEM];exact⟨pX,λh=>(D.dc b1 h).1 rfl⟩)).trans g1l;have rd2:=rdl.keep k2 (λb hb=>by simp only[aDs,aEM];exact⟨adk,λh=>(D.dc b h).2.2.1 hb⟩);obtain⟨c1,c2⟩:=o2.ck;have kq:bo [.bool n.leaf,vc,.ae] 1 [v']=[.bool n.leaf,v',.ae]:=rfl;simp only[gl2,ar,aDq,aDo,az,aFw,and_true,af,aF,g92,aS,c2,kq,gT i pX];refine⟨⟨rfl,by simp[c1],rq⟩,?_⟩
   have e5:bG (n.cells.take i)++(CV.agg (aZ n.cells[i])).cA=bG (n.cells.take (i+1)):=by
    rw[aDH hc,gX];simp[bG]
   rw[e5]at o2
   have ks:=((D.kp.trans IM rq).trans kl λq hq=>.inr (lF q hq).1).trans k2 λq hq=>.inr (by
    rcases aDs.1 hq with rfl|hq
    .omega
    .exact(lc q hq).1)
   have U1:∀b∈F',st.nx<=b/\b<s2.nx/\(b∈Fc\/sl.nx<=b):=λb hb=>by
    obtain⟨a1,a2⟩:=vd b hb;refine⟨?_,a2,a1⟩;rcases a1 with h|h
    .exact(lc b h).1
    .omega
   have Zl:b9∉F':=λh=>by
    rcases(U1 b9 h).2.2 with h|h
    .exact(D.dc b9 h).2.1 rfl
    .omega
   refine next (fu-1) _ _ pX ⟨i+1,v',F',pX,rfl,ks.set _ (.inr l9.1) pX,?_,aq _ _ _,?_,o2.mono λb hb=>al _ _ _ _ (λe=>Zl (e▸hb)),.inl ⟨rfl,rfl,rfl⟩,λb hb=>?_,D.ne,λb hb=>?_,rq⟩
   .exact(al _ _ _ _ D.ne.1).trans tk
   .exact rd2.keep (X:=[b9]) ((Kp.refl _ s2).set (p:=b9) _ (.inl rq) pX) (λb hb=>by simp;exact λe=>D.ne.2.2 (e▸hb))
   .show st.nx<=b/\b<s2.nx;rcases hb with rfl|rfl|hb|hb|hb
    .omega
    .omega
    .have:=lF b hb;omega
    .have:=U1 b hb;omega
    .cases hb
   .rcases(U1 b hb).2.2 with h|h
    .exact D.dc b h
    .exact⟨pX,pX,λh2=>by have:=lF b h2;omega,rq⟩
  .rw[aDr hc,aDv wI];have e5:n.cells.take i=n.cells:=aDA pX;have e6:n.cells.drop i=[]:=aEa pX;rw[e5,e6]at D;exact oY _ _ ⟨vc,Fc,rfl,by simpa[cR]using D⟩
 .rintro _ s7 ⟨vc,Fc,rfl,D7⟩;simp only[cK,aH,aI];have qA:=hn.jA;have alZ:∀s,Own s vc 4 109 (bG n.cells) Fc->(∀b∈Fc,b<s.nx)->Sl s [] vc 4 (bG n.cells):=λs ho hb=>ho.sl λb h=>⟨rq,hb b h⟩;refine bK (λfu vs s=>∃i vk Fk,fu+i=n.kids.length/\vs=[v,.ptr b1 0,.ptr r 0,.ptr b9 0,I i]/\Dec st s b1 b9 r F n.leaf vc vk n.cells (n.kids.take i) ((if n.leaf=true then []else eK (n.kids.drop i))++List.replicate z 0) Fc Fk) ?_ (n:=n.kids.length) ⟨0,.ae,[],rfl,rfl,by simpa using D7⟩;rintro fu vs s k ⟨i,vk,Fk,hi,rfl,D⟩ next;have l9:=D.lt b9 rq;have l1:=D.lt b1 rq;have lF:∀b∈F,st.nx<=b/\b<s.nx:=λb hb=>D.lt b Ww;have lc:∀b∈Fc,st.nx<=b/\b<s.nx:=λb hb=>D.lt b Ww;have lk:∀b∈Fk,st.nx<=b/\b<s.nx:=λb hb=>D.lt b Ww;have aeh:=(alZ s D.oc λb hb=>(lc b hb).2).len n.cells.length (bM _) pX s;have elq:ai .leq none false (I i) (I n.cells.length) s=.ok (.bool (decide (i<=n.cells.length))) s:=by rw[ay,pF];congr 2;simp only[aDU];omega
  simp only[aH,aI,fl,ah,af,aC,D.g9,ar,aDx,aDq,aDo,az,aeh,elq,aL,aDQ]
  by_cases hc:i<n.kids.length
  .have fY:n.leaf=false:=by
    cases h:n.leaf with
    |false=>rfl
    |true=>rw[h,aDy rfl]at qA;omega
   rw[fY,aDv wI]at qA;rw[aDz pX];simp only[bp,af,eE];refine(qh D.rd).same ?_;have Bc:=D.rd;have hg9:=D.g9;rw[fY]at hg9;rw[aDv aaV]at Bc;simp only[af,aJ,aDQ,aL,jV,bp,ah,aC,hg9,ar,aDx,aDo,az,cN,aDI,ag,bA];have PH:=D.kp.fresh hf;have IM:Kp [] s (St.skip s):=(Kp.refl _ s).skip;have V3:(St.skip s).m.g b9=some (.cells [.bool false,vc,vk] 105 false):=hg9;have jd:(St.skip s).m.g s.nx=none:=PH _ (aDt _);have nsk:(St.skip s).nx=s.nx+1:=rfl;have rdk:=Bc.keep IM rq;have okk:=D.ok.keep IM λb hb=>⟨(lk b hb).2,rq⟩;have ock:=D.oc.keep IM λb hb=>⟨(lc b hb).2,rq⟩;have g1k:(St.skip s).m.g b1=_:=D.g1;generalize St.skip s=sk at*;simp only[V3,ar,aDq,aDo,az];rw[aDN hc,nX,aDY]at rdk;have hkm:=hn.BV _ (aDL hc);refine(kP (n:=n.kids[i]) (m:=2147483647) rdk hkm pX).mono ?_;rintro _ sl ⟨rfl,kl,nl,rdl⟩;have Yc:s.nx∉F:=λh=>by have:=lF _ h;omega
   have Gh:=(kl.keep s.nx pX Yc).trans jd;have gl:=(kl.keep b9 pX D.ne.2.2).trans V3;have g1l:=(kl.keep b1 pX D.ne.2.1).trans g1k;have okl:=okk.keep kl λb hb=>⟨by have:=lk b hb;omega,(D.dk b hb).2.2⟩;have ocl:=ock.keep kl λb hb=>⟨abf,(D.dc b hb).2.2.1⟩;have ayu:n.kids.length<=513:=pX
   refine Ei 8 okl pX (λq hq=>by have:=lk q hq;omega) pX Gh rfl rfl rfl rfl (by rw[pJ,aDF];omega) ?_;intro v' s2 F' o2 k2 vd;have gl2:(St.set sl s.nx (.cells (CV.cA (I n.kids[i])) 3 false)).m.g b9=some (.cells [.bool false,vc,vk] 105 false):=(al _ _ _ _ pX).trans gl;have nn2:=k2.nx;have g92:=(k2.keep b9 pX (by simp only[aDs,aEM];exact⟨pX,λh=>(D.dk b9 h).2.1 rfl⟩)).trans gl;have tk:=(k2.keep b1 pX (by simp only[aDs,aEM];exact⟨pX,λh=>(D.dk b1 h).1 rfl⟩)).trans g1l;have rd2:=rdl.keep k2 (λb hb=>by simp only[aDs,aEM];exact⟨adk,λh=>(D.dk b h).2.2 hb⟩);have SV:=ocl.keep k2 (λb hb=>⟨abf,by simp only[aDs,aEM];exact⟨abf,(D.dc b hb).2.2.2⟩⟩);obtain⟨c1,c2⟩:=o2.ck;have kq:bo [.bool false,vc,vk] 2 [v']=[.bool false,vc,v']:=rfl;have adM:bo [.bool false,vc,vk] 2 (CV.cA v')=[.bool false,vc,v']:=by rw[c2];rfl
   simp only[gl2,ar,aDq,aDo,az,aFw,and_true,af,aF,g92,aS,c2,kq,gT i pX];refine⟨⟨rfl,by simp[c1],rq⟩,?_⟩
   have e5:cF (n.kids.take i)++CV.cA (I n.kids[i])=cF (n.kids.take (i+1)):=by
    rw[aDH hc,ns];simp[cF]
   rw[e5]at o2
   have ks:=((D.kp.trans IM rq).trans kl λq hq=>.inr (lF q hq).1).trans k2 λq hq=>.inr (by
    rcases aDs.1 hq with rfl|hq
    .omega
    .exact(lk q hq).1)
   have U1:∀b∈F',st.nx<=b/\b<s2.nx/\(b∈Fk\/sl.nx<=b):=λb hb=>by
    obtain⟨a1,a2⟩:=vd b hb;refine⟨?_,a2,a1⟩;rcases a1 with h|h
    .exact(lk b h).1
    .omega
   have Zl:b9∉F':=λh=>by
    rcases(U1 b9 h).2.2 with h|h
    .exact(D.dk b9 h).2.1 rfl
    .omega
   refine next (fu-1) _ _ pX ⟨i+1,v',F',pX,rfl,ks.set _ (.inr l9.1) pX,(al _ _ _ _ D.ne.1).trans tk,?_,?_,SV.mono λb hb=>al _ _ _ _ (D.dc b hb).2.1,o2.mono λb hb=>al _ _ _ _ (λe=>Zl (e▸hb)),λb hb=>?_,D.ne,λb hb=>?_,λb hb=>?_⟩
   .rw[fY];exact aq _ _ _
   .rw[aDv aaV];exact rd2.keep (X:=[b9]) ((Kp.refl _ s2).set (p:=b9) _ (.inl rq) pX) (λb hb=>by simp;exact λe=>D.ne.2.2 (e▸hb))
   .show st.nx<=b/\b<s2.nx;rcases hb with rfl|rfl|hb|hb|hb
    .omega
    .omega
    .have:=lF b hb;omega
    .have:=lc b hb;omega
    .have:=U1 b hb;omega
   .refine⟨(D.dc b hb).1,(D.dc b hb).2.1,(D.dc b hb).2.2.1,λh=>?_⟩;rcases(U1 b h).2.2 with h2|h2
    .exact(D.dc b hb).2.2.2 h2
    .have:=lc b hb;omega
   .rcases(U1 b hb).2.2 with h|h
    .exact D.dk b h
    .exact⟨pX,pX,λh2=>by have:=lF b h2;omega⟩
  ·
    have Gw:i=n.kids.length:=pX
    have e5:n.kids.take i=n.kids:=aDA pX;have e6:n.kids.drop i=[]:=aEa pX;rw[e5,e6]at D;have Bc:oo s r F (List.replicate z 0):=by have:=D.rd;cases fY:n.leaf<;>rw[fY]at this<;>simpa[eK]using this
    have Ps:∀s',Kp [] s s'->IsNode s' [] (.agg [.bool n.leaf,vc,vk]) n:=λs' hk=>
     ⟨vc,vk,rfl,(D.oc.keep hk λb hb=>⟨(lc b hb).2,rq⟩).sl λb hb=>⟨rq,by have:=lc b hb;have:=hk.nx;omega⟩,(D.ok.keep hk λb hb=>⟨(lk b hb).2,rq⟩).sl λb hb=>⟨rq,by have:=lk b hb;have:=hk.nx;omega⟩⟩
    have fin:us (bj .slice v s) λjG=>R 156 [.ptr r 0] s λjl iT=>us (ai .sub none false jG jl iT) λjn=>us (aN 1 v (some jn) none iT) λjN=>R 117 [.ptr r 0] iT λjk cO=>us (kF .not jk cO) λjg=>
     us (aX (ak false jg) cO (aK 3 (.ptr b9 0) cO)) λjR=>eR (ak false jg) cO (λk=>R 145 [jR] cO k) λjQ lp=>us (aX (ak false jg) lp (kF .not jQ lp)) λjj=>us (bf jg (.bool true) jj lp) λlY=>
     us (aX (ak false lY) lp (.ok jN lp)) λmK=>eR (ak false lY) lp (λk=>R 178 [mK,.func (.func 179) [] []] lp k) λow dj=>us (bf lY (.bool true) ow dj) λlX=>
     aA lX (us (bu [.bool false,.ae,.ae] [] dj) λoq=>upon (aQ 3 (.ptr b1 0) oq dj) λ_ sS=>us (aK 3 (.ptr b1 0) sS) λqP=>wy n st (.tuple [qP,.int .i64 4]) sS)
      (us (aK 3 (.ptr b9 0) dj) λpv=>upon (aQ 3 (.ptr b1 0) pv dj) λ_ jm=>us (aK 3 (.ptr b1 0) jm) λpS=>wy n st (.tuple [pS,.int .i64 0]) jm):=by
     have hv:=h.mono D.kp;rw[hv.len (n.size+z) (by rw[bJ,hlen];omega) pX s,af];refine(Kb Bc).same ?_;have e7:ai .sub none false (I ((n.size+z:Nat):Int)) (I ((List.replicate z (0:UInt8)).length)) s=.ok (I n.size) s:=by rw[ay,dX,aEo,bB pX];congr 2;omega
     obtain⟨v',q1,q2⟩:=hv.lo (n:=n.size+z) (l:=n.size) pX (by rw[bJ,hlen];omega) pX s;rw[e7,af,q1,af];refine(qh Bc).same ?_;rw[cN,af,aDJ];simp only[aL,aDp,aDE,aDI,bp,eE];rw[aR (n:=3) D.g9 rfl,af];refine(Aq (Ps s (Kp.refl _ _)) hn pX).mono ?_;rintro _ lp ⟨rfl,Er⟩
     have e8:aj (List.replicate z 0)=(aj (mD n++List.replicate z 0)).drop (n.size*1):=by
      rw[bF,aEQ,aFZ (by rw[bJ];rfl)]
     rw[<-e8]at q2;simp only[bp,cN,af,aDJ,aJ,aL,aDp,aDE,aDI,eE];refine(Nk (q2.mono Er) pX).mono ?_;rintro _ dj ⟨rfl,Rx⟩;have IQ:=Er.trans Rx rq;have awS:=IQ.nx;have g98:=(IQ.keep b9 l9.2 rq).trans D.g9;have Uh:=(IQ.keep b1 l1.2 rq).trans D.g1;obtain⟨c1,c2⟩:=D.oc.ck;obtain⟨d1,d2⟩:=D.ok.ck;have kq:bo [.bool false,.ae,.ae] 0 [.bool n.leaf,vc,vk]=[.bool n.leaf,vc,vk]:=rfl;rw[ag,aDv wI,aR (n:=3) g98 rfl,af,aF,Uh,aS,aV,kq];refine⟨⟨rfl,by simp[c1,d1],rq⟩,?_⟩;rw[aR (n:=3) (aq _ _ _) rfl,af];have IP:=IQ;refine⟨_,rfl,(D.kp.trans IQ rq).set _ (.inr l1.1) pX,λX hX=>⟨vc,vk,rfl,?_,?_⟩⟩
     .exact((D.oc.keep IQ λb hb=>⟨(lc b hb).2,rq⟩).mono λb hb=>al _ _ _ _ (D.dc b hb).1).sl λb hb=>⟨λh=>by have:=hX b h;have:=lc b hb;omega,by have:=lc b hb;simp;omega⟩
     .exact((D.ok.keep IQ λb hb=>⟨(lk b hb).2,rq⟩).mono λb hb=>al _ _ _ _ (D.dk b hb).1).sl λb hb=>⟨λh=>by have:=hX b h;have:=lk b hb;omega,by have:=lk b hb;simp;omega⟩
    by_cases hle:i<=n.cells.length
    .have fY:n.leaf=true:=by
      cases h:n.leaf with
      |true=>rfl
      |false=>rw[h,aDv wI]at qA;omega
     rw[aDz hle];simp only[bp,af,eE];refine(qh Bc).same ?_;have hg9:=D.g9;simp only[af,aJ,aDQ,aL,jV,bp,ah,aC,hg9,ar,aDx,aDo,az,cN,fY,aDJ,ag,aDp,aDE]
     simpa only[aH,aI,fY]using fin
    .rw[aDr hle];simp only[cH,af,oS,aJ,aDp,aDE,aL,aDQ,jV,ag];exact fin
end
section
variable {st st':St}
def mW.sl {k e:Nat}{v x:CV}{L:List CV}(h:mW k e v L st x st'):Kp [] st st'/\Sl st' [] x k L:=by
 obtain⟨F,h1,h2,h3,_⟩:=h;exact⟨h1,h2.sl λb hb=>⟨rq,(h3 b hb).2⟩⟩
def yq {v:CV}{n:bg}(h:IsNode st [] v n)(hl:n.cells.length<=100000)(hk:n.kids.length<=100001):R 149 [v] st λx st'=>Kp [] st st'/\∀X,(∀b∈X,b<st.nx)->IsNode st' X x n:=by
 obtain⟨vc,vk,rfl,h1,h2⟩:=h;refine bN ?_;rw[ajz];rw[bW,aV];refine⟨rfl,?_⟩;have k1:Kp [] st (St.new st (.cells [.bool n.leaf,vc,vk] 105 false)):=(Kp.refl [] st).new _;have g1:(St.new st (.cells [.bool n.leaf,vc,vk] 105 false)).m.g st.nx=some (.cells [.bool n.leaf,vc,vk] 105 false):=aw _ _;have n1:(St.new st (.cells [.bool n.leaf,vc,vk] 105 false)).nx=st.nx+1:=rfl;generalize St.new st (.cells [.bool n.leaf,vc,vk] 105 false)=s1 at*;have k2:Kp [] s1 (St.new s1 (.cells [.bool false,.ae,.ae] 105 false)):=(Kp.refl [] s1).new _;have g2:(St.new s1 (.cells [.bool false,.ae,.ae] 105 false)).m.g s1.nx=some (.cells [.bool false,.ae,.ae] 105 false):=aw _ _;have n2:(St.new s1 (.cells [.bool false,.ae,.ae] 105 false)).nx=s1.nx+1:=rfl;rw[cE,aT,bA];generalize St.new s1 (.cells [.bool false,.ae,.ae] 105 false)=s2 at*;have tk:=(k2.keep st.nx pX rq).trans g1;have kW:=k1.trans k2 rq;simp only[ah,af,aC,tk,ar,aDx,aDq,aDo,az];refine(wo (h1.mono kW) (eN _) aaJ).mono ?_;intro x7 s3 hc;obtain⟨k3,c3⟩:=hc.sl;have n3:=k3.nx;have qZ:=(k3.keep st.nx pX rq).trans tk;have kV:=kW.trans k3 rq;simp only[qZ,ar,aDq,aDo,az];refine(Ao (h2.mono kV) (jx _) (by rw[pJ];omega)).mono ?_;intro df s4 hc4;obtain⟨k4,c4⟩:=hc4.sl;have n4:=k4.nx;have Nd:=(k4.keep st.nx pX rq).trans qZ;have RP:=(k4.keep s1.nx pX rq).trans ((k3.keep s1.nx pX rq).trans g2);have c3':=c3.mono k4;obtain⟨p1,p2,p3⟩:=c3.bD;obtain⟨q1,q2,q3⟩:=c4.bD
 have mR:bu [.bool false,.ae,.ae] [(0,1,.bool n.leaf),(1,1,x7),(2,1,df)] s4=.ok (.agg [.bool n.leaf,x7,df]) s4:=by
  rw[dw];simp[cq,bo,p1,p3,q1,q3]
 have kq:bo [.bool false,.ae,.ae] 0 [.bool n.leaf,x7,df]=[.bool n.leaf,x7,df]:=rfl;simp only[mR,af,aF,RP,aS,aV,kq,Nd,ar,aDo,az,aFw,and_true];refine⟨⟨rfl,by simp[p2,q2],rq⟩,?_⟩;rw[aR (n:=3) (aq _ _ _) rfl,af];have k5:Kp [s1.nx] s4 (St.set s4 s1.nx (.cells [.bool n.leaf,x7,df] 105 false)):=(Kp.refl _ s4).set _ (.inl rq) pX;refine⟨(kV.trans k4 rq).set _ (.inr pX) pX,λX hX=>⟨x7,df,rfl,?_,?_⟩⟩
 .obtain⟨F,a1,a2,a3,_⟩:=hc;exact((a2.keep k4 λb hb=>⟨(a3 b hb).2,rq⟩).mono λb hb=>al _ _ _ _ aaL).sl λb hb=>⟨λh=>by have:=hX b h;have:=(a3 b hb).1;omega,by have:=(a3 b hb).2;simp;omega⟩
 .obtain⟨F,a1,a2,a3,_⟩:=hc4;exact(a2.mono λb hb=>al _ _ _ _ aaL).sl λb hb=>⟨λh=>by have:=hX b h;have:=(a3 b hb).1;omega,by have:=(a3 b hb).2;simp;omega⟩
def Wg {v:CV}{n:bg}{i:Nat}(h:IsNode st [] v n)(hl:n.cells.length<=10000)(hk:n.kids.length=if n.leaf=true then 0 else n.cells.length+1)(hi:i<n.cells.length):
 R 151 [v,I i] st λx st'=>∃a b,x=.tuple [a,.str (cD n i).2.1,b]/\Kp [] st st'/\(∀X,(∀b∈X,b<st.nx)->IsNode st' X a (cD n i).1)/\(∀X,(∀b∈X,b<st.nx)->IsNode st' X b (cD n i).2.2):=by
 obtain⟨vc,vk,rfl,h1,h2⟩:=h;refine bN ?_;rw[ajx];rw[bW,aV];refine⟨rfl,?_⟩;have k1:Kp [] st (St.new st (.cells [.bool n.leaf,vc,vk] 105 false)):=(Kp.refl [] st).new _;have g1:(St.new st (.cells [.bool n.leaf,vc,vk] 105 false)).m.g st.nx=some (.cells [.bool n.leaf,vc,vk] 105 false):=aw _ _;have n1:(St.new st (.cells [.bool n.leaf,vc,vk] 105 false)).nx=st.nx+1:=rfl;generalize St.new st (.cells [.bool n.leaf,vc,vk] 105 false)=s1 at*;have k2:Kp [] s1 (St.new s1 (.cells [.bool false,.ae,.ae] 105 false)):=(Kp.refl [] s1).new _;have g2:(St.new s1 (.cells [.bool false,.ae,.ae] 105 false)).m.g s1.nx=some (.cells [.bool false,.ae,.ae] 105 false):=aw _ _;have n2:(St.new s1 (.cells [.bool false,.ae,.ae] 105 false)).nx=s1.nx+1:=rfl;rw[cE,aT];generalize St.new s1 (.cells [.bool false,.ae,.ae] 105 false)=s2 at*;have k3:Kp [] s2 (St.new s2 (.cells [.bool false,.ae,.ae] 105 false)):=(Kp.refl [] s2).new _;have g3:(St.new s2 (.cells [.bool false,.ae,.ae] 105 false)).m.g s2.nx=some (.cells [.bool false,.ae,.ae] 105 false):=aw _ _;have n3:(St.new s2 (.cells [.bool false,.ae,.ae] 105 false)).nx=s2.nx+1:=rfl;rw[cE,aT];generalize St.new s2 (.cells [.bool false,.ae,.ae] 105 false)=s3 at*;have qZ:=(k3.keep st.nx pX rq).trans ((k2.keep st.nx pX rq).trans g1);have Jk:=(k3.keep s1.nx pX rq).trans g2;have kV:=(k1.trans k2 rq).trans k3 rq;have hc3:=h1.mono kV
 have fin:∀(s8 s9:St) (jn pS:CV) (a b:bg),Kp [] s3 s8->Kp [] s8 s9->(∀X,(∀b∈X,b<s3.nx)->IsNode s8 X jn a)->(∀X,(∀b∈X,b<s8.nx)->IsNode s9 X pS b)->∀(jQ:CV) (key:cn),jQ=.str key->∀(K:St->St->Prop),(∀dp c9,Kp [s1.nx,s2.nx] s9 dp->Kp [s1.nx,s2.nx] s9 c9->K dp c9)->
  upon (aQ 3 (.ptr s1.nx 0) jn s9) λ_ dp=>upon (aQ 3 (.ptr s2.nx 0) pS dp) λ_ c9=>K dp c9/\us (aK 3 (.ptr s1.nx 0) c9) λvg=>us (aK 3 (.ptr s2.nx 0) c9) λre=>
   ∃a' b',CV.tuple [vg,jQ,re]=.tuple [a',.str key,b']/\Kp [] st c9/\(∀X,(∀b∈X,b<st.nx)->IsNode c9 X a' a)/\(∀X,(∀b∈X,b<st.nx)->IsNode c9 X b' b):=by
  intro s8 s9 jn pS a b q1 q2 h35 h49 jQ key e40 K hK;have m8:=q1.nx;have m9:=q2.nx;have apr:=h35 [s1.nx,s2.nx] AI;obtain⟨c1,d1,rfl,e1,f1⟩:=apr;have apn:=h49 [s1.nx,s2.nx] AI;obtain⟨c2,d2,rfl,e2,f2⟩:=apn;obtain⟨x1,x2,x3⟩:=e1.bD;obtain⟨y1,y2,y3⟩:=f1.bD;obtain⟨z1,z2,z3⟩:=e2.bD;obtain⟨w1,w2,w3⟩:=f2.bD;have q3:=q1.trans q2 rq;have g29:=(q3.keep s1.nx pX rq).trans Jk;have g39:=(q3.keep s2.nx pX rq).trans g3;have kq:∀a b c:CV,bo [.bool false,.ae,.ae] 0 [a,b,c]=[a,b,c]:=λa b c=>rfl;rw[aF,g29,aS,aV,kq];refine⟨⟨rfl,aaT,rq⟩,?_⟩;rw[aF,al _ _ _ _ pX,g39,aS,aV,kq];refine⟨⟨rfl,by simp[z2,w2],rq⟩,?_⟩;have kA:Kp [s1.nx,s2.nx] s9 (St.set s9 s1.nx (.cells [.bool a.leaf,c1,d1] 105 false)):=(Kp.refl _ s9).set _ (.inl rq) pX;have kB:Kp [s1.nx,s2.nx] s9 (St.set (St.set s9 s1.nx (.cells [.bool a.leaf,c1,d1] 105 false)) s2.nx (.cells [.bool b.leaf,c2,d2] 105 false)):=kA.set _ (.inl rq) AI;refine⟨hK _ _ kA kB,?_⟩;rw[aR (n:=3) ((al _ _ _ _ pX).trans (aq _ _ _)) rfl,af,aR (n:=3) (aq _ _ _) rfl,af];refine⟨_,_,by rw[e40],(kV.trans q3 rq).trans kB AI,λX hX=>?_,λX hX=>?_⟩
  .have:=(h35 (X++[s1.nx,s2.nx]) (by intro b hb;simp at hb;rcases hb with h|h|h;have:=hX b h;omega;omega;omega)).mono (q2.mono rq);exact(this.mono (kB.mono rq)).dz (by intro q hq;simp[hq])
  .have:=h49 (X++[s1.nx,s2.nx]) (by intro b hb;simp at hb;rcases hb with h|h|h;have:=hX b h;omega;omega;omega);exact(this.mono (kB.mono rq)).dz (by intro q hq;simp[hq])
 have hlen:=bM n.cells;obtain⟨bc,pc,lc,tc,gc,u1,u2,u3,u4,u5⟩:=h1.cellAt (L:=n.cells.map aZ) pX (fM _) (i:=i) Wv;have u6:=u5 0 (.str n.cells[i].key) aaq;rw[aEb]at u6;have IS:=kV.nx;have xQ:∀s,Kp [] s3 s->s.m.g st.nx=some (.cells [.bool n.leaf,vc,vk] 105 false)/\s.m.g bc=some (.cells lc tc gc):=λs hs=>⟨(hs.keep _ pX rq).trans qZ,((kV.trans hs rq).keep _ u3 rq).trans u2⟩
 have U3:∀s9 s,Kp [] s3 s9->Kp [s1.nx,s2.nx] s9 s->s.m.g st.nx=some (.cells [.bool n.leaf,vc,vk] 105 false)/\s.m.g bc=some (.cells lc tc gc):=λs9 s h9 hs=>
  ⟨(hs.keep _ (by have:=h9.nx;omega) AI).trans (xQ s9 h9).1,(hs.keep _ (by have:=h9.nx;omega) AI).trans (xQ s9 h9).2⟩
 have c48:∀s,Kp [] s3 s->Sl s [] vc 4 (bG n.cells):=λs hs=>hc3.mono hs;have ckk:∀s,Kp [] s3 s->Sl s [] vk 1 (cF n.kids):=λs hs=>(h2.mono kV).mono hs;simp only[fl,ah,af,aC,qZ,ar,aDx,aDq,aDo,az,ag];cases fY:n.leaf with
 |true=>
  rw[fY,aDy rfl]at hk;rw[aDy rfl,bA];obtain⟨v7,p1,p2⟩:=hc3.hi (n:=n.cells.length) pX hlen (h:=i) pX s3;obtain⟨b1,b2,b3⟩:=p2.bD
  have mR:bu [.bool false,.ae,.ae] [(0,1,.bool true),(1,1,v7)] s3=.ok (.agg [.bool true,v7,.ae]) s3:=by
   rw[dw];simp[cq,bo,b1,b3]
  have ZJ:=qZ;simp only[p1,af,mR];rw[la _ _ pX]at p2;refine(yq (n:=⟨true,n.cells.take i,[]⟩) ⟨v7,.ae,rfl,p2,.inl ⟨rfl,rfl⟩⟩ AI rq).mono ?_;rintro x9 s4 ⟨k4,hx9⟩;obtain⟨e1,e2⟩:=xQ s4 k4;obtain⟨Sc,p3,p4⟩:=(c48 s4 k4).lo (n:=n.cells.length) pX hlen (l:=i) pX s4;obtain⟨c1,c2,c3⟩:=p4.bD
  have DX:bu [.bool false,.ae,.ae] [(0,1,.bool true),(1,1,Sc)] s4=.ok (.agg [.bool true,Sc,.ae]) s4:=by
   rw[dw];simp[cq,bo,c1,c3]
  simp only[ah,aEb,aC,e1,e2,u1,u6,ar,aDq,aDo,az,p3,af,DX];rw[lb _ _ pX]at p4;refine(yq (n:=⟨true,n.cells.drop i,[]⟩) ⟨Sc,.ae,rfl,p4,.inl ⟨rfl,rfl⟩⟩ AI rq).mono ?_;rintro eh s5 ⟨k5,X0⟩;have M0:=k4.trans k5 rq;obtain⟨e3,e4⟩:=xQ s5 M0;obtain⟨e5,e6⟩:=xQ s3 (Kp.refl _ _);have et:cD n i=(⟨true,n.cells.take i,[]⟩,n.cells[i].key,⟨true,n.cells.drop i,[]⟩):=by unfold cD;rw[aDy fY,aDu hi];rfl
  rw[et];simp only[e3,e4,e6,u6,ar,aDq,aDo,az,aFw];refine fin s4 s5 x9 eh _ _ k4 k5 hx9 X0 _ n.cells[i].key rfl (λdp _=>((MV (dp.m.g st.nx) λl=>UU l[1]? λv=>v=vc)/\True)/\((MV (dp.m.g bc) λl=>UU l[pc]? λv=>v=.str n.cells[i].key)/\True)/\True) λdp c9 q1 q2=>?_;obtain⟨t1,t2⟩:=U3 s5 dp M0 q1;simp only[t1,t2,u6,ar,aDq,aDo,az,and_true]
 |false=>
  rw[fY,aDv wI]at hk;rw[aDv wI];have Px:=(ckk s3 (Kp.refl _ _)).len n.kids.length rq pX s3
  have emm:BJ false (I ((i+1:Nat):Int)) (I n.kids.length) s3=.ok (I ((i+1:Nat):Int)) s3:=by
   have e:BJ false (I ((i+1:Nat):Int)) (I n.kids.length) s3=.ok (I (if (n.kids.length:Int)<((i+1:Nat):Int)then (n.kids.length:Int)else ((i+1:Nat):Int))) s3:=rfl;rw[e,aDv pX]
  obtain⟨v7,p1,p2⟩:=hc3.hi (n:=n.cells.length) pX hlen (h:=i) pX s3;obtain⟨v8,p5,p6⟩:=(ckk s3 (Kp.refl _ _)).hi (n:=n.kids.length) pX rq (h:=i+1) pX s3;obtain⟨b1,b2,b3⟩:=p2.bD;obtain⟨d1,d2,d3⟩:=p6.bD
  have mR:bu [.bool false,.ae,.ae] [(1,1,v7),(2,1,v8)] s3=.ok (.agg [.bool false,v7,v8]) s3:=by
   rw[dw];simp[cq,bo,b1,b3,d1,d3]
  have ZJ:=qZ;simp only[gT i pX,af,Px,emm,bA,p1,p5,mR];rw[la _ _ pX]at p2;rw[aEQ,uI]at p6;refine(yq (n:=⟨false,n.cells.take i,n.kids.take (i+1)⟩) ⟨v7,v8,rfl,p2,p6⟩ AI AI).mono ?_;rintro x9 s4 ⟨k4,hx9⟩;obtain⟨e1,e2⟩:=xQ s4 k4;obtain⟨Sc,p3,p4⟩:=(c48 s4 k4).lo (n:=n.cells.length) pX hlen (l:=i+1) pX s4;obtain⟨v18,p7,p8⟩:=(ckk s4 k4).lo (n:=n.kids.length) pX rq (l:=i+1) pX s4;obtain⟨c1,c2,c3⟩:=p4.bD;obtain⟨f1,f2,f3⟩:=p8.bD
  have DX:bu [.bool false,.ae,.ae] [(1,1,Sc),(2,1,v18)] s4=.ok (.agg [.bool false,Sc,v18]) s4:=by
   rw[dw];simp[cq,bo,c1,c3,f1,f3]
  simp only[ah,aEb,aC,e1,e2,u1,u6,ar,aDq,aDo,az,p3,p7,af,DX];rw[lb _ _ pX]at p4;rw[aEQ,uJ]at p8;refine(yq (n:=⟨false,n.cells.drop (i+1),n.kids.drop (i+1)⟩) ⟨Sc,v18,rfl,p4,p8⟩ AI AI).mono ?_;rintro eh s5 ⟨k5,X0⟩;have M0:=k4.trans k5 rq;obtain⟨e3,e4⟩:=xQ s5 M0;obtain⟨e5,e6⟩:=xQ s3 (Kp.refl _ _);have et:cD n i=(⟨false,n.cells.take i,n.kids.take (i+1)⟩,n.cells[i].key,⟨false,n.cells.drop (i+1),n.kids.drop (i+1)⟩):=by unfold cD;rw[aDv aaV,aDu hi];rfl
  rw[et];simp only[e3,e4,e6,u6,ar,aDq,aDo,az,aFw];refine fin s4 s5 x9 eh _ _ k4 k5 hx9 X0 _ n.cells[i].key rfl (λdp _=>((MV (dp.m.g st.nx) λl=>UU l[1]? λv=>v=vc)/\True)/\((MV (dp.m.g bc) λl=>UU l[pc]? λv=>v=.str n.cells[i].key)/\True)/\True) λdp c9 q1 q2=>?_;obtain⟨t1,t2⟩:=U3 s5 dp M0 q1;simp only[t1,t2,u6,ar,aDq,aDo,az,and_true]
end
section
variable {st st':St}
def Si {n:bg}(hn:n.ok)(hl:n.cells.length<=1000){i:Nat}(hi:i<n.cells.length):Cz (cD n i).1/\Cz (cD n i).2.2:=by
 have hk:=hn.jA;unfold cD;cases fY:n.leaf with
 |true=>
  have hc:=hn.cell;rw[fY]at hc;rw[aDy rfl];exact⟨⟨λc h=>hc c (aEg h),rq,AI,rq⟩,⟨λc h=>hc c (aEk h),rq,AI,rq⟩⟩
 |false=>
  have hc:=hn.cell;rw[fY]at hc;rw[fY,aDv wI]at hk;rw[aDv wI];exact⟨⟨λc h=>hc c (aEg h),λk h=>hn.BV k (aEg h),AI,AI⟩,⟨λc h=>hc c (aEk h),λk h=>hn.BV k (aEk h),AI,AI⟩⟩
def Cz.size {n:bg}(h:Cz n):n.size<=200000:=by
 have h1:=nG (leaf:=n.leaf) (l:=n.cells) h.cell;have h2:=pK (l:=n.kids) h.BV;have h3:=h.cells;have h4:=h.kids;have h5:(uv n.cells.length).length<=2:=pY pX;rw[cc]
 split<;>omega
def Bt {p:Nat}{vc vk:CV}{n:bg}{i:Nat}(hf:eM st)(hp:p<st.nx)(hg:st.m.g p=some (.cells [.bool n.leaf,vc,vk] 105 false))(h1:Sl st [] vc 4 (bG n.cells))(h2:Sl st [] vk 1 (cF n.kids))(hn:n.ok)(hl:n.cells.length<=1000)(hi:i<n.cells.length):
 R 150 [I i,.ptr p 0] st λx st'=>x=I (gG n i)/\Kp [] st st':=by
 refine bN ?_;rw[ajy];rw[aR (n:=3) hg rfl,af];refine(Wg ⟨vc,vk,rfl,h1,h2⟩ pX hn.jA hi).mono ?_;rintro _ s1 ⟨a,b,rfl,k1,ha,hb⟩;obtain⟨nb1,nb2⟩:=Si hn hl hi;have ha0:=ha [] rq;have Jd:=hb [] rq;obtain⟨c1,d1,rfl,e1,f1⟩:=ha0;obtain⟨c2,d2,rfl,e2,f2⟩:=Jd;obtain⟨x1,x2,x3⟩:=e1.bD;obtain⟨y1,y2,y3⟩:=f1.bD;obtain⟨z1,z2,z3⟩:=e2.bD;obtain⟨w1,w2,w3⟩:=f2.bD;have g2:(St.new s1 (.cells [.bool false,.ae,.ae] 105 false)).m.g s1.nx=some (.cells [.bool false,.ae,.ae] 105 false):=aw _ _;have g3:(St.new (St.new s1 (.cells [.bool false,.ae,.ae] 105 false)) (.cells [.bool false,.ae,.ae] 105 false)).m.g (s1.nx+1)=some (.cells [.bool false,.ae,.ae] 105 false):=aw (St.new s1 (.cells [.bool false,.ae,.ae] 105 false)) _;have Qg:(St.new (St.new s1 (.cells [.bool false,.ae,.ae] 105 false)) (.cells [.bool false,.ae,.ae] 105 false)).m.g s1.nx=some (.cells [.bool false,.ae,.ae] 105 false):=(ba _ _ _ rq).trans g2;have n3:(St.new (St.new s1 (.cells [.bool false,.ae,.ae] 105 false)) (.cells [.bool false,.ae,.ae] 105 false)).nx=s1.nx+2:=rfl;have k3:Kp [] s1 (St.new (St.new s1 (.cells [.bool false,.ae,.ae] 105 false)) (.cells [.bool false,.ae,.ae] 105 false)):=((Kp.refl [] s1).new _).new _;have y0:(St.new s1 (.cells [.bool false,.ae,.ae] 105 false)).nx=s1.nx+1:=rfl;simp only[aD,aG,af,cE,aT,y0];generalize St.new (St.new s1 (.cells [.bool false,.ae,.ae] 105 false)) (.cells [.bool false,.ae,.ae] 105 false)=s3 at*;have kq:∀a b c:CV,bo [.bool false,.ae,.ae] 0 [a,b,c]=[a,b,c]:=λa b c=>rfl;rw[aF,Qg,aS,aV,kq];refine⟨⟨rfl,aaT,rq⟩,?_⟩;rw[aF,al _ _ _ _ pX,g3,aS,aV,kq];refine⟨⟨rfl,by simp[z2,w2],rq⟩,?_⟩;have kA:Kp [] s1 (St.set s3 s1.nx (.cells [.bool (cD n i).1.leaf,c1,d1] 105 false)):=k3.set _ (.inr (aDt _)) pX
 have kB:Kp [] s1 (St.set (St.set s3 s1.nx (.cells [.bool (cD n i).1.leaf,c1,d1] 105 false)) (s1.nx+1) (.cells [.bool (cD n i).2.2.leaf,c2,d2] 105 false)):=kA.set _ (.inr pX) AI;have gA:(St.set (St.set s3 s1.nx (.cells [.bool (cD n i).1.leaf,c1,d1] 105 false)) (s1.nx+1) (.cells [.bool (cD n i).2.2.leaf,c2,d2] 105 false)).m.g s1.nx=some (.cells [.bool (cD n i).1.leaf,c1,d1] 105 false):=(al _ _ _ _ pX).trans (aq _ _ _);have gB:(St.set (St.set s3 s1.nx (.cells [.bool (cD n i).1.leaf,c1,d1] 105 false)) (s1.nx+1) (.cells [.bool (cD n i).2.2.leaf,c2,d2] 105 false)).m.g (s1.nx+1)=some (.cells [.bool (cD n i).2.2.leaf,c2,d2] 105 false):=aq _ _ _;have nB:(St.set (St.set s3 s1.nx (.cells [.bool (cD n i).1.leaf,c1,d1] 105 false)) (s1.nx+1) (.cells [.bool (cD n i).2.2.leaf,c2,d2] 105 false)).nx=s1.nx+2:=n3;generalize St.set (St.set s3 s1.nx (.cells [.bool (cD n i).1.leaf,c1,d1] 105 false)) (s1.nx+1) (.cells [.bool (cD n i).2.2.leaf,c2,d2] 105 false)=s5 at*;have Gv:=k1.trans kB rq;rw[bA,aR (n:=3) gA rfl,af];refine(wv (Gv.fresh hf) (n:=(cD n i).1) ⟨c1,d1,rfl,e1.mono kB,f1.mono kB⟩ nb1).mono ?_;intro x9 s6 m6;have k6:=m6.kp;have gB6:=(k6.keep _ pX rq).trans gB;rw[(m6.sl [] rq).len (cD n i).1.size adp pX s6,af,aR (n:=3) gB6 rfl,af];refine(wv (k6.fresh (Gv.fresh hf)) (n:=(cD n i).2.2) ⟨c2,d2,rfl,(e2.mono kB).mono k6,(f2.mono kB).mono k6⟩ nb2).mono ?_;intro dv s7 m7;have k7:=m7.kp;rw[(m7.sl [] rq).len (cD n i).2.2.size adp pX s7,af];have sa:=nb1.size;have sb:=nb2.size;rw[aR (n:=3) gB rfl];have es:∀s,ai .sub none false (I (cD n i).1.size) (I (cD n i).2.2.size) s=.ok (I (((cD n i).1.size:Int)-(cD n i).2.2.size)) s:=λs=>abH
 have en:∀s,kF .neg (I (((cD n i).1.size:Int)-(cD n i).2.2.size)) s=.ok (I (-(((cD n i).1.size:Int)-(cD n i).2.2.size))) s:=λs=>by
  have:kF .neg (I (((cD n i).1.size:Int)-(cD n i).2.2.size)) s=.ok (I (IntKind.i64.wrap (0-(((cD n i).1.size:Int)-(cD n i).2.2.size)))) s:=rfl;rw[this,bB pX];congr 2;omega
 have em:∀(a b:Int) s,BJ true (I a) (I b) s=.ok (I (if a<b then b else a)) s:=λa b s=>rfl;simp only[es,af,en,em,aFw,and_true];refine⟨?_,(Gv.trans k6 rq).trans k7 rq⟩;unfold gG
 congr 1
 split<;>omega
def Rl {v:CV}{n:bg}(hf:eM st)(h:IsNode st [] v n)(hn:n.ok)(hl:n.cells.length<=1000)(PJ:cr n<n.cells.length):
 R 109 [v] st λx st'=>∃a b,x=.tuple [a,.str (xt n).2.1,b]/\Kp [] st st'/\(∀X,(∀b∈X,b<st.nx)->IsNode st' X a (xt n).1)/\(∀X,(∀b∈X,b<st.nx)->IsNode st' X b (xt n).2.2):=by
 obtain⟨vc,vk,rfl,h1,h2⟩:=h;refine bN ?_;rw[ake];rw[bW,aV];refine⟨rfl,?_⟩;have k1:Kp [] st (St.new st (.cells [.bool n.leaf,vc,vk] 105 false)):=(Kp.refl [] st).new _;have g1:(St.new st (.cells [.bool n.leaf,vc,vk] 105 false)).m.g st.nx=some (.cells [.bool n.leaf,vc,vk] 105 false):=aw _ _;have n1:(St.new st (.cells [.bool n.leaf,vc,vk] 105 false)).nx=st.nx+1:=rfl;generalize St.new st (.cells [.bool n.leaf,vc,vk] 105 false)=s1 at*;have k2:Kp [] s1 (St.new s1 (.cells [.bool false,.ae,.ae] 105 false)):=(Kp.refl [] s1).new _;have g2:(St.new s1 (.cells [.bool false,.ae,.ae] 105 false)).m.g s1.nx=some (.cells [.bool false,.ae,.ae] 105 false):=aw _ _;have n2:(St.new s1 (.cells [.bool false,.ae,.ae] 105 false)).nx=s1.nx+1:=rfl;rw[cE,aT];generalize St.new s1 (.cells [.bool false,.ae,.ae] 105 false)=s2 at*;have k3:Kp [] s2 (St.new s2 (.cells [.bool false,.ae,.ae] 105 false)):=(Kp.refl [] s2).new _;have g3:(St.new s2 (.cells [.bool false,.ae,.ae] 105 false)).m.g s2.nx=some (.cells [.bool false,.ae,.ae] 105 false):=aw _ _;have n3:(St.new s2 (.cells [.bool false,.ae,.ae] 105 false)).nx=s2.nx+1:=rfl;rw[cE,aT];generalize St.new s2 (.cells [.bool false,.ae,.ae] 105 false)=s3 at*;have qZ:=(k3.keep st.nx pX rq).trans ((k2.keep st.nx pX rq).trans g1);have Jk:=(k3.keep s1.nx pX rq).trans g2;have kV:=(k1.trans k2 rq).trans k3 rq
 have go:∀Q:CV->St->Prop,(∀x s,(∃a b,x=.tuple [a,.str (xt n).2.1,b]/\Kp [] st s/\(∀X,(∀b∈X,b<st.nx)->IsNode s X a (xt n).1)/\(∀X,(∀b∈X,b<st.nx)->IsNode s X b (xt n).2.2))->Q x s)->∀b0:Nat,b0=cr n->
  db (λmO s9 Er=>fl 1 (au 0 mO) s9 λeh=>us (bj .slice eh s9) λeB=>us (ai .lss none false (au 5 mO) eB s9) λdP=>
   aA dP (fG R (au 3 mO) [au 5 mO] s9 λeV dp=>fG R (au 3 mO) [au 4 mO] dp λfv c9=>us (ai .lss none false eV fv c9) λfR=>
    aA fR (us (ai .add none true (au 5 mO) (.int .i64 1) c9) λgD=>Er [au 0 mO,au 1 mO,au 2 mO,au 3 mO,au 5 mO,gD] c9)
     (us (ai .add none true (au 5 mO) (.int .i64 1) c9) λhO=>Er [au 0 mO,au 1 mO,au 2 mO,au 3 mO,au 4 mO,hO] c9))
    (us (aK 3 (au 0 mO) s9) λir=>R 151 [ir,au 4 mO] s9 λgL bY=>us (av gL 0 bY) λiQ=>us (av gL 1 bY) λiu=>us (av gL 2 bY) λjH=>
     upon (aQ 3 (au 1 mO) iQ bY) λ_ ey=>upon (aQ 3 (au 2 mO) jH ey) λ_ fj=>us (aK 3 (au 1 mO) fj) λjh=>us (aK 3 (au 2 mO) fj) λjG=>Q (.tuple [jh,iu,jG]) fj))
   [.ptr st.nx 0,.ptr s1.nx 0,.ptr s2.nx 0,.func (.func 150) [] [.ptr st.nx 0],I b0,I ((b0+1:Nat):Int)] s3:=by
  intro Q hQ b0 Jd;refine bK (λfu vs s=>∃i b:Nat,i+fu=n.cells.length/\b<i/\cr n<=b/\vs=[.ptr st.nx 0,.ptr s1.nx 0,.ptr s2.nx 0,.func (.func 150) [] [.ptr st.nx 0],I b,I i]/\Kp [] s3 s/\sF n fu i b=gY n) ?_ (n:=n.cells.length-(cr n+1)) ⟨b0+1,b0,pX,pX,pX,rfl,Kp.refl _ _,by rw[Jd];rfl⟩;rintro fu vs s k ⟨i,b,hi,hbi,hfb,rfl,hk,Ci⟩ next;have mc:=kV.trans hk rq;have gs:=(hk.keep st.nx pX rq).trans qZ;have gs2:=(hk.keep s1.nx pX rq).trans Jk;have gs3:=(hk.keep s2.nx pX rq).trans g3;have hns:=hk.nx;have hlen:=(h1.mono mc).len n.cells.length (bM _) pX s;simp only[aH,aI,fl,ah,af,aC,gs,ar,aDx,aDq,aDo,az,hlen,dq,ag]
  by_cases hc:i<n.cells.length
  .obtain⟨f,rfl⟩:∃f,fu=f+1:=⟨fu-1,pX⟩;rw[aDz hc,aDy rfl,dM];simp only[aDV,aEp];refine(Bt (mc.fresh hf) pX gs (h1.mono mc) (h2.mono mc) hn hl hc).mono ?_;rintro _ dp ⟨rfl,rn⟩;have oY:=mc.trans rn rq;rw[dM];simp only[aDV,aEp];refine(Bt (oY.fresh hf) (by have:=rn.nx;omega) ((rn.keep st.nx pX rq).trans gs) (h1.mono oY) (h2.mono oY) hn hl (i:=b) pX).mono ?_;rintro _ c9 ⟨rfl,rh⟩;simp only[dq,af,ag,gT i pX];have aeu:=(hk.trans rn rq).trans rh rq;simp only[sF]at Ci
   by_cases hu:gG n i<gG n b
   .rw[aDz hu,aDy rfl];rw[aDy hu]at Ci;exact next f _ _ pX ⟨i+1,i,pX,pX,pX,rfl,aeu,Ci⟩
   .rw[aDr hu,aDv wI];rw[aDv hu]at Ci;exact next f _ _ pX ⟨i+1,b,pX,pX,pX,rfl,aeu,Ci⟩
  .have hfu:fu=0\/n.cells.length<i:=by omega
   have hb:b=gY n:=by
    rcases hfu with rfl|h
    .exact Ci
    .omega
   subst hb;have hlt:=(yb n PJ).2.1;rw[aDr hc,aDv wI,aR (n:=3) gs rfl,af];refine(Wg ⟨vc,vk,rfl,h1.mono mc,h2.mono mc⟩ pX hn.jA hlt).mono ?_;rintro _ bY ⟨a,b,rfl,rm,ha,hb⟩;have MW:=rm.nx;have gA:=(rm.keep s1.nx pX rq).trans gs2;have gB:=(rm.keep s2.nx pX rq).trans gs3;have ha':=ha [s1.nx,s2.nx] AI;have oO:=hb [s1.nx,s2.nx] AI;obtain⟨c1,d1,rfl,e1,f1⟩:=ha';obtain⟨c2,d2,rfl,e2,f2⟩:=oO;obtain⟨x1,x2,x3⟩:=e1.bD;obtain⟨y1,y2,y3⟩:=f1.bD;obtain⟨z1,z2,z3⟩:=e2.bD;obtain⟨w1,w2,w3⟩:=f2.bD;have kq:∀a b c:CV,bo [.bool false,.ae,.ae] 0 [a,b,c]=[a,b,c]:=λa b c=>rfl;simp only[aD,aG,af];rw[aF,gA,aS,aV,kq];refine⟨⟨rfl,aaT,rq⟩,?_⟩;rw[aF,al _ _ _ _ pX,gB,aS,aV,kq];refine⟨⟨rfl,by simp[z2,w2],rq⟩,?_⟩;rw[aR (n:=3) ((al _ _ _ _ pX).trans (aq _ _ _)) rfl,af,aR (n:=3) (aq _ _ _) rfl,af];have kB:Kp [s1.nx,s2.nx] bY (St.set (St.set bY s1.nx (.cells [.bool (cD n (gY n)).1.leaf,c1,d1] 105 false)) s2.nx (.cells [.bool (cD n (gY n)).2.2.leaf,c2,d2] 105 false)):=((Kp.refl _ bY).set (p:=s1.nx) _ (.inl rq) pX).set (p:=s2.nx) _ (.inl rq) AI;refine hQ _ _ ⟨_,_,rfl,(mc.trans rm rq).trans kB AI,λX hX=>?_,λX hX=>?_⟩
   .have:=ha (X++[s1.nx,s2.nx]) (by intro b hb;simp at hb;rcases hb with h|h|h;have:=hX b h;omega;omega;omega);exact(this.mono (kB.mono rq)).dz (by intro q hq;simp[hq])
   .have:=hb (X++[s1.nx,s2.nx]) (by intro b hb;simp at hb;rcases hb with h|h|h;have:=hX b h;omega;omega;omega);exact(this.mono (kB.mono rq)).dz (by intro q hq;simp[hq])
 have Kw:=(h1.mono kV).len n.cells.length (bM _) pX s3;simp only[cK,aH,aI,fl,ah,af,aC,qZ,ar,aDx,aDq,aDo,az,ag,Kw,mB];unfold cr at PJ;cases fY:n.leaf with
 |true=>
  rw[fY,aDy rfl]at PJ;have e1:ai .leq none false (I n.cells.length) (.int .i64 1) s3=.ok (.bool false) s3:=by rw[ay,pF,aDr pX]
  have e2:ai .add none true (.int .i64 1) (.int .i64 1) s3=.ok (I ((1+1:Nat):Int)) s3:=rfl;rw[aDy rfl,e1,af,ag,aDv wI,e2,af];have:=go _ (λx s h=>h) 1 (by unfold cr;rw[fY,aDy rfl]);simp only[fl]at this⊢;exact this
 |false=>
  rw[fY,aDv wI]at PJ;have e1:ai .leq none false (I n.cells.length) (.int .i64 0) s3=.ok (.bool false) s3:=by rw[ay,pF,aDr pX]
  have e2:ai .add none true (.int .i64 0) (.int .i64 1) s3=.ok (I ((0+1:Nat):Int)) s3:=rfl;rw[aDv wI,e1,af,ag,aDv wI,e2,af];have:=go _ (λx s h=>h) 0 (by unfold cr;rw[fY,aDv wI]);simp only[fl]at this⊢;exact this
end
