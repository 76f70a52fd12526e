import Derived.Test.YtomffjeofpafnaaGreatDoorNodeA
namespace Lim
open Go
noncomputable section
set_option linter.defProp false
set_option maxRecDepth 100000
section
variable {st st':St}
def O5 {X:List Nat}{v:CV}{z:Nat}(d:Sl st X v 1 (ai (List.replicate z 0)))(j:z<=1000000):R 178 [v,.func (.func 179) [] []] st λx st'=>x=.bool false/\Kp [] st st':=by
 refine bK ?_;rw[amu]
 have b:R 200 [v,.func (.func 179) [] []] st λx st'=>x=.int .i64 (-1)/\Kp [] st st':=by
  refine bK ?_;rw[ami];have hlen:=d.len z wb uM st;simp only[cM,aK,aL,hlen,af];refine bG (λfu c s=>∃i,fu+i=z/\c=[v,.func (.func 179) [] [],I z,I i]/\Kp [] st s) ?_ (n:=z) ⟨0,rfl,rfl,Kp.refl _ _⟩;rintro fu c s k ⟨i,hi,rfl,a⟩ next;simp only[aK,aL,dD,af,ag]
  by_cases hc:i<z
  .rw[aHQ hc,aHP rfl];have g:=(d.eH (Y:=[]) wb).mono a;refine g.idx (i:=i) I2 _ ?_;have e:(ai (List.replicate z 0))[i]'(by simpa using hc)=.int .u8 0:=by simp[ai,bP]
   rw[e,dM];simp only[aIm,aIJ];refine bK ?_;rw[amt];simp only[av,ff,aIS,aIb,af,ag,aHH,aHV];have f:=gJ i uM s none;rw[av]at f;rw[f,af];exact next (fu-1) _ _ uM ⟨i+1,uM,rfl,a⟩
  .rw[aHL hc,aHM xI];exact⟨afp,a⟩
 refine b.mono ?_;rintro _ s ⟨rfl,h⟩;simp[h]
structure Dec (kL s:St)(b1 b9 r:Nat)(F:List Nat)(leaf:Bool)(vc vk:CV)(cells:List dq)(kids:List Nat)(L:List UInt8)(Fc Fk:List Nat):Prop where
 kp:Kp [] kL s
 g1:s.m.g b1=some (.cells [.bool false,.ae,.ae] 105 false)
 g9:s.m.g b9=some (.cells [.bool leaf,vc,vk] 105 false)
 rd:pq s r F L
 oc:Own s vc 4 109 (bM cells) Fc
 ok:Own s vk 1 3 (cP kids) Fk
 lt:∀b,b=b1\/b=b9\/b∈F\/b∈Fc\/b∈Fk->kL.nx<=b/\b<s.nx
 ne:b1≠b9/\b1∉F/\b9∉F
 dc:∀b∈Fc,b≠b1/\b≠b9/\b∉F/\b∉Fk
 dk:∀b∈Fk,b≠b1/\b≠b9/\b∉F
def xB (n:bo)(st:St)(y:CV)(st':St):Prop:=∃x,y=.tuple [x,I 0]/\Kp [] st st'/\∀X,(∀b∈X,b<st.nx)->IsNode st' X x n
def Ov {v:CV}{n:bo}{z:Nat}(hf:eA st)(h:Sl st [] v 1 (ai (mV n++List.replicate z 0)))(hn:n.ok)(hl:n.size+z<=512):R 138 [v] st (xB n st):=by
 have qR:n.cells.length<=512:=by
  have:=eZ n.leaf n.cells;rw[cr]at hl;omega
 refine bK ?_;rw[ana];have k1:Kp [] st (St.new st (.cells [.bool false,.ae,.ae] 105 false)):=(Kp.refl [] st).new _;have g1:(St.new st (.cells [.bool false,.ae,.ae] 105 false)).m.g st.nx=some (.cells [.bool false,.ae,.ae] 105 false):=au _ _;have n1:(St.new st (.cells [.bool false,.ae,.ae] 105 false)).nx=st.nx+1:=rfl;rw[cz,aP];generalize St.new st (.cells [.bool false,.ae,.ae] 105 false)=s1 at*;have u:(mV n++List.replicate z 0).length=n.size+z:=by rw[aHR,aIF];rfl
 have e1:aj .gtr none true (I ((n.size+z:Nat):Int)) (.int .i64 512) s1=.ok (.bool false) s1:=by rw[av,dh,aHL uM]
 rw[(h.mono k1).len (n.size+z) (by rw[bF,u];omega) uM s1];simp only[af,e1,ag,aHH,aHV];refine(wQ (h.mono k1) uM).mono ?_;rintro _ s3 ⟨r,F,rfl,k3,A,Bb⟩;have Oc:∀b∈F,b<s3.nx:=by obtain⟨q,vv,G,rfl,_,h,_⟩:=A;exact h
 have e2:mV n++List.replicate z 0=uv (if n.leaf=true then 1 else 0)++(uv n.cells.length++(cW n.leaf n.cells++((if n.leaf=true then []else eS n.kids)++List.replicate z 0))):=by unfold mV;simp
 rw[e2]at A;refine(PS A).mono ?_;rintro _ s4 ⟨rfl,k4,n4,aa⟩;have mo:aZ [.bool false,.ae,.ae] [(0,1,.bool n.leaf)] s4=.ok (.agg [.bool n.leaf,.ae,.ae]) s4:=rfl;rw[mo,af];refine mW rfl rfl rfl ?_;have ax:=k3.nx;have g4:=(k4.keep st.nx uM (λh=>by have:=Bb _ h;omega)).trans ((k3.keep st.nx uM wb).trans g1);have k5:Kp [] s4 (St.new s4 (.cells [.bool n.leaf,.ae,.ae] 105 false)):=(Kp.refl _ s4).new _;have Vx:=(k1.trans k3 wb).trans k4 λq hq=>.inr (by have:=Bb q hq;omega)
 have ay:∀b,b=st.nx\/b=s4.nx\/b∈F\/b∈([]:List Nat)\/b∈([]:List Nat)->st.nx<=b/\b<(St.new s4 (.cells [.bool n.leaf,.ae,.ae] 105 false)).nx:=by
  intro b hb;rcases hb with rfl|rfl|hb|hb|hb
  .simp;omega
  .simp;omega
  .have:=Bb b hb;have:=Oc b hb;simp;omega
  .cases hb
  .cases hb
 have x:Dec st (St.new s4 (.cells [.bool n.leaf,.ae,.ae] 105 false)) st.nx s4.nx r F n.leaf .ae .ae [] [] (uv n.cells.length++(cW n.leaf n.cells++((if n.leaf=true then []else eS n.kids)++List.replicate z 0))) [] []:=
  ⟨Vx.trans k5 wb,(k5.keep _ uM wb).trans g4,au _ _,aa.keep k5 wb,.inl ⟨rfl,rfl,rfl⟩,.inl ⟨rfl,rfl,rfl⟩,ay,⟨uM,λh=>by have:=Bb _ h;omega,λh=>by have:=Oc _ h;omega⟩,wb,wb⟩
 generalize aN:s4.nx=b9 at*;generalize FY:st.nx=b1 at*;have QS:=FY;generalize St.new s4 (.cells [.bool n.leaf,.ae,.ae] 105 false)=s6 at*;clear g4 k5 Vx aa k4 n4 A k3 ax mo;refine kY (λJ s=>∃a f,J=[v,.ptr b1 0,.ptr r 0,.ptr b9 0]/\Dec st s b1 b9 r F n.leaf a .ae n.cells [] ((if n.leaf=true then []else eS n.kids)++List.replicate z 0) f []) ?_ ?_
 .intro oq qg;rw[cM];refine(lB (n:=n.cells.length) (m:=512) x.rd qR uM).mono ?_;rintro _ s7 ⟨rfl,k7,n7,ad⟩
  have D7:Dec st s7 b1 b9 r F n.leaf .ae .ae [] [] (cW n.leaf n.cells++((if n.leaf=true then []else eS n.kids)++List.replicate z 0)) [] []:=
   ⟨x.kp.trans k7 λq hq=>.inr (x.lt q aaa).1,(k7.keep b1 (x.lt b1 wb).2 x.ne.2.1).trans x.g1,(k7.keep b9 (x.lt b9 wb).2 x.ne.2.2).trans x.g9,ad,.inl ⟨rfl,rfl,rfl⟩,.inl ⟨rfl,rfl,rfl⟩,λb hb=>by rw[n7];exact x.lt b hb,x.ne,wb,wb⟩
  simp only[aK,aL];refine bG (λfu J s=>∃i a f,fu+i=n.cells.length/\J=[v,.ptr b1 0,.ptr r 0,.ptr b9 0,I n.cells.length,I i]/\Dec st s b1 b9 r F n.leaf a .ae (n.cells.take i) [] (cW n.leaf (n.cells.drop i)++((if n.leaf=true then []else eS n.kids)++List.replicate z 0)) f []) ?_ (n:=n.cells.length) ⟨0,.ae,[],rfl,rfl,by simpa using D7⟩;rintro fu J s k ⟨i,a,f,hi,rfl,D⟩ next;simp only[aK,aL,dD,af,ag]
  by_cases B:i<n.cells.length
  .rw[aHQ B,aHP rfl];refine(rm D.rd).same ?_;simp only[cR,af,aIb,ag,aHH,aHV,bD];have Rm:=D.kp.fresh hf;have H:Kp [] s (St.skip s):=(Kp.refl _ s).skip;have X6:(St.skip s).m.g b9=some (.cells [.bool n.leaf,a,.ae] 105 false):=D.g9;have jD:(St.skip s).m.g s.nx=none:=Rm _ (aHK _);have ap:(St.skip s).nx=s.nx+1:=rfl;have o:=D.rd.keep H wb;have N:=D.oc.keep H λb hb=>⟨(D.lt b TL).2,wb⟩;have T:(St.skip s).m.g b1=_:=D.g1;generalize St.skip s=sk at*;have l9:=D.lt b9 wb;have l1:=D.lt b1 wb;have lF:∀b∈F,st.nx<=b/\b<s.nx:=λb hb=>D.lt b TL;have lc:∀b∈f,st.nx<=b/\b<s.nx:=λb hb=>D.lt b TL;simp only[ah,af,az,X6,ar,aHN,aHI,aHG,aw];have BN:=hn.cell _ (aIc B);rw[aIe B,fy,aIq]at o;refine(Wd o BN (λb hb=>aer)).mono ?_;rintro _ sl ⟨rfl,c,K⟩;have nl:=c.nx;have ZE:s.nx∉F:=λh=>by have:=lF _ h;omega
   have HF:=(c.keep s.nx uM ZE).trans jD;have gl:=(c.keep b9 uM D.ne.2.2).trans X6;have S:=(c.keep b1 uM D.ne.2.1).trans T;have M:=N.keep c λb hb=>⟨adg,(D.dc b hb).2.2.1⟩;refine xv 48 M uM (λq hq=>by have:=lc q hq;omega) uM HF rfl rfl rfl (gT _) (by rw[bQ,aHZ];omega) ?_;intro v' s2 F' O d xN;have P:(St.set sl s.nx (.cells (CV.agg (bg n.cells[i])).cK 109 false)).m.g b9=some (.cells [.bool n.leaf,a,.ae] 105 false):=(ak _ _ _ _ uM).trans gl;have aq:=d.nx;have Q:=(d.keep b9 uM (by simp only[aHJ,aJf];exact⟨uM,λh=>(D.dc b9 h).2.1 rfl⟩)).trans gl;have rJ:=(d.keep b1 uM (by simp only[aHJ,aJf];exact⟨uM,λh=>(D.dc b1 h).1 rfl⟩)).trans S;have L:=K.keep d (λb hb=>by simp only[aHJ,aJf];exact⟨aer,λh=>(D.dc b h).2.2.1 hb⟩);obtain⟨c1,c2⟩:=O.cF;have kW:bz [.bool n.leaf,a,.ae] 1 [v']=[.bool n.leaf,v',.ae]:=rfl;simp only[P,ar,aHI,aHG,aw,aKc,and_true,af,aH,Q,aS,c2,kW,gJ i uM];refine⟨⟨rfl,by simp[c1],wb⟩,?_⟩
   have U:bM (n.cells.take i)++(CV.agg (bg n.cells[i])).cK=bM (n.cells.take (i+1)):=by
    rw[aIa B,iA];simp[bM]
   rw[U]at O
   have ks:=((D.kp.trans H wb).trans c λq hq=>.inr (lF q hq).1).trans d λq hq=>.inr (by
    rcases aHJ.1 hq with rfl|hq
    .omega
    .exact(lc q hq).1)
   have E:∀b∈F',st.nx<=b/\b<s2.nx/\(b∈f\/sl.nx<=b):=λb hb=>by
    obtain⟨a1,a2⟩:=xN b hb;refine⟨?_,a2,a1⟩;rcases a1 with h|h
    .exact(lc b h).1
    .omega
   have V:b9∉F':=λh=>by
    rcases(E b9 h).2.2 with h|h
    .exact(D.dc b9 h).2.1 rfl
    .omega
   refine next (fu-1) _ _ uM ⟨i+1,v',F',uM,rfl,ks.set _ (.inr l9.1) uM,?_,an _ _ _,?_,O.mono λb hb=>ak _ _ _ _ (λe=>V (e▸hb)),.inl ⟨rfl,rfl,rfl⟩,λb hb=>?_,D.ne,λb hb=>?_,wb⟩
   .exact(ak _ _ _ _ D.ne.1).trans rJ
   .exact L.keep (X:=[b9]) ((Kp.refl _ s2).set (p:=b9) _ (.inl wb) uM) (λb hb=>by simp;exact λe=>D.ne.2.2 (e▸hb))
   .show st.nx<=b/\b<s2.nx;rcases hb with rfl|rfl|hb|hb|hb
    .omega
    .omega
    .have:=lF b hb;omega
    .have:=E b hb;omega
    .cases hb
   .rcases(E b hb).2.2 with h|h
    .exact D.dc b h
    .exact⟨uM,uM,λY=>by have:=lF b Y;omega,wb⟩
  .rw[aHL B,aHM xI];have U:n.cells.take i=n.cells:=aHS uM;have e6:n.cells.drop i=[]:=aIp uM;rw[U,e6]at D;exact qg _ _ ⟨a,f,rfl,by simpa[cW]using D⟩
 .rintro _ s7 ⟨a,f,rfl,D7⟩;simp only[cM,aK,aL];have rE:=hn.jR;have aE:∀s,Own s a 4 109 (bM n.cells) f->(∀b∈f,b<s.nx)->Sl s [] a 4 (bM n.cells):=λs ho hb=>ho.sl λb h=>⟨wb,hb b h⟩;refine bG (λfu J s=>∃i j Fk,fu+i=n.kids.length/\J=[v,.ptr b1 0,.ptr r 0,.ptr b9 0,I i]/\Dec st s b1 b9 r F n.leaf a j n.cells (n.kids.take i) ((if n.leaf=true then []else eS (n.kids.drop i))++List.replicate z 0) f Fk) ?_ (n:=n.kids.length) ⟨0,.ae,[],rfl,rfl,by simpa using D7⟩;rintro fu J s k ⟨i,j,Fk,hi,rfl,D⟩ next;have l9:=D.lt b9 wb;have l1:=D.lt b1 wb;have lF:∀b∈F,st.nx<=b/\b<s.nx:=λb hb=>D.lt b TL;have lc:∀b∈f,st.nx<=b/\b<s.nx:=λb hb=>D.lt b TL;have y:∀b∈Fk,st.nx<=b/\b<s.nx:=λb hb=>D.lt b TL;have aI:=(aE s D.oc λb hb=>(lc b hb).2).len n.cells.length (bQ _) uM s;have aD:aj .leq none false (I i) (I n.cells.length) s=.ok (.bool (decide (i<=n.cells.length))) s:=by rw[av,lU];congr 2;simp only[aIi];omega
  simp only[aK,aL,fl,ah,af,az,D.g9,ar,aHN,aHI,aHG,aw,aI,aD,aG,aIj]
  by_cases B:i<n.kids.length
  .have gO:n.leaf=false:=by
    cases h:n.leaf with
    |false=>rfl
    |true=>rw[h,aHP rfl]at rE;omega
   rw[gO,aHM xI]at rE;rw[aHQ uM];simp only[ba,af,dI];refine(rm D.rd).same ?_;have Cp:=D.rd;have w:=D.g9;rw[gO]at w;rw[aHM acS]at Cp;simp only[af,aF,aIj,aG,iy,ba,ah,az,w,ar,aHN,aHG,aw,cR,aHY,ag,bD];have Rm:=D.kp.fresh hf;have H:Kp [] s (St.skip s):=(Kp.refl _ s).skip;have X6:(St.skip s).m.g b9=some (.cells [.bool false,a,j] 105 false):=w;have jD:(St.skip s).m.g s.nx=none:=Rm _ (aHK _);have ap:(St.skip s).nx=s.nx+1:=rfl;have o:=Cp.keep H wb;have am:=D.ok.keep H λb hb=>⟨(y b hb).2,wb⟩;have N:=D.oc.keep H λb hb=>⟨(lc b hb).2,wb⟩;have T:(St.skip s).m.g b1=_:=D.g1;generalize St.skip s=sk at*;simp only[X6,ar,aHI,aHG,aw];rw[aIe B,oV,aIq]at o;have aA:=hn.Dl _ (aIc B);refine(lB (n:=n.kids[i]) (m:=2147483647) o aA uM).mono ?_;rintro _ sl ⟨rfl,c,nl,K⟩;have ZE:s.nx∉F:=λh=>by have:=lF _ h;omega
   have HF:=(c.keep s.nx uM ZE).trans jD;have gl:=(c.keep b9 uM D.ne.2.2).trans X6;have S:=(c.keep b1 uM D.ne.2.1).trans T;have al:=am.keep c λb hb=>⟨by have:=y b hb;omega,(D.dk b hb).2.2⟩;have M:=N.keep c λb hb=>⟨adg,(D.dc b hb).2.2.1⟩;have aV:n.kids.length<=513:=uM
   refine xv 8 al uM (λq hq=>by have:=y q hq;omega) uM HF rfl rfl rfl rfl (by rw[qM,aHZ];omega) ?_;intro v' s2 F' O d xN;have P:(St.set sl s.nx (.cells (CV.cK (I n.kids[i])) 3 false)).m.g b9=some (.cells [.bool false,a,j] 105 false):=(ak _ _ _ _ uM).trans gl;have aq:=d.nx;have Q:=(d.keep b9 uM (by simp only[aHJ,aJf];exact⟨uM,λh=>(D.dk b9 h).2.1 rfl⟩)).trans gl;have rJ:=(d.keep b1 uM (by simp only[aHJ,aJf];exact⟨uM,λh=>(D.dk b1 h).1 rfl⟩)).trans S;have L:=K.keep d (λb hb=>by simp only[aHJ,aJf];exact⟨aer,λh=>(D.dk b h).2.2 hb⟩);have UG:=M.keep d (λb hb=>⟨adg,by simp only[aHJ,aJf];exact⟨adg,(D.dc b hb).2.2.2⟩⟩);obtain⟨c1,c2⟩:=O.cF;have kW:bz [.bool false,a,j] 2 [v']=[.bool false,a,v']:=rfl;have aO:bz [.bool false,a,j] 2 (CV.cK v')=[.bool false,a,v']:=by rw[c2];rfl
   simp only[P,ar,aHI,aHG,aw,aKc,and_true,af,aH,Q,aS,c2,kW,gJ i uM];refine⟨⟨rfl,by simp[c1],wb⟩,?_⟩
   have U:cP (n.kids.take i)++CV.cK (I n.kids[i])=cP (n.kids.take (i+1)):=by
    rw[aIa B,nY];simp[cP]
   rw[U]at O
   have ks:=((D.kp.trans H wb).trans c λq hq=>.inr (lF q hq).1).trans d λq hq=>.inr (by
    rcases aHJ.1 hq with rfl|hq
    .omega
    .exact(y q hq).1)
   have E:∀b∈F',st.nx<=b/\b<s2.nx/\(b∈Fk\/sl.nx<=b):=λb hb=>by
    obtain⟨a1,a2⟩:=xN b hb;refine⟨?_,a2,a1⟩;rcases a1 with h|h
    .exact(y b h).1
    .omega
   have V:b9∉F':=λh=>by
    rcases(E b9 h).2.2 with h|h
    .exact(D.dk b9 h).2.1 rfl
    .omega
   refine next (fu-1) _ _ uM ⟨i+1,v',F',uM,rfl,ks.set _ (.inr l9.1) uM,(ak _ _ _ _ D.ne.1).trans rJ,?_,?_,UG.mono λb hb=>ak _ _ _ _ (D.dc b hb).2.1,O.mono λb hb=>ak _ _ _ _ (λe=>V (e▸hb)),λb hb=>?_,D.ne,λb hb=>?_,λb hb=>?_⟩
   .rw[gO];exact an _ _ _
   .rw[aHM acS];exact L.keep (X:=[b9]) ((Kp.refl _ s2).set (p:=b9) _ (.inl wb) uM) (λb hb=>by simp;exact λe=>D.ne.2.2 (e▸hb))
   .show st.nx<=b/\b<s2.nx;rcases hb with rfl|rfl|hb|hb|hb
    .omega
    .omega
    .have:=lF b hb;omega
    .have:=lc b hb;omega
    .have:=E b hb;omega
   .refine⟨(D.dc b hb).1,(D.dc b hb).2.1,(D.dc b hb).2.2.1,λh=>?_⟩;rcases(E b h).2.2 with Y|Y
    .exact(D.dc b hb).2.2.2 Y
    .have:=lc b hb;omega
   .rcases(E b hb).2.2 with h|h
    .exact D.dk b h
    .exact⟨uM,uM,λY=>by have:=lF b Y;omega⟩
  ·
    have HS:i=n.kids.length:=uM
    have U:n.kids.take i=n.kids:=aHS uM;have e6:n.kids.drop i=[]:=aIp uM;rw[U,e6]at D;have Cp:pq s r F (List.replicate z 0):=by have:=D.rd;cases gO:n.leaf<;>rw[gO]at this<;>simpa[eS]using this
    have Q0:∀s',Kp [] s s'->IsNode s' [] (.agg [.bool n.leaf,a,j]) n:=λs' hk=>
     ⟨a,j,rfl,(D.oc.keep hk λb hb=>⟨(lc b hb).2,wb⟩).sl λb hb=>⟨wb,by have:=lc b hb;have:=hk.nx;omega⟩,(D.ok.keep hk λb hb=>⟨(y b hb).2,wb⟩).sl λb hb=>⟨wb,by have:=y b hb;have:=hk.nx;omega⟩⟩
    have ac:us (bt .slice v s) λkx=>R 156 [.ptr r 0] s λjK iV=>us (aj .sub none false kx jK iV) λj7=>us (aR 1 v (some j7) none iV) λj9=>R 117 [.ptr r 0] iV λjF dv=>us (mi .not jF dv) λjB=>
     us (br (ao false jB) dv (aJ 3 (.ptr b9 0) dv)) λkN=>gK (ao false jB) dv (λk=>R 145 [kN] dv k) λkM C=>us (br (ao false jB) C (mi .not kM C)) λmh=>us (bk jB (.bool true) mh C) λmg=>
     us (br (ao false mg) C (.ok j9 C)) λl7=>gK (ao false mg) C (λk=>R 178 [l7,.func (.func 179) [] []] C k) λqu Z=>us (bk mg (.bool true) qu Z) λnq=>
     aC nq (us (aZ [.bool false,.ae,.ae] [] Z) λla=>upon (aQ 3 (.ptr b1 0) la Z) λ_ sM=>us (aJ 3 (.ptr b1 0) sM) λpD=>xB n st (.tuple [pD,.int .i64 4]) sM)
      (us (aJ 3 (.ptr b9 0) Z) λqc=>upon (aQ 3 (.ptr b1 0) qc Z) λ_ kH=>us (aJ 3 (.ptr b1 0) kH) λoD=>xB n st (.tuple [oD,.int .i64 0]) kH):=by
     have hv:=h.mono D.kp;rw[hv.len (n.size+z) (by rw[bF,u];omega) uM s,af];refine(LV Cp).same ?_;have e7:aj .sub none false (I ((n.size+z:Nat):Int)) (I ((List.replicate z (0:UInt8)).length)) s=.ok (I n.size) s:=by rw[av,dS,aIF,bA uM];congr 2;omega
     obtain⟨v',q1,q2⟩:=hv.lo (n:=n.size+z) (l:=n.size) uM (by rw[bF,u];omega) uM s;rw[e7,af,q1,af];refine(rm Cp).same ?_;rw[cR,af,aIb];simp only[aG,aHH,aHV,aHY,ba,dI];rw[aM (n:=3) D.g9 rfl,af];refine(Bp (Q0 s (Kp.refl _ _)) hn uM).mono ?_;rintro _ C ⟨rfl,Dn⟩
     have e8:ai (List.replicate z 0)=(ai (mV n++List.replicate z 0)).drop (n.size*1):=by
      rw[bI,aJr,aKF (by rw[bF];rfl)]
     rw[<-e8]at q2;simp only[ba,cR,af,aIb,aF,aG,aHH,aHV,aHY,dI];refine(O5 (q2.mono Dn) uM).mono ?_;rintro _ Z ⟨rfl,NI⟩;have W:=Dn.trans NI wb;have aW:=W.nx;have aB:=(W.keep b9 l9.2 wb).trans D.g9;have RV:=(W.keep b1 l1.2 wb).trans D.g1;obtain⟨c1,c2⟩:=D.oc.cF;obtain⟨d1,d2⟩:=D.ok.cF;have kW:bz [.bool false,.ae,.ae] 0 [.bool n.leaf,a,j]=[.bool n.leaf,a,j]:=rfl;rw[ag,aHM xI,aM (n:=3) aB rfl,af,aH,RV,aS,aT,kW];refine⟨⟨rfl,by simp[c1,d1],wb⟩,?_⟩;rw[aM (n:=3) (an _ _ _) rfl,af];have QH:=W;refine⟨_,rfl,(D.kp.trans W wb).set _ (.inr l1.1) uM,λX hX=>⟨a,j,rfl,?_,?_⟩⟩
     .exact((D.oc.keep W λb hb=>⟨(lc b hb).2,wb⟩).mono λb hb=>ak _ _ _ _ (D.dc b hb).1).sl λb hb=>⟨λh=>by have:=hX b h;have:=lc b hb;omega,by have:=lc b hb;simp;omega⟩
     .exact((D.ok.keep W λb hb=>⟨(y b hb).2,wb⟩).mono λb hb=>ak _ _ _ _ (D.dk b hb).1).sl λb hb=>⟨λh=>by have:=hX b h;have:=y b hb;omega,by have:=y b hb;simp;omega⟩
    by_cases ab:i<=n.cells.length
    .have gO:n.leaf=true:=by
      cases h:n.leaf with
      |true=>rfl
      |false=>rw[h,aHM xI]at rE;omega
     rw[aHQ ab];simp only[ba,af,dI];refine(rm Cp).same ?_;have w:=D.g9;simp only[af,aF,aIj,aG,iy,ba,ah,az,w,ar,aHN,aHG,aw,cR,gO,aIb,ag,aHH,aHV]
     simpa only[aK,aL,gO]using ac
    .rw[aHL ab];simp only[bU,af,pV,aF,aHH,aHV,aG,aIj,iy,ag];exact ac
end
section
variable {st st':St}
def nE.sl {k e:Nat}{v x:CV}{L:List CV}(h:nE k e v L st x st'):Kp [] st st'/\Sl st' [] x k L:=by
 obtain⟨F,f,d,c,_⟩:=h;exact⟨f,d.sl λb a=>⟨wb,(c b a).2⟩⟩
def zC {v:CV}{n:bo}(h:IsNode st [] v n)(W:n.cells.length<=100000)(Y:n.kids.length<=100001):R 149 [v] st λx st'=>Kp [] st st'/\∀X,(∀b∈X,b<st.nx)->IsNode st' X x n:=by
 obtain⟨f,e,rfl,I,H⟩:=h;refine bK ?_;rw[amR];rw[bS,aT];refine⟨rfl,?_⟩;have G:Kp [] st (St.new st (.cells [.bool n.leaf,f,e] 105 false)):=(Kp.refl [] st).new _;have K:(St.new st (.cells [.bool n.leaf,f,e] 105 false)).m.g st.nx=some (.cells [.bool n.leaf,f,e] 105 false):=au _ _;have U:(St.new st (.cells [.bool n.leaf,f,e] 105 false)).nx=st.nx+1:=rfl;generalize St.new st (.cells [.bool n.leaf,f,e] 105 false)=s1 at*;have q:Kp [] s1 (St.new s1 (.cells [.bool false,.ae,.ae] 105 false)):=(Kp.refl [] s1).new _;have J:(St.new s1 (.cells [.bool false,.ae,.ae] 105 false)).m.g s1.nx=some (.cells [.bool false,.ae,.ae] 105 false):=au _ _;have T:(St.new s1 (.cells [.bool false,.ae,.ae] 105 false)).nx=s1.nx+1:=rfl;rw[cz,aP,bD];generalize St.new s1 (.cells [.bool false,.ae,.ae] 105 false)=s2 at*;have k:=(q.keep st.nx uM wb).trans K;have o:=G.trans q wb;simp only[ah,af,az,k,ar,aHN,aHI,aHG,aw];refine(xp (I.mono o) (eV _) acF).mono ?_;intro a P r;obtain⟨j,u⟩:=r.sl;have S:=j.nx;have l:=(j.keep st.nx uM wb).trans k;have p:=o.trans j wb;simp only[l,ar,aHI,aHG,aw];refine(Bn (H.mono p) (jP _) (by rw[qM];omega)).mono ?_;intro d s4 i;obtain⟨c,L⟩:=i.sl;have Q:=c.nx;have O:=(c.keep st.nx uM wb).trans l;have N:=(c.keep s1.nx uM wb).trans ((j.keep s1.nx uM wb).trans J);have M:=u.mono c;obtain⟨C,B,A⟩:=u.bL;obtain⟨z,y,w⟩:=L.bL
 have D:aZ [.bool false,.ae,.ae] [(0,1,.bool n.leaf),(1,1,a),(2,1,d)] s4=.ok (.agg [.bool n.leaf,a,d]) s4:=by
  rw[dB];simp[cE,bz,C,A,z,w]
 have E:bz [.bool false,.ae,.ae] 0 [.bool n.leaf,a,d]=[.bool n.leaf,a,d]:=rfl;simp only[D,af,aH,N,aS,aT,E,O,ar,aHG,aw,aKc,and_true];refine⟨⟨rfl,by simp[B,y],wb⟩,?_⟩;rw[aM (n:=3) (an _ _ _) rfl,af];have V:Kp [s1.nx] s4 (St.set s4 s1.nx (.cells [.bool n.leaf,a,d] 105 false)):=(Kp.refl _ s4).set _ (.inl wb) uM;refine⟨(p.trans c wb).set _ (.inr uM) uM,λX s=>⟨a,d,rfl,?_,?_⟩⟩
 .obtain⟨F,a1,a2,a3,_⟩:=r;exact((a2.keep c λb hb=>⟨(a3 b hb).2,wb⟩).mono λb hb=>ak _ _ _ _ acH).sl λb hb=>⟨λh=>by have:=s b h;have:=(a3 b hb).1;omega,by have:=(a3 b hb).2;simp;omega⟩
 .obtain⟨F,a1,a2,a3,_⟩:=i;exact(a2.mono λb hb=>ak _ _ _ _ acH).sl λb hb=>⟨λh=>by have:=s b h;have:=(a3 b hb).1;omega,by have:=(a3 b hb).2;simp;omega⟩
def Yj {v:CV}{n:bo}{i:Nat}(h:IsNode st [] v n)(hl:n.cells.length<=10000)(hk:n.kids.length=if n.leaf=true then 0 else n.cells.length+1)(hi:i<n.cells.length):
 R 151 [v,I i] st λx st'=>∃a b,x=.tuple [a,.str (cN n i).2.1,b]/\Kp [] st st'/\(∀X,(∀b∈X,b<st.nx)->IsNode st' X a (cN n i).1)/\(∀X,(∀b∈X,b<st.nx)->IsNode st' X b (cN n i).2.2):=by
 obtain⟨k,u,rfl,h1,h2⟩:=h;refine bK ?_;rw[amP];rw[bS,aT];refine⟨rfl,?_⟩;have k1:Kp [] st (St.new st (.cells [.bool n.leaf,k,u] 105 false)):=(Kp.refl [] st).new _;have g1:(St.new st (.cells [.bool n.leaf,k,u] 105 false)).m.g st.nx=some (.cells [.bool n.leaf,k,u] 105 false):=au _ _;have n1:(St.new st (.cells [.bool n.leaf,k,u] 105 false)).nx=st.nx+1:=rfl;generalize St.new st (.cells [.bool n.leaf,k,u] 105 false)=s1 at*;have k2:Kp [] s1 (St.new s1 (.cells [.bool false,.ae,.ae] 105 false)):=(Kp.refl [] s1).new _;have g2:(St.new s1 (.cells [.bool false,.ae,.ae] 105 false)).m.g s1.nx=some (.cells [.bool false,.ae,.ae] 105 false):=au _ _;have n2:(St.new s1 (.cells [.bool false,.ae,.ae] 105 false)).nx=s1.nx+1:=rfl;rw[cz,aP];generalize St.new s1 (.cells [.bool false,.ae,.ae] 105 false)=s2 at*;have k3:Kp [] s2 (St.new s2 (.cells [.bool false,.ae,.ae] 105 false)):=(Kp.refl [] s2).new _;have g3:(St.new s2 (.cells [.bool false,.ae,.ae] 105 false)).m.g s2.nx=some (.cells [.bool false,.ae,.ae] 105 false):=au _ _;have n3:(St.new s2 (.cells [.bool false,.ae,.ae] 105 false)).nx=s2.nx+1:=rfl;rw[cz,aP];generalize St.new s2 (.cells [.bool false,.ae,.ae] 105 false)=s3 at*;have qS:=(k3.keep st.nx uM wb).trans ((k2.keep st.nx uM wb).trans g1);have Ih:=(k3.keep s1.nx uM wb).trans g2;have P:=(k1.trans k2 wb).trans k3 wb;have F:=h1.mono P
 have V:∀(N f:St) (j7 oD:CV) (a b:bo),Kp [] s3 N->Kp [] N f->(∀X,(∀b∈X,b<s3.nx)->IsNode N X j7 a)->(∀X,(∀b∈X,b<N.nx)->IsNode f X oD b)->∀(kM:CV) (D:bY),kM=.str D->∀(K:St->St->Prop),(∀d j,Kp [s1.nx,s2.nx] f d->Kp [s1.nx,s2.nx] f j->K d j)->
  upon (aQ 3 (.ptr s1.nx 0) j7 f) λ_ d=>upon (aQ 3 (.ptr s2.nx 0) oD d) λ_ j=>K d j/\us (aJ 3 (.ptr s1.nx 0) j) λvZ=>us (aJ 3 (.ptr s2.nx 0) j) λuy=>
   ∃a' b',CV.tuple [vZ,kM,uy]=.tuple [a',.str D,b']/\Kp [] st j/\(∀X,(∀b∈X,b<st.nx)->IsNode j X a' a)/\(∀X,(∀b∈X,b<st.nx)->IsNode j X b' b):=by
  intro N f j7 oD a b J O U T kM D ad K hK;have m8:=J.nx;have m9:=O.nx;have ai:=U [s1.nx,s2.nx] zS;obtain⟨M,d1,rfl,Y,f1⟩:=ai;have aj:=T [s1.nx,s2.nx] zS;obtain⟨c2,d2,rfl,W,f2⟩:=aj;obtain⟨x1,x2,x3⟩:=Y.bL;obtain⟨y1,y2,y3⟩:=f1.bL;obtain⟨z1,z2,z3⟩:=W.bL;obtain⟨w1,w2,w3⟩:=f2.bL;have q3:=J.trans O wb;have ab:=(q3.keep s1.nx uM wb).trans Ih;have aa:=(q3.keep s2.nx uM wb).trans g3;have kW:∀a b c:CV,bz [.bool false,.ae,.ae] 0 [a,b,c]=[a,b,c]:=λa b c=>rfl;rw[aH,ab,aS,aT,kW];refine⟨⟨rfl,acP,wb⟩,?_⟩;rw[aH,ak _ _ _ _ uM,aa,aS,aT,kW];refine⟨⟨rfl,by simp[z2,w2],wb⟩,?_⟩;have kA:Kp [s1.nx,s2.nx] f (St.set f s1.nx (.cells [.bool a.leaf,M,d1] 105 false)):=(Kp.refl _ f).set _ (.inl wb) uM;have kB:Kp [s1.nx,s2.nx] f (St.set (St.set f s1.nx (.cells [.bool a.leaf,M,d1] 105 false)) s2.nx (.cells [.bool b.leaf,c2,d2] 105 false)):=kA.set _ (.inl wb) zS;refine⟨hK _ _ kA kB,?_⟩;rw[aM (n:=3) ((ak _ _ _ _ uM).trans (an _ _ _)) rfl,af,aM (n:=3) (an _ _ _) rfl,af];refine⟨_,_,by rw[ad],(P.trans q3 wb).trans kB zS,λX hX=>?_,λX hX=>?_⟩
  .have:=(U (X++[s1.nx,s2.nx]) (by intro b S;simp at S;rcases S with h|h|h;have:=hX b h;omega;omega;omega)).mono (O.mono wb);exact(this.mono (kB.mono wb)).eH (by intro q hq;simp[hq])
  .have:=T (X++[s1.nx,s2.nx]) (by intro b S;simp at S;rcases S with h|h|h;have:=hX b h;omega;omega;omega);exact(this.mono (kB.mono wb)).eH (by intro q hq;simp[hq])
 have hlen:=bQ n.cells;obtain⟨bc,pc,lc,tc,gc,u1,u2,u3,u4,u5⟩:=h1.cellAt (L:=n.cells.map bg) uM (fQ _) (i:=i) Yy;have z:=u5 0 (.str n.cells[i].key) acm;rw[aIv]at z;have Ki:=P.nx;have r:∀s,Kp [] s3 s->s.m.g st.nx=some (.cells [.bool n.leaf,k,u] 105 false)/\s.m.g bc=some (.cells lc tc gc):=λs p=>⟨(p.keep _ uM wb).trans qS,((P.trans p wb).keep _ u3 wb).trans u2⟩
 have WW:∀f s,Kp [] s3 f->Kp [s1.nx,s2.nx] f s->s.m.g st.nx=some (.cells [.bool n.leaf,k,u] 105 false)/\s.m.g bc=some (.cells lc tc gc):=λf s h9 p=>
  ⟨(p.keep _ (by have:=h9.nx;omega) zS).trans (r f h9).1,(p.keep _ (by have:=h9.nx;omega) zS).trans (r f h9).2⟩
 have Z:∀s,Kp [] s3 s->Sl s [] k 4 (bM n.cells):=λs p=>F.mono p;have G:∀s,Kp [] s3 s->Sl s [] u 1 (cP n.kids):=λs p=>(h2.mono P).mono p;simp only[fl,ah,af,az,qS,ar,aHN,aHI,aHG,aw,ag];cases gO:n.leaf with
 |true=>
  rw[gO,aHP rfl]at hk;rw[aHP rfl,bD];obtain⟨w,p1,C⟩:=F.hi (n:=n.cells.length) uM hlen (h:=i) uM s3;obtain⟨b1,b2,b3⟩:=C.bL
  have mo:aZ [.bool false,.ae,.ae] [(0,1,.bool true),(1,1,w)] s3=.ok (.agg [.bool true,w,.ae]) s3:=by
   rw[dB];simp[cE,bz,b1,b3]
  have al:=qS;simp only[p1,af,mo];rw[lL _ _ uM]at C;refine(zC (n:=⟨true,n.cells.take i,[]⟩) ⟨w,.ae,rfl,C,.inl ⟨rfl,rfl⟩⟩ zS wb).mono ?_;rintro x9 s4 ⟨o,E⟩;obtain⟨Y,W⟩:=r s4 o;obtain⟨H,p3,B⟩:=(Z s4 o).lo (n:=n.cells.length) uM hlen (l:=i) uM s4;obtain⟨M,c2,c3⟩:=B.bL
  have N0:aZ [.bool false,.ae,.ae] [(0,1,.bool true),(1,1,H)] s4=.ok (.agg [.bool true,H,.ae]) s4:=by
   rw[dB];simp[cE,bz,M,c3]
  simp only[ah,aIv,az,Y,W,u1,z,ar,aHI,aHG,aw,p3,af,N0];rw[lM _ _ uM]at B;refine(zC (n:=⟨true,n.cells.drop i,[]⟩) ⟨H,.ae,rfl,B,.inl ⟨rfl,rfl⟩⟩ zS wb).mono ?_;rintro ew A ⟨Q,Zs⟩;have OO:=o.trans Q wb;obtain⟨e3,e4⟩:=r A OO;obtain⟨e5,e6⟩:=r s3 (Kp.refl _ _);have et:cN n i=(⟨true,n.cells.take i,[]⟩,n.cells[i].key,⟨true,n.cells.drop i,[]⟩):=by unfold cN;rw[aHP gO,aHO hi];rfl
  rw[et];simp only[e3,e4,e6,z,ar,aHI,aHG,aw,aKc];refine V s4 A x9 ew _ _ o Q E Zs _ n.cells[i].key rfl (λd _=>((OM (d.m.g st.nx) λl=>onV l[1]? λv=>v=k)/\True)/\((OM (d.m.g bc) λl=>onV l[pc]? λv=>v=.str n.cells[i].key)/\True)/\True) λd j J O=>?_;obtain⟨t1,t2⟩:=WW A d OO J;simp only[t1,t2,z,ar,aHI,aHG,aw,and_true]
 |false=>
  rw[gO,aHM xI]at hk;rw[aHM xI];have Re:=(G s3 (Kp.refl _ _)).len n.kids.length wb uM s3
  have ac:C0 false (I ((i+1:Nat):Int)) (I n.kids.length) s3=.ok (I ((i+1:Nat):Int)) s3:=by
   have e:C0 false (I ((i+1:Nat):Int)) (I n.kids.length) s3=.ok (I (if (n.kids.length:Int)<((i+1:Nat):Int)then (n.kids.length:Int)else ((i+1:Nat):Int))) s3:=rfl;rw[e,aHM uM]
  obtain⟨w,p1,C⟩:=F.hi (n:=n.cells.length) uM hlen (h:=i) uM s3;obtain⟨v8,p5,p6⟩:=(G s3 (Kp.refl _ _)).hi (n:=n.kids.length) uM wb (h:=i+1) uM s3;obtain⟨b1,b2,b3⟩:=C.bL;obtain⟨d1,d2,d3⟩:=p6.bL
  have mo:aZ [.bool false,.ae,.ae] [(1,1,w),(2,1,v8)] s3=.ok (.agg [.bool false,w,v8]) s3:=by
   rw[dB];simp[cE,bz,b1,b3,d1,d3]
  have al:=qS;simp only[gJ i uM,af,Re,ac,bD,p1,p5,mo];rw[lL _ _ uM]at C;rw[aJr,vF]at p6;refine(zC (n:=⟨false,n.cells.take i,n.kids.take (i+1)⟩) ⟨w,v8,rfl,C,p6⟩ zS zS).mono ?_;rintro x9 s4 ⟨o,E⟩;obtain⟨Y,W⟩:=r s4 o;obtain⟨H,p3,B⟩:=(Z s4 o).lo (n:=n.cells.length) uM hlen (l:=i+1) uM s4;obtain⟨y,p7,p8⟩:=(G s4 o).lo (n:=n.kids.length) uM wb (l:=i+1) uM s4;obtain⟨M,c2,c3⟩:=B.bL;obtain⟨f1,f2,f3⟩:=p8.bL
  have N0:aZ [.bool false,.ae,.ae] [(1,1,H),(2,1,y)] s4=.ok (.agg [.bool false,H,y]) s4:=by
   rw[dB];simp[cE,bz,M,c3,f1,f3]
  simp only[ah,aIv,az,Y,W,u1,z,ar,aHI,aHG,aw,p3,p7,af,N0];rw[lM _ _ uM]at B;rw[aJr,vG]at p8;refine(zC (n:=⟨false,n.cells.drop (i+1),n.kids.drop (i+1)⟩) ⟨H,y,rfl,B,p8⟩ zS zS).mono ?_;rintro ew A ⟨Q,Zs⟩;have OO:=o.trans Q wb;obtain⟨e3,e4⟩:=r A OO;obtain⟨e5,e6⟩:=r s3 (Kp.refl _ _);have et:cN n i=(⟨false,n.cells.take i,n.kids.take (i+1)⟩,n.cells[i].key,⟨false,n.cells.drop (i+1),n.kids.drop (i+1)⟩):=by unfold cN;rw[aHM acS,aHO hi];rfl
  rw[et];simp only[e3,e4,e6,z,ar,aHI,aHG,aw,aKc];refine V s4 A x9 ew _ _ o Q E Zs _ n.cells[i].key rfl (λd _=>((OM (d.m.g st.nx) λl=>onV l[1]? λv=>v=k)/\True)/\((OM (d.m.g bc) λl=>onV l[pc]? λv=>v=.str n.cells[i].key)/\True)/\True) λd j J O=>?_;obtain⟨t1,t2⟩:=WW A d OO J;simp only[t1,t2,z,ar,aHI,aHG,aw,and_true]
end
section
variable {st st':St}
def TW {n:bo}(a:n.ok)(e:n.cells.length<=1000){i:Nat}(hi:i<n.cells.length):DN (cN n i).1/\DN (cN n i).2.2:=by
 have d:=a.jR;unfold cN;cases b:n.leaf with
 |true=>
  have hc:=a.cell;rw[b]at hc;rw[aHP rfl];exact⟨⟨λc h=>hc c (aIw h),wb,zS,wb⟩,⟨λc h=>hc c (aID h),wb,zS,wb⟩⟩
 |false=>
  have hc:=a.cell;rw[b]at hc;rw[b,aHM xI]at d;rw[aHM xI];exact⟨⟨λc h=>hc c (aIw h),λk h=>a.Dl k (aIw h),zS,zS⟩,⟨λc h=>hc c (aID h),λk h=>a.Dl k (aID h),zS,zS⟩⟩
def DN.size {n:bo}(h:DN n):n.size<=200000:=by
 have h1:=ow (leaf:=n.leaf) (l:=n.cells) h.cell;have h2:=qN (l:=n.kids) h.Dl;have c:=h.cells;have b:=h.kids;have a:(uv n.cells.length).length<=2:=re uM;rw[cr]
 split<;>omega
def CI {p:Nat}{v u:CV}{n:bo}{i:Nat}(E:eA st)(hp:p<st.nx)(X:st.m.g p=some (.cells [.bool n.leaf,v,u] 105 false))(h1:Sl st [] v 4 (bM n.cells))(h2:Sl st [] u 1 (cP n.kids))(D:n.ok)(W:n.cells.length<=1000)(hi:i<n.cells.length):
 R 150 [I i,.ptr p 0] st λx st'=>x=I (hU n i)/\Kp [] st st':=by
 refine bK ?_;rw[amQ];rw[aM (n:=3) X rfl,af];refine(Yj ⟨v,u,rfl,h1,h2⟩ uM D.jR hi).mono ?_;rintro _ d ⟨a,b,rfl,V,Z,Y⟩;obtain⟨o,l⟩:=TW D W hi;have w:=Z [] wb;have KC:=Y [] wb;obtain⟨f,e,rfl,K,H⟩:=w;obtain⟨k,j,rfl,J,G⟩:=KC;obtain⟨x1,x2,x3⟩:=K.bL;obtain⟨y1,y2,y3⟩:=H.bL;obtain⟨z1,L,z3⟩:=J.bL;obtain⟨w1,N,w3⟩:=G.bL;have g2:(St.new d (.cells [.bool false,.ae,.ae] 105 false)).m.g d.nx=some (.cells [.bool false,.ae,.ae] 105 false):=au _ _;have g3:(St.new (St.new d (.cells [.bool false,.ae,.ae] 105 false)) (.cells [.bool false,.ae,.ae] 105 false)).m.g (d.nx+1)=some (.cells [.bool false,.ae,.ae] 105 false):=au (St.new d (.cells [.bool false,.ae,.ae] 105 false)) _;have RU:(St.new (St.new d (.cells [.bool false,.ae,.ae] 105 false)) (.cells [.bool false,.ae,.ae] 105 false)).m.g d.nx=some (.cells [.bool false,.ae,.ae] 105 false):=(aX _ _ _ wb).trans g2;have Q:(St.new (St.new d (.cells [.bool false,.ae,.ae] 105 false)) (.cells [.bool false,.ae,.ae] 105 false)).nx=d.nx+2:=rfl;have U:Kp [] d (St.new (St.new d (.cells [.bool false,.ae,.ae] 105 false)) (.cells [.bool false,.ae,.ae] 105 false)):=((Kp.refl [] d).new _).new _;have M:(St.new d (.cells [.bool false,.ae,.ae] 105 false)).nx=d.nx+1:=rfl;simp only[aD,aI,af,cz,aP,M];generalize St.new (St.new d (.cells [.bool false,.ae,.ae] 105 false)) (.cells [.bool false,.ae,.ae] 105 false)=s3 at*;have C:∀a b c:CV,bz [.bool false,.ae,.ae] 0 [a,b,c]=[a,b,c]:=λa b c=>rfl;rw[aH,RU,aS,aT,C];refine⟨⟨rfl,acP,wb⟩,?_⟩;rw[aH,ak _ _ _ _ uM,g3,aS,aT,C];refine⟨⟨rfl,by simp[L,N],wb⟩,?_⟩;have S:Kp [] d (St.set s3 d.nx (.cells [.bool (cN n i).1.leaf,f,e] 105 false)):=U.set _ (.inr (aHK _)) uM
 have q:Kp [] d (St.set (St.set s3 d.nx (.cells [.bool (cN n i).1.leaf,f,e] 105 false)) (d.nx+1) (.cells [.bool (cN n i).2.2.leaf,k,j] 105 false)):=S.set _ (.inr uM) zS;have gA:(St.set (St.set s3 d.nx (.cells [.bool (cN n i).1.leaf,f,e] 105 false)) (d.nx+1) (.cells [.bool (cN n i).2.2.leaf,k,j] 105 false)).m.g d.nx=some (.cells [.bool (cN n i).1.leaf,f,e] 105 false):=(ak _ _ _ _ uM).trans (an _ _ _);have F:(St.set (St.set s3 d.nx (.cells [.bool (cN n i).1.leaf,f,e] 105 false)) (d.nx+1) (.cells [.bool (cN n i).2.2.leaf,k,j] 105 false)).m.g (d.nx+1)=some (.cells [.bool (cN n i).2.2.leaf,k,j] 105 false):=an _ _ _;have nB:(St.set (St.set s3 d.nx (.cells [.bool (cN n i).1.leaf,f,e] 105 false)) (d.nx+1) (.cells [.bool (cN n i).2.2.leaf,k,j] 105 false)).nx=d.nx+2:=Q;generalize St.set (St.set s3 d.nx (.cells [.bool (cN n i).1.leaf,f,e] 105 false)) (d.nx+1) (.cells [.bool (cN n i).2.2.leaf,k,j] 105 false)=s5 at*;have z:=V.trans q wb;rw[bD,aM (n:=3) gA rfl,af];refine(xt (z.fresh E) (n:=(cN n i).1) ⟨f,e,rfl,K.mono q,H.mono q⟩ o).mono ?_;intro x9 P B;have r:=B.kp;have y:=(r.keep _ uM wb).trans F;rw[(B.sl [] wb).len (cN n i).1.size afc uM P,af,aM (n:=3) y rfl,af];refine(xt (r.fresh (z.fresh E)) (n:=(cN n i).2.2) ⟨k,j,rfl,(J.mono q).mono r,(G.mono q).mono r⟩ l).mono ?_;intro dm O A;have T:=A.kp;rw[(A.sl [] wb).len (cN n i).2.2.size afc uM O,af];have sa:=o.size;have sb:=l.size;rw[aM (n:=3) F rfl];have es:∀s,aj .sub none false (I (cN n i).1.size) (I (cN n i).2.2.size) s=.ok (I (((cN n i).1.size:Int)-(cN n i).2.2.size)) s:=λs=>adD
 have en:∀s,mi .neg (I (((cN n i).1.size:Int)-(cN n i).2.2.size)) s=.ok (I (-(((cN n i).1.size:Int)-(cN n i).2.2.size))) s:=λs=>by
  have:mi .neg (I (((cN n i).1.size:Int)-(cN n i).2.2.size)) s=.ok (I (IntKind.i64.wrap (0-(((cN n i).1.size:Int)-(cN n i).2.2.size)))) s:=rfl;rw[this,bA uM];congr 2;omega
 have em:∀(a b:Int) s,C0 true (I a) (I b) s=.ok (I (if a<b then b else a)) s:=λa b s=>rfl;simp only[es,af,en,em,aKc,and_true];refine⟨?_,(z.trans r wb).trans T wb⟩;unfold hU
 congr 1
 split<;>omega
def SY {v:CV}{n:bo}(hf:eA st)(h:IsNode st [] v n)(U:n.ok)(hl:n.cells.length<=1000)(M:cJ n<n.cells.length):
 R 109 [v] st λx st'=>∃a b,x=.tuple [a,.str (yw n).2.1,b]/\Kp [] st st'/\(∀X,(∀b∈X,b<st.nx)->IsNode st' X a (yw n).1)/\(∀X,(∀b∈X,b<st.nx)->IsNode st' X b (yw n).2.2):=by
 obtain⟨r,o,rfl,C,h2⟩:=h;refine bK ?_;rw[anB];rw[bS,aT];refine⟨rfl,?_⟩;have k1:Kp [] st (St.new st (.cells [.bool n.leaf,r,o] 105 false)):=(Kp.refl [] st).new _;have g1:(St.new st (.cells [.bool n.leaf,r,o] 105 false)).m.g st.nx=some (.cells [.bool n.leaf,r,o] 105 false):=au _ _;have n1:(St.new st (.cells [.bool n.leaf,r,o] 105 false)).nx=st.nx+1:=rfl;generalize St.new st (.cells [.bool n.leaf,r,o] 105 false)=s1 at*;have k2:Kp [] s1 (St.new s1 (.cells [.bool false,.ae,.ae] 105 false)):=(Kp.refl [] s1).new _;have g2:(St.new s1 (.cells [.bool false,.ae,.ae] 105 false)).m.g s1.nx=some (.cells [.bool false,.ae,.ae] 105 false):=au _ _;have n2:(St.new s1 (.cells [.bool false,.ae,.ae] 105 false)).nx=s1.nx+1:=rfl;rw[cz,aP];generalize St.new s1 (.cells [.bool false,.ae,.ae] 105 false)=s2 at*;have P:Kp [] s2 (St.new s2 (.cells [.bool false,.ae,.ae] 105 false)):=(Kp.refl [] s2).new _;have g3:(St.new s2 (.cells [.bool false,.ae,.ae] 105 false)).m.g s2.nx=some (.cells [.bool false,.ae,.ae] 105 false):=au _ _;have n3:(St.new s2 (.cells [.bool false,.ae,.ae] 105 false)).nx=s2.nx+1:=rfl;rw[cz,aP];generalize St.new s2 (.cells [.bool false,.ae,.ae] 105 false)=s3 at*;have qS:=(P.keep st.nx uM wb).trans ((k2.keep st.nx uM wb).trans g1);have Ih:=(P.keep s1.nx uM wb).trans g2;have lH:=(k1.trans k2 wb).trans P wb
 have go:∀Q:CV->St->Prop,(∀x s,(∃a b,x=.tuple [a,.str (yw n).2.1,b]/\Kp [] st s/\(∀X,(∀b∈X,b<st.nx)->IsNode s X a (yw n).1)/\(∀X,(∀b∈X,b<st.nx)->IsNode s X b (yw n).2.2))->Q x s)->∀z:Nat,z=cJ n->
  df (λd u Dn=>fl 1 (ay 0 d) u λew=>us (bt .slice ew u) λdW=>us (aj .lss none false (ay 5 d) dW u) λdP=>
   aC dP (fA R (ay 3 d) [ay 5 d] u λeU B=>fA R (ay 3 d) [ay 4 d] B λfc y=>us (aj .lss none false eU fc y) λgE=>
    aC gE (us (aj .add none true (ay 5 d) (.int .i64 1) y) λfS=>Dn [ay 0 d,ay 1 d,ay 2 d,ay 3 d,ay 5 d,fS] y)
     (us (aj .add none true (ay 5 d) (.int .i64 1) y) λgZ=>Dn [ay 0 d,ay 1 d,ay 2 d,ay 3 d,ay 4 d,gZ] y))
    (us (aJ 3 (ay 0 d) u) λiR=>R 151 [iR,ay 4 d] u λS l=>us (aB S 0 l) λja=>us (aB S 1 l) λiQ=>us (aB S 2 l) λiu=>
     upon (aQ 3 (ay 1 d) ja l) λ_ eu=>upon (aQ 3 (ay 2 d) iu eu) λ_ eP=>us (aJ 3 (ay 1 d) eP) λjr=>us (aJ 3 (ay 2 d) eP) λkx=>Q (.tuple [jr,iQ,kx]) eP))
   [.ptr st.nx 0,.ptr s1.nx 0,.ptr s2.nx 0,.func (.func 150) [] [.ptr st.nx 0],I z,I ((z+1:Nat):Int)] s3:=by
  intro Q hQ z KC;refine bG (λfu vs s=>∃i b:Nat,i+fu=n.cells.length/\b<i/\cJ n<=b/\vs=[.ptr st.nx 0,.ptr s1.nx 0,.ptr s2.nx 0,.func (.func 150) [] [.ptr st.nx 0],I b,I i]/\Kp [] s3 s/\tE n fu i b=iB n) ?_ (n:=n.cells.length-(cJ n+1)) ⟨z+1,z,uM,uM,uM,rfl,Kp.refl _ _,by rw[KC];rfl⟩;rintro fu vs s k ⟨i,b,hi,ai,ad,rfl,w,A⟩ next;have j:=lH.trans w wb;have K:=(w.keep st.nx uM wb).trans qS;have ab:=(w.keep s1.nx uM wb).trans Ih;have aa:=(w.keep s2.nx uM wb).trans g3;have ac:=w.nx;have hlen:=(C.mono j).len n.cells.length (bQ _) uM s;simp only[aK,aL,fl,ah,af,az,K,ar,aHN,aHI,aHG,aw,hlen,dD,ag]
  by_cases Y:i<n.cells.length
  .obtain⟨f,rfl⟩:∃f,fu=f+1:=⟨fu-1,uM⟩;rw[aHQ Y,aHP rfl,dM];simp only[aIm,aIL];refine(CI (j.fresh hf) uM K (C.mono j) (h2.mono j) U hl Y).mono ?_;rintro _ B ⟨rfl,G⟩;have N:=j.trans G wb;rw[dM];simp only[aIm,aIL];refine(CI (N.fresh hf) (by have:=G.nx;omega) ((G.keep st.nx uM wb).trans K) (C.mono N) (h2.mono N) U hl (i:=b) uM).mono ?_;rintro _ y ⟨rfl,nK⟩;simp only[dD,af,ag,gJ i uM];have F:=(w.trans G wb).trans nK wb;simp only[tE]at A
   by_cases J:hU n i<hU n b
   .rw[aHQ J,aHP rfl];rw[aHP J]at A;exact next f _ _ uM ⟨i+1,i,uM,uM,uM,rfl,F,A⟩
   .rw[aHL J,aHM xI];rw[aHM J]at A;exact next f _ _ uM ⟨i+1,b,uM,uM,uM,rfl,F,A⟩
  .have W:fu=0\/n.cells.length<i:=by omega
   have e:b=iB n:=by
    rcases W with rfl|h
    .exact A
    .omega
   subst e;have V:=(zc n M).2.1;rw[aHL Y,aHM xI,aM (n:=3) K rfl,af];refine(Yj ⟨r,o,rfl,C.mono j,h2.mono j⟩ uM U.jR V).mono ?_;rintro _ l ⟨a,b,rfl,H,ha,e⟩;have LI:=H.nx;have gA:=(H.keep s1.nx uM wb).trans ab;have gB:=(H.keep s2.nx uM wb).trans aa;have Z:=ha [s1.nx,s2.nx] zS;have qp:=e [s1.nx,s2.nx] zS;obtain⟨c1,d1,rfl,E,f1⟩:=Z;obtain⟨c2,d2,rfl,D,f2⟩:=qp;obtain⟨x1,x2,x3⟩:=E.bL;obtain⟨y1,y2,y3⟩:=f1.bL;obtain⟨z1,z2,z3⟩:=D.bL;obtain⟨w1,w2,w3⟩:=f2.bL;have kW:∀a b c:CV,bz [.bool false,.ae,.ae] 0 [a,b,c]=[a,b,c]:=λa b c=>rfl;simp only[aD,aI,af];rw[aH,gA,aS,aT,kW];refine⟨⟨rfl,acP,wb⟩,?_⟩;rw[aH,ak _ _ _ _ uM,gB,aS,aT,kW];refine⟨⟨rfl,by simp[z2,w2],wb⟩,?_⟩;rw[aM (n:=3) ((ak _ _ _ _ uM).trans (an _ _ _)) rfl,af,aM (n:=3) (an _ _ _) rfl,af];have O:Kp [s1.nx,s2.nx] l (St.set (St.set l s1.nx (.cells [.bool (cN n (iB n)).1.leaf,c1,d1] 105 false)) s2.nx (.cells [.bool (cN n (iB n)).2.2.leaf,c2,d2] 105 false)):=((Kp.refl _ l).set (p:=s1.nx) _ (.inl wb) uM).set (p:=s2.nx) _ (.inl wb) zS;refine hQ _ _ ⟨_,_,rfl,(j.trans H wb).trans O zS,λX hX=>?_,λX hX=>?_⟩
   .have:=ha (X++[s1.nx,s2.nx]) (by intro b e;simp at e;rcases e with h|h|h;have:=hX b h;omega;omega;omega);exact(this.mono (O.mono wb)).eH (by intro q T;simp[T])
   .have:=e (X++[s1.nx,s2.nx]) (by intro b e;simp at e;rcases e with h|h|h;have:=hX b h;omega;omega;omega);exact(this.mono (O.mono wb)).eH (by intro q T;simp[T])
 have Ml:=(C.mono lH).len n.cells.length (bQ _) uM s3;simp only[cM,aK,aL,fl,ah,af,az,qS,ar,aHN,aHI,aHG,aw,ag,Ml,lV];unfold cJ at M;cases L:n.leaf with
 |true=>
  rw[L,aHP rfl]at M;have E:aj .leq none false (I n.cells.length) (.int .i64 1) s3=.ok (.bool false) s3:=by rw[av,lU,aHL uM]
  have D:aj .add none true (.int .i64 1) (.int .i64 1) s3=.ok (I ((1+1:Nat):Int)) s3:=rfl;rw[aHP rfl,E,af,ag,aHM xI,D,af];have:=go _ (λx s h=>h) 1 (by unfold cJ;rw[L,aHP rfl]);simp only[fl]at this⊢;exact this
 |false=>
  rw[L,aHM xI]at M;have E:aj .leq none false (I n.cells.length) (.int .i64 0) s3=.ok (.bool false) s3:=by rw[av,lU,aHL uM]
  have D:aj .add none true (.int .i64 0) (.int .i64 1) s3=.ok (I ((0+1:Nat):Int)) s3:=rfl;rw[aHM xI,E,af,ag,aHM xI,D,af];have:=go _ (λx s h=>h) 0 (by unfold cJ;rw[L,aHM xI]);simp only[fl]at this⊢;exact this
end
