import Derived.Test.YtckodcbgpffimaaGreatDoorNodeA
namespace Lim
open Go
noncomputable section
set_option linter.defProp false
set_option maxRecDepth 100000
section
variable {Z Z':O}
def QJ {X:δ Nat}{v:K}{z:Nat}(c:Sl Z X v 1 (al (List.replicate z 0)))(g:z<=1000000):Rq0 238 [v,.func (.func 239) [] []] Z λx Z'=>x=.bool false/\Kp [] Z Z':=by
 refine bE ?_;rw[apb]
 have key:Rq0 264 [v,.func (.func 239) [] []] Z λx Z'=>x=I (-1)/\Kp [] Z Z':=by
  refine bE ?_;rw[aoL];have hlen:=c.len z V J Z;simp only[yB,hlen,af];refine bD (λfu b s=>∃i,fu+i=z/\b=[v,.func (.func 239) [] [],I z,I i]/\Kp [] Z s) ?_ (n:=z) ⟨0,rfl,rfl,Δ _ _⟩;rintro fu b s k ⟨i,hi,rfl,a⟩ next;simp only[DJ,dd]
  by_cases hc:i<z
  .rw[jp hc,gq rfl];have f:=(c.fc (Y:=[]) V).mono a;refine f.idx (i:=i) EV _ ?_;have e:(al (List.replicate z 0))[i]'(by simpa using hc)=.int .u8 0:=by simp[al,bG]
   rw[e,dv];simp only[ow,zo];refine bE ?_;rw[apa];simp only[au,dJ,Al,ll,ii];have d:=fV i J s ν;rw[au]at d;rw[d,af];exact next (fu-1) _ _ J ⟨i+1,J,rfl,a⟩
  .rw[jo hc,B tW];exact⟨gt,a⟩
 refine key.mono ?_;rintro _ s ⟨rfl,h⟩;simp[h]
structure Dec (qy s:O)(b1 b9 r:Nat)(F:List Nat)(leaf:Bool)(vc vk:K)(cells:List dq)(kids:List Nat)(L:List UInt8)(Fc Fk:List Nat):Prop where
 kp:Kp [] qy s
 g1:s.m.g b1=some (.cells [.bool false,.ae,.ae] 251 false)
 g9:s.m.g b9=some (.cells [.bool leaf,vc,vk] 251 false)
 rd:qw s r F L
 oc:Own s vc 4 255 (bL cells) Fc
 ok:Own s vk 1 3 (cR kids) Fk
 lt:∀b,b=b1\/b=b9\/b∈F\/b∈Fc\/b∈Fk->qy.nx<=b/\b<s.nx
 ne:b1≠b9/\b1∉F/\b9∉F
 dc:∀b∈Fc,b≠b1/\b≠b9/\b∉F/\b∉Fk
 dk:∀b∈Fk,b≠b1/\b≠b9/\b∉F
def yP (n:bp)(Z:O)(y:K)(Z':O):Prop:=∃x,y=.tuple [x,μ]/\Kp [] Z Z'/\∀X,(∀b∈X,b<Z.nx)->IsNode Z' X x n
def Qc {v:K}{n:bp}{z:Nat}(hf:dV Z)(h:Sl Z [] v 1 (al (oo n++List.replicate z 0)))(hn:n.ok)(hl:n.size+z<=512):Rq0 195 [v] Z (yP n Z):=by
 have qS:n.cells.length<=512:=by
  have:=fD n.leaf n.cells;rw[cq]at hl;omega
 refine bE ?_;rw[apF];have k1:Kp [] Z (O.new Z ϐb):=(Δ [] Z).new _;have g1:(O.new Z ϐb).m.g Z.nx=Φ ϐb:=ay _ _;have n1:(O.new Z ϐb).nx=Z.nx+1:=rfl;rw[bW,aP];generalize O.new Z ϐb=s1 at*;have u:(oo n++List.replicate z 0).length=n.size+z:=by rw[km,F0];rfl
 have e1:R .gtr ν true (ζ (n.size+z)) (I 512) s1=.ok Θ s1:=aeU
 rw[(h.mono k1).len (n.size+z) (by rw[bP,u];omega) J s1];simp only[e1,ll,ii];refine(yn (h.mono k1) J).mono ?_;rintro _ s3 ⟨r,F,rfl,k3,C,Dq⟩;have PV:∀b∈F,b<s3.nx:=by obtain⟨q,vv,G,rfl,_,h,_⟩:=C;exact h
 have e2:oo n++List.replicate z 0=uv (if n.leaf=θ then 1 else 0)++(uv n.cells.length++(cY n.leaf n.cells++((if n.leaf=θ then []else fo n.kids)++List.replicate z 0))):=by unfold oo;simp
 rw[e2]at C;refine(HR C).mono ?_;rintro _ s4 ⟨rfl,k4,n4,ak⟩;have ql:aR Þ [(0,1,.bool n.leaf)] s4=.ok (.agg [.bool n.leaf,.ae,.ae]) s4:=rfl;rw[ql,af];refine gW rfl rfl rfl ?_;have az:=k3.nx;have g4:=(k4.keep Z.nx J (λh=>by have:=Dq _ h;omega)).trans ((k3.keep Z.nx J V).trans g1);have k5:Kp [] s4 (O.new s4 (Ϙ [.bool n.leaf,.ae,.ae])):=(Δ _ s4).new _;have Xt:=(k1.trans k3 V).trans k4 λq hq=>.inr (by have:=Dq q hq;omega)
 have aC:∀b,b=Z.nx\/b=s4.nx\/b∈F\/b∈([]:δ Nat)\/b∈([]:δ Nat)->Z.nx<=b/\b<(O.new s4 (Ϙ [.bool n.leaf,.ae,.ae])).nx:=by
  intro b hb;rcases hb with rfl|rfl|hb|hb|hb
  .simp;omega
  .simp;omega
  .have:=Dq b hb;have:=PV b hb;simp;omega
  .cases hb
  .cases hb
 have x:Dec Z (O.new s4 (Ϙ [.bool n.leaf,.ae,.ae])) Z.nx s4.nx r F n.leaf .ae .ae [] [] (uv n.cells.length++(cY n.leaf n.cells++((if n.leaf=θ then []else fo n.kids)++List.replicate z 0))) [] []:=
  ⟨Xt.trans k5 V,(k5.keep _ J V).trans g4,ay _ _,ak.keep k5 V,.inl ⟨rfl,rfl,rfl⟩,.inl ⟨rfl,rfl,rfl⟩,aC,⟨J,λh=>by have:=Dq _ h;omega,λh=>by have:=PV _ h;omega⟩,V,V⟩
 generalize a4:s4.nx=b9 at*;generalize CP:Z.nx=b1 at*;have SL:=CP;generalize O.new s4 (Ϙ [.bool n.leaf,.ae,.ae])=s6 at*;clear g4 k5 Xt ak k4 n4 C k3 az ql;refine iO (λP s=>∃a f,P=[v,.ptr b1 0,.ptr r 0,.ptr b9 0]/\Dec Z s b1 b9 r F n.leaf a .ae n.cells [] ((if n.leaf=θ then []else fo n.kids)++List.replicate z 0) f []) ?_ ?_
 .intro qP rn;rw[bU];refine(l6 (n:=n.cells.length) (m:=512) x.rd qS J).mono ?_;rintro _ s7 ⟨rfl,k7,n7,ap⟩
  have D7:Dec Z s7 b1 b9 r F n.leaf .ae .ae [] [] (cY n.leaf n.cells++((if n.leaf=θ then []else fo n.kids)++List.replicate z 0)) [] []:=
   ⟨x.kp.trans k7 λq hq=>.inr (x.lt q QU).1,(k7.keep b1 (x.lt b1 V).2 x.ne.2.1).trans x.g1,(k7.keep b9 (x.lt b9 V).2 x.ne.2.2).trans x.g9,ap,.inl ⟨rfl,rfl,rfl⟩,.inl ⟨rfl,rfl,rfl⟩,λb hb=>by rw[n7];exact x.lt b hb,x.ne,V,V⟩
  simp only[ke];refine bD (λfu P s=>∃i a f,fu+i=n.cells.length/\P=[v,.ptr b1 0,.ptr r 0,.ptr b9 0,I n.cells.length,I i]/\Dec Z s b1 b9 r F n.leaf a .ae (n.cells.take i) [] (cY n.leaf (n.cells.drop i)++((if n.leaf=θ then []else fo n.kids)++List.replicate z 0)) f []) ?_ (n:=n.cells.length) ⟨0,.ae,[],rfl,rfl,by simpa using D7⟩;rintro fu P s k ⟨i,a,f,hi,rfl,D⟩ next;simp only[DJ,dd]
  by_cases H:i<n.cells.length
  .rw[jp H,gq rfl];refine(wN D.rd).same ?_;simp only[Gz,ll,ii,aZ];have aa:=D.kp.fresh hf;have N:Kp [] s (O.skip s):=(Δ _ s).skip;have Z5:(O.skip s).m.g b9=Φ (Ϙ [.bool n.leaf,a,.ae]):=D.g9;have gX:(O.skip s).m.g s.nx=ν:=aa _ (hI _);have aw:(O.skip s).nx=s.nx+1:=rfl;have o:=D.rd.keep N V;have W:=D.oc.keep N λb hb=>⟨(D.lt b OG).2,V⟩;have ah:(O.skip s).m.g b1=_:=D.g1;generalize O.skip s=sk at*;have l9:=D.lt b9 V;have l1:=D.lt b1 V;have lF:∀b∈F,Z.nx<=b/\b<s.nx:=λb hb=>D.lt b OG;have lc:∀b∈f,Z.nx<=b/\b<s.nx:=λb hb=>D.lt b OG;simp only[ly,Z5,kc,io];have CO:=hn.cell _ (mp H);rw[vT H,fU,we]at o;refine(X7 o CO (λb hb=>afN)).mono ?_;rintro _ sl ⟨rfl,c,Q⟩;have nl:=c.nx;have aj:s.nx∉F:=λh=>by have:=lF _ h;omega
   have Gq:=(c.keep s.nx J aj).trans gX;have gl:=(c.keep b9 J D.ne.2.2).trans Z5;have ad:=(c.keep b1 J D.ne.2.1).trans ah;have T:=W.keep c λb hb=>⟨aec,(D.dc b hb).2.2.1⟩;refine AM 48 T J (λq hq=>by have:=lc q hq;omega) J Gq rfl rfl rfl (iu _) (by rw[bN,pu];omega) ?_;intro v' s2 F' Y d Dr;have ab:(O.set sl s.nx (.cells (K.agg (ba n.cells[i])).bY 255 false)).m.g b9=Φ (Ϙ [.bool n.leaf,a,.ae]):=(ar _ _ _ _ J).trans gl;have ax:=d.nx;have ac:=(d.keep b9 J (by simp only[ip,rt];exact⟨J,λh=>(D.dc b9 h).2.1 rfl⟩)).trans gl;have lV:=(d.keep b1 J (by simp only[ip,rt];exact⟨J,λh=>(D.dc b1 h).1 rfl⟩)).trans ad;have S:=Q.keep d (λb hb=>by simp only[ip,rt];exact⟨afN,λh=>(D.dc b h).2.2.1 hb⟩);obtain⟨c1,c2⟩:=Y.cI;have mL:bC [.bool n.leaf,a,.ae] 1 [v']=[.bool n.leaf,v',.ae]:=rfl;simp only[ab,kc,io,sE,and_true,rb,xz,ac,c2,mL,fV i J];refine⟨⟨rfl,by simp[c1],V⟩,?_⟩
   have e5:bL (n.cells.take i)++(K.agg (ba n.cells[i])).bY=bL (n.cells.take (i+1)):=by
    rw[su H,iY];simp[bL]
   rw[e5]at Y
   have ks:=((D.kp.trans N V).trans c λq hq=>.inr (lF q hq).1).trans d λq hq=>.inr (by
    rcases ip.1 hq with rfl|hq
    .omega
    .exact(lc q hq).1)
   have M:∀b∈F',Z.nx<=b/\b<s2.nx/\(b∈f\/sl.nx<=b):=λb hb=>by
    obtain⟨a1,a2⟩:=Dr b hb;refine⟨?_,a2,a1⟩;rcases a1 with h|h
    .exact(lc b h).1
    .omega
   have ai:b9∉F':=λh=>by
    rcases(M b9 h).2.2 with h|h
    .exact(D.dc b9 h).2.1 rfl
    .omega
   refine next (fu-1) _ _ J ⟨i+1,v',F',J,rfl,ks.set _ (.inr l9.1) J,?_,ao ..,?_,Y.mono λb hb=>ar _ _ _ _ (λe=>ai (e▸hb)),.inl ⟨rfl,rfl,rfl⟩,λb hb=>?_,D.ne,λb hb=>?_,V⟩
   .exact(ar _ _ _ _ D.ne.1).trans lV
   .exact S.keep (X:=[b9]) ((Δ _ s2).set (p:=b9) _ (.inl V) J) (λb hb=>by simp;exact λe=>D.ne.2.2 (e▸hb))
   .show Z.nx<=b/\b<s2.nx;rcases hb with rfl|rfl|hb|hb|hb
    .omega
    .omega
    .have:=lF b hb;omega
    .have:=M b hb;omega
    .cases hb
   .rcases(M b hb).2.2 with h|h
    .exact D.dc b h
    .exact⟨J,J,λh2=>by have:=lF b h2;omega,V⟩
  .rw[jo H,B tW];have e5:n.cells.take i=n.cells:=lw J;have e6:n.cells.drop i=[]:=ys J;rw[e5,e6]at D;exact rn _ _ ⟨a,f,rfl,by simpa[cY]using D⟩
 .rintro _ s7 ⟨a,f,rfl,D7⟩;simp only[yB];have uB:=hn.kR;have a0:∀s,Own s a 4 255 (bL n.cells) f->(∀b∈f,b<s.nx)->Sl s [] a 4 (bL n.cells):=λs ho hb=>ho.sl λb h=>⟨V,hb b h⟩;refine bD (λfu P s=>∃i j Fk,fu+i=n.kids.length/\P=[v,.ptr b1 0,.ptr r 0,.ptr b9 0,I i]/\Dec Z s b1 b9 r F n.leaf a j n.cells (n.kids.take i) ((if n.leaf=θ then []else fo (n.kids.drop i))++List.replicate z 0) f Fk) ?_ (n:=n.kids.length) ⟨0,.ae,[],rfl,rfl,by simpa using D7⟩;rintro fu P s k ⟨i,j,Fk,hi,rfl,D⟩ next;have l9:=D.lt b9 V;have l1:=D.lt b1 V;have lF:∀b∈F,Z.nx<=b/\b<s.nx:=λb hb=>D.lt b OG;have lc:∀b∈f,Z.nx<=b/\b<s.nx:=λb hb=>D.lt b OG;have y:∀b∈Fk,Z.nx<=b/\b<s.nx:=λb hb=>D.lt b OG;have a3:=(a0 s D.oc λb hb=>(lc b hb).2).len n.cells.length (bN _) J s;have aT:R .leq ν false (I i) (I n.cells.length) s=.ok (.bool (decide (i<=n.cells.length))) s:=by rw[au,jt];congr 2;simp only[CI];omega
  simp only[ke,fl,ly,D.g9,kc,io,a3,aT,aD,ix]
  by_cases H:i<n.kids.length
  .have il:n.leaf=φ:=by
    cases h:n.leaf with
    |false=>rfl
    |true=>rw[h,gq rfl]at uB;omega
   rw[il,B tW]at uB;rw[jp J];simp only[aW,af,dH];refine(wN D.rd).same ?_;have IU:=D.rd;have w:=D.g9;rw[il]at w;rw[B acX]at IU;simp only[ly,AC,ix,gG,w,io,bZ,tw,ag,aZ];have aa:=D.kp.fresh hf;have N:Kp [] s (O.skip s):=(Δ _ s).skip;have Z5:(O.skip s).m.g b9=Φ (Ϙ [Θ,a,j]):=w;have gX:(O.skip s).m.g s.nx=ν:=aa _ (hI _);have aw:(O.skip s).nx=s.nx+1:=rfl;have o:=IU.keep N V;have av:=D.ok.keep N λb hb=>⟨(y b hb).2,V⟩;have W:=D.oc.keep N λb hb=>⟨(lc b hb).2,V⟩;have ah:(O.skip s).m.g b1=_:=D.g1;generalize O.skip s=sk at*;simp only[Z5,lW,kc,io];rw[vT H,qj,we]at o;have aM:=hn.Ek _ (mp H);refine(l6 (n:=n.kids[i]) (m:=2147483647) o aM J).mono ?_;rintro _ sl ⟨rfl,c,nl,Q⟩;have aj:s.nx∉F:=λh=>by have:=lF _ h;omega
   have Gq:=(c.keep s.nx J aj).trans gX;have gl:=(c.keep b9 J D.ne.2.2).trans Z5;have ad:=(c.keep b1 J D.ne.2.1).trans ah;have aq:=av.keep c λb hb=>⟨by have:=y b hb;omega,(D.dk b hb).2.2⟩;have T:=W.keep c λb hb=>⟨aec,(D.dc b hb).2.2.1⟩;have a6:n.kids.length<=513:=J
   refine AM 8 aq J (λq hq=>by have:=y q hq;omega) J Gq rfl rfl rfl rfl (by rw[rT,pu];omega) ?_;intro v' s2 F' Y d Dr;have ab:(O.set sl s.nx (Ϝ (K.bY (I n.kids[i])))).m.g b9=Φ (Ϙ [Θ,a,j]):=(ar _ _ _ _ J).trans gl;have ax:=d.nx;have ac:=(d.keep b9 J (by simp only[ip,rt];exact⟨J,λh=>(D.dk b9 h).2.1 rfl⟩)).trans gl;have lV:=(d.keep b1 J (by simp only[ip,rt];exact⟨J,λh=>(D.dk b1 h).1 rfl⟩)).trans ad;have S:=Q.keep d (λb hb=>by simp only[ip,rt];exact⟨afN,λh=>(D.dk b h).2.2 hb⟩);have Ws:=T.keep d (λb hb=>⟨aec,by simp only[ip,rt];exact⟨aec,(D.dc b hb).2.2.2⟩⟩);obtain⟨c1,c2⟩:=Y.cI;have mL:bC [Θ,a,j] 2 [v']=[Θ,a,v']:=rfl;have a5:bC [Θ,a,j] 2 (K.bY v')=[Θ,a,v']:=by rw[c2];rfl
   simp only[ab,kc,io,sE,and_true,rb,xz,ac,c2,mL,fV i J];refine⟨⟨rfl,by simp[c1],V⟩,?_⟩
   have e5:cR (n.kids.take i)++K.bY (I n.kids[i])=cR (n.kids.take (i+1)):=by
    rw[su H,pF];simp[cR]
   rw[e5]at Y
   have ks:=((D.kp.trans N V).trans c λq hq=>.inr (lF q hq).1).trans d λq hq=>.inr (by
    rcases ip.1 hq with rfl|hq
    .omega
    .exact(y q hq).1)
   have M:∀b∈F',Z.nx<=b/\b<s2.nx/\(b∈Fk\/sl.nx<=b):=λb hb=>by
    obtain⟨a1,a2⟩:=Dr b hb;refine⟨?_,a2,a1⟩;rcases a1 with h|h
    .exact(y b h).1
    .omega
   have ai:b9∉F':=λh=>by
    rcases(M b9 h).2.2 with h|h
    .exact(D.dk b9 h).2.1 rfl
    .omega
   refine next (fu-1) _ _ J ⟨i+1,v',F',J,rfl,ks.set _ (.inr l9.1) J,(ar _ _ _ _ D.ne.1).trans lV,?_,?_,Ws.mono λb hb=>ar _ _ _ _ (D.dc b hb).2.1,Y.mono λb hb=>ar _ _ _ _ (λe=>ai (e▸hb)),λb hb=>?_,D.ne,λb hb=>?_,λb hb=>?_⟩
   .rw[il];exact ao _ _ _
   .rw[B acX];exact S.keep (X:=[b9]) ((Δ _ s2).set (p:=b9) _ (.inl V) J) (λb hb=>by simp;exact λe=>D.ne.2.2 (e▸hb))
   .show Z.nx<=b/\b<s2.nx;rcases hb with rfl|rfl|hb|hb|hb
    .omega
    .omega
    .have:=lF b hb;omega
    .have:=lc b hb;omega
    .have:=M b hb;omega
   .refine⟨(D.dc b hb).1,(D.dc b hb).2.1,(D.dc b hb).2.2.1,λh=>?_⟩;rcases(M b h).2.2 with h2|h2
    .exact(D.dc b hb).2.2.2 h2
    .have:=lc b hb;omega
   .rcases(M b hb).2.2 with h|h
    .exact D.dk b h
    .exact⟨J,J,λh2=>by have:=lF b h2;omega⟩
  ·
    have I6:i=n.kids.length:=J
    have e5:n.kids.take i=n.kids:=lw J;have e6:n.kids.drop i=[]:=ys J;rw[e5,e6]at D;have IU:qw s r F (List.replicate z 0):=by have:=D.rd;cases il:n.leaf<;>rw[il]at this<;>simpa[fo]using this
    have SR:∀s',Kp [] s s'->IsNode s' [] (.agg [.bool n.leaf,a,j]) n:=λs' hk=>
     ⟨a,j,rfl,(D.oc.keep hk λb hb=>⟨(lc b hb).2,V⟩).sl λb hb=>⟨V,by have:=lc b hb;have:=hk.nx;omega⟩,(D.ok.keep hk λb hb=>⟨(y b hb).2,V⟩).sl λb hb=>⟨V,by have:=y b hb;have:=hk.nx;omega⟩⟩
    have an:U (aY .slice v s) λiR=>Rq0 148 [.ptr r 0] s λiJ gJ=>U (R .sub ν false iR iJ gJ) λiL=>U (aQ 1 v (Φ iL) ν gJ) λjQ=>Rq0 145 [.ptr r 0] gJ λjD dt=>U (kZ .not jD dt) λjH=>
     U (kx (bj false jH) dt (aF 3 (.ptr b9 0) dt)) λlC=>iF (bj false jH) dt (λk=>Rq0 237 [lC] dt k) λlD L=>U (kx (bj false jH) L (kZ .not lD L)) λmo=>U (bg jH ι mo L) λmU=>
     U (kx (bj false mU) L (.ok jQ L)) λnU=>iF (bj false mU) L (λk=>Rq0 238 [nU,.func (.func 239) [] []] L k) λoW eP=>U (bg mU ι oW eP) λmT=>
     aA mT (U (aR Þ [] eP) λnI=>E (aJ 3 (.ptr b1 0) nI eP) λ_ oJ=>U (aF 3 (.ptr b1 0) oJ) λpS=>yP n Z (.tuple [pS,I 4]) oJ)
      (U (aF 3 (.ptr b9 0) eP) λqx=>E (aJ 3 (.ptr b1 0) qx eP) λ_ jd=>U (aF 3 (.ptr b1 0) jd) λnT=>yP n Z (.tuple [nT,μ]) jd):=by
     have hv:=h.mono D.kp;rw[hv.len (n.size+z) (by rw[bP,u];omega) J s,af];refine(Nw IU).same ?_;have e7:R .sub ν false (ζ (n.size+z)) (I ((List.replicate z (0:Γ)).length)) s=.ok (I n.size) s:=by rw[au,dY,F0,bt J];congr 2;omega
     obtain⟨v',q1,q2⟩:=hv.lo (n:=n.size+z) (l:=n.size) J (by rw[bP,u];omega) J s;rw[e7,af,q1,af];refine(wN IU).same ?_;rw[bZ,af,r8];simp only[aD,pi,ii,tw,dH];rw[aG (n:=3) D.g9 rfl,af];refine(Co (SR s (Δ _ _)) hn J).mono ?_;rintro _ L ⟨rfl,zn⟩
     have e8:al (List.replicate z 0)=(al (oo n++List.replicate z 0)).drop (n.size*1):=by
      rw[bQ,Fi,List.drop_left' (by rw[bP];rfl)]
     rw[<-e8]at q2;simp only[Gz,ii,DI,dH];refine(QJ (q2.mono zn) J).mono ?_;rintro _ eP ⟨rfl,aL⟩;have LX:=zn.trans aL V;have a7:=LX.nx;have aS:=(LX.keep b9 l9.2 V).trans D.g9;have Vo:=(LX.keep b1 l1.2 V).trans D.g1;obtain⟨c1,c2⟩:=D.oc.cI;obtain⟨d1,d2⟩:=D.ok.cI;have mL:bC Þ 0 [.bool n.leaf,a,j]=[.bool n.leaf,a,j]:=rfl;rw[ag,B tW,aG (n:=3) aS rfl,af,aK,Vo,aU,aN,mL];refine⟨⟨rfl,by simp[c1,d1],V⟩,?_⟩;rw[aG (n:=3) (ao ..) rfl,af];have Pz:=LX;refine⟨_,rfl,(D.kp.trans LX V).set _ (.inr l1.1) J,λX hX=>⟨a,j,rfl,?_,?_⟩⟩
     .exact((D.oc.keep LX λb hb=>⟨(lc b hb).2,V⟩).mono λb hb=>ar _ _ _ _ (D.dc b hb).1).sl λb hb=>⟨λh=>by have:=hX b h;have:=lc b hb;omega,by have:=lc b hb;simp;omega⟩
     .exact((D.ok.keep LX λb hb=>⟨(y b hb).2,V⟩).mono λb hb=>ar _ _ _ _ (D.dk b hb).1).sl λb hb=>⟨λh=>by have:=hX b h;have:=y b hb;omega,by have:=y b hb;simp;omega⟩
    by_cases am:i<=n.cells.length
    .have il:n.leaf=θ:=by
      cases h:n.leaf with
      |true=>rfl
      |false=>rw[h,B tW]at uB;omega
     rw[jp am];simp only[aW,af,dH];refine(wN IU).same ?_;have w:=D.g9;simp only[ix,gG,aW,vr,w,io,bZ,il,ï,ii]
     simpa only[aH,aI,il]using an
    .rw[jo am];simp only[bA,gP,ii,ix,gG,Ut];exact an
end
section
variable {Z Z':O}
def ry.sl {k e:Nat}{v x:K}{L:δ K}(h:ry k e v L Z x Z'):Kp [] Z Z'/\Sl Z' [] x k L:=by
 obtain⟨F,f,d,c,_⟩:=h;exact⟨f,d.sl λb a=>⟨V,(c b a).2⟩⟩
def Az {v:K}{n:bp}(h:IsNode Z [] v n)(hl:n.cells.length<=100000)(hk:n.kids.length<=100001):Rq0 252 [v] Z λx Z'=>Kp [] Z Z'/\∀X,(∀b∈X,b<Z.nx)->IsNode Z' X x n:=by
 obtain⟨d,c,rfl,N,M⟩:=h;refine bE ?_;rw[aoS];rw[bz,aN];refine⟨rfl,?_⟩;have L:Kp [] Z (O.new Z (Ϙ [.bool n.leaf,d,c])):=(Δ [] Z).new _;have Q:(O.new Z (Ϙ [.bool n.leaf,d,c])).m.g Z.nx=Φ (Ϙ [.bool n.leaf,d,c]):=ay _ _;have n1:(O.new Z (Ϙ [.bool n.leaf,d,c])).nx=Z.nx+1:=rfl;generalize O.new Z (Ϙ [.bool n.leaf,d,c])=s1 at*;have r:Kp [] s1 (O.new s1 ϐb):=(Δ [] s1).new _;have P:(O.new s1 ϐb).m.g s1.nx=Φ ϐb:=ay _ _;have n2:(O.new s1 ϐb).nx=s1.nx+1:=rfl;rw[bW,aP,aZ];generalize O.new s1 ϐb=s2 at*;have p:=(r.keep Z.nx J V).trans Q;have l:=L.trans r V;simp only[ly,p,kc,io];refine(yK (N.mono l) (fv _) ó).mono ?_;intro a s3 s;obtain⟨j,T⟩:=s.sl;have n3:=j.nx;have o:=(j.keep Z.nx J V).trans p;have q:=l.trans j V;simp only[o,lW,kc,io];refine(Cm (M.mono q) (kM _) (by rw[rT];omega)).mono ?_;intro i s4 f;obtain⟨e,S⟩:=f.sl;have n4:=e.nx;have Y:=(e.keep Z.nx J V).trans o;have W:=(e.keep s1.nx J V).trans ((j.keep s1.nx J V).trans P);obtain⟨H,G,D⟩:=T.bM;obtain⟨C,z,y⟩:=S.bM
 have w:aR Þ [(0,1,.bool n.leaf),(1,1,a),(2,1,i)] s4=.ok (.agg [.bool n.leaf,a,i]) s4:=by
  rw[eK];simp[cW,bC,H,D,C,y]
 have I:bC Þ 0 [.bool n.leaf,a,i]=[.bool n.leaf,a,i]:=rfl;simp only[w,rb,xz,W,aN,I,Y,io,sE,and_true];refine⟨⟨rfl,by simp[G,z],V⟩,?_⟩;rw[aG (n:=3) (ao ..) rfl,af];refine⟨(q.trans e V).set _ (.inr J) J,λX u=>⟨a,i,rfl,?_,?_⟩⟩
 .obtain⟨F,a1,k,a3,_⟩:=s;exact((k.keep e λb hb=>⟨(a3 b hb).2,V⟩).mono λb hb=>ar _ _ _ _ aci).sl λb hb=>⟨λh=>by have:=u b h;have:=(a3 b hb).1;omega,by have:=(a3 b hb).2;simp;omega⟩
 .obtain⟨F,a1,k,a3,_⟩:=f;exact(k.mono λb hb=>ar _ _ _ _ aci).sl λb hb=>⟨λh=>by have:=u b h;have:=(a3 b hb).1;omega,by have:=(a3 b hb).2;simp;omega⟩
def aak {v:K}{n:bp}{i:Nat}(h:IsNode Z [] v n)(hl:n.cells.length<=10000)(hk:n.kids.length=if n.leaf=θ then 0 else n.cells.length+1)(hi:i<n.cells.length):
 Rq0 254 [v,I i] Z λx Z'=>∃a b,x=.tuple [a,.str (cM n i).2.1,b]/\Kp [] Z Z'/\(∀X,(∀b∈X,b<Z.nx)->IsNode Z' X a (cM n i).1)/\(∀X,(∀b∈X,b<Z.nx)->IsNode Z' X b (cM n i).2.2):=by
 obtain⟨k,u,rfl,h1,h2⟩:=h;refine bE ?_;rw[aoQ];rw[bz,aN];refine⟨rfl,?_⟩;have k1:Kp [] Z (O.new Z (Ϙ [.bool n.leaf,k,u])):=(Δ [] Z).new _;have g1:(O.new Z (Ϙ [.bool n.leaf,k,u])).m.g Z.nx=Φ (Ϙ [.bool n.leaf,k,u]):=ay _ _;have n1:(O.new Z (Ϙ [.bool n.leaf,k,u])).nx=Z.nx+1:=rfl;generalize O.new Z (Ϙ [.bool n.leaf,k,u])=s1 at*;have k2:Kp [] s1 (O.new s1 ϐb):=(Δ [] s1).new _;have g2:(O.new s1 ϐb).m.g s1.nx=Φ ϐb:=ay _ _;have n2:(O.new s1 ϐb).nx=s1.nx+1:=rfl;rw[bW,aP];generalize O.new s1 ϐb=s2 at*;have k3:Kp [] s2 (O.new s2 ϐb):=(Δ [] s2).new _;have g3:(O.new s2 ϐb).m.g s2.nx=Φ ϐb:=ay _ _;have n3:(O.new s2 ϐb).nx=s2.nx+1:=rfl;rw[bW,aP];generalize O.new s2 ϐb=s3 at*;have mW:=(k3.keep Z.nx J V).trans ((k2.keep Z.nx J V).trans g1);have yV:=(k3.keep s1.nx J V).trans g2;have lQ:=(k1.trans k2 V).trans k3 V;have H:=h1.mono lQ
 have ac:∀(W f:O) (iL nT:K) (a b:bp),Kp [] s3 W->Kp [] W f->(∀X,(∀b∈X,b<s3.nx)->IsNode W X iL a)->(∀X,(∀b∈X,b<W.nx)->IsNode f X nT b)->∀(lD:K) (key:bS),lD=.str key->∀(Q:O->O->Prop),(∀d j,Kp [s1.nx,s2.nx] f d->Kp [s1.nx,s2.nx] f j->Q d j)->
  E (aJ 3 (.ptr s1.nx 0) iL f) λ_ d=>E (aJ 3 (.ptr s2.nx 0) nT d) λ_ j=>Q d j/\U (aF 3 (.ptr s1.nx 0) j) λtV=>U (aF 3 (.ptr s2.nx 0) j) λtG=>
   ∃a' b',K.tuple [tV,lD,tG]=.tuple [a',.str key,b']/\Kp [] Z j/\(∀X,(∀b∈X,b<Z.nx)->IsNode j X a' a)/\(∀X,(∀b∈X,b<Z.nx)->IsNode j X b' b):=by
  intro W f iL nT a b S Y ab aa lD key al Q hK;have m8:=S.nx;have m9:=Y.nx;have am:=ab [s1.nx,s2.nx] xI;obtain⟨T,d1,rfl,e1,f1⟩:=am;have an:=aa [s1.nx,s2.nx] xI;obtain⟨c2,d2,rfl,e2,f2⟩:=an;obtain⟨x1,x2,x3⟩:=e1.bM;obtain⟨y1,y2,y3⟩:=f1.bM;obtain⟨z1,z2,z3⟩:=e2.bM;obtain⟨w1,w2,w3⟩:=f2.bM;have q3:=S.trans Y V;have aj:=(q3.keep s1.nx J V).trans yV;have ai:=(q3.keep s2.nx J V).trans g3;have mL:∀a b c:K,bC Þ 0 [a,b,c]=[a,b,c]:=λa b c=>rfl;rw[aK,aj,aU,aN,mL];refine⟨⟨rfl,ò,V⟩,?_⟩;rw[aK,ar _ _ _ _ J,ai,aU,aN,mL];refine⟨⟨rfl,by simp[z2,w2],V⟩,?_⟩;have kA:Kp [s1.nx,s2.nx] f (O.set f s1.nx (Ϙ [.bool a.leaf,T,d1])):=(Δ _ f).set _ (.inl V) J;have kB:Kp [s1.nx,s2.nx] f (O.set (O.set f s1.nx (Ϙ [.bool a.leaf,T,d1])) s2.nx (Ϙ [.bool b.leaf,c2,d2])):=kA.set _ (.inl V) xI;refine⟨hK _ _ kA kB,?_⟩;rw[aG (n:=3) ((ar _ _ _ _ J).trans (ao ..)) rfl,af,aG (n:=3) (ao ..) rfl,af];refine⟨_,_,by rw[al],(lQ.trans q3 V).trans kB xI,λX hX=>?_,λX hX=>?_⟩
  .have:=(ab (X++[s1.nx,s2.nx]) (by intro b hb;simp at hb;rcases hb with h|h|h;have:=hX b h;omega;omega;omega)).mono (Y.mono V);exact(this.mono (kB.mono V)).fc (by intro q hq;simp[hq])
  .have:=aa (X++[s1.nx,s2.nx]) (by intro b hb;simp at hb;rcases hb with h|h|h;have:=hX b h;omega;omega;omega);exact(this.mono (kB.mono V)).fc (by intro q hq;simp[hq])
 have hlen:=bN n.cells;obtain⟨bc,pc,lc,tc,gc,u1,u2,u3,u4,u5⟩:=h1.cellAt (L:=n.cells.map ba) J (gH _) (i:=i) J9;have z:=u5 0 (.str n.cells[i].key) QV;rw[rc]at z;have IQ:=lQ.nx;have r:∀s,Kp [] s3 s->s.m.g Z.nx=Φ (Ϙ [.bool n.leaf,k,u])/\s.m.g bc=Φ (.cells lc tc gc):=λs p=>⟨(p.keep _ J V).trans mW,((lQ.trans p V).keep _ u3 V).trans u2⟩
 have YQ:∀f s,Kp [] s3 f->Kp [s1.nx,s2.nx] f s->s.m.g Z.nx=Φ (Ϙ [.bool n.leaf,k,u])/\s.m.g bc=Φ (.cells lc tc gc):=λf s h9 p=>
  ⟨(p.keep _ (by have:=h9.nx;omega) xI).trans (r f h9).1,(p.keep _ (by have:=h9.nx;omega) xI).trans (r f h9).2⟩
 have ad:∀s,Kp [] s3 s->Sl s [] k 4 (bL n.cells):=λs p=>H.mono p;have M:∀s,Kp [] s3 s->Sl s [] u 1 (cR n.kids):=λs p=>(h2.mono lQ).mono p;simp only[fl,ly,mW,kc,io,ag];cases il:n.leaf with
 |true=>
  rw[il,gq rfl]at hk;rw[gq rfl,aZ];obtain⟨w,p1,F⟩:=H.hi (n:=n.cells.length) J hlen (h:=i) J s3;obtain⟨b1,b2,b3⟩:=F.bM
  have ql:aR Þ [(0,1,ι),(1,1,w)] s3=.ok (.agg [ι,w,.ae]) s3:=by
   rw[eK];simp[cW,bC,b1,b3]
  have Jk:=mW;simp only[p1,af,ql];rw[ml _ _ J]at F;refine(Az (n:=⟨θ,n.cells.take i,[]⟩) ⟨w,.ae,rfl,F,.inl ⟨rfl,rfl⟩⟩ xI V).mono ?_;rintro x9 s4 ⟨o,G⟩;obtain⟨e1,e2⟩:=r s4 o;obtain⟨P,p3,D⟩:=(ad s4 o).lo (n:=n.cells.length) J hlen (l:=i) J s4;obtain⟨T,c2,c3⟩:=D.bM
  have Ts:aR Þ [(0,1,ι),(1,1,P)] s4=.ok (.agg [ι,P,.ae]) s4:=by
   rw[eK];simp[cW,bC,T,c3]
  simp only[ah,rc,av,e1,e2,u1,z,kc,io,p3,rb,Ts];rw[mm _ _ J]at D;refine(Az (n:=⟨θ,n.cells.drop i,[]⟩) ⟨P,.ae,rfl,D,.inl ⟨rfl,rfl⟩⟩ xI V).mono ?_;rintro dD C ⟨k5,N⟩;have Qs:=o.trans k5 V;obtain⟨e3,e4⟩:=r C Qs;obtain⟨e5,e6⟩:=r s3 (Δ _ _);have et:cM n i=(⟨θ,n.cells.take i,[]⟩,n.cells[i].key,⟨θ,n.cells.drop i,[]⟩):=by unfold cM;rw[gq il,li hi];rfl
  rw[et];simp only[e3,e4,e6,z,lW,kc,io,sE];refine ac s4 C x9 dD _ _ o k5 G N _ n.cells[i].key rfl (λd _=>((Nh (d.m.g Z.nx) λl=>YF l[1]? λv=>v=k)/\True)/\((Nh (d.m.g bc) λl=>YF l[pc]? λv=>v=.str n.cells[i].key)/\True)/\True) λd j S Y=>?_;obtain⟨t1,t2⟩:=YQ C d Qs S;simp only[t1,t2,z,lW,kc,io,and_true]
 |false=>
  rw[il,B tW]at hk;rw[B tW];have SX:=(M s3 (Δ _ _)).len n.kids.length V J s3
  have ak:Bk false (ζ (i+1)) (I n.kids.length) s3=.ok (ζ (i+1)) s3:=by
   have e:Bk false (ζ (i+1)) (I n.kids.length) s3=.ok (I (if (n.kids.length:Int)<((i+1:Nat):Int)then (n.kids.length:Int)else ((i+1:Nat):Int))) s3:=rfl;rw[e,B J]
  obtain⟨w,p1,F⟩:=H.hi (n:=n.cells.length) J hlen (h:=i) J s3;obtain⟨v8,p5,p6⟩:=(M s3 (Δ _ _)).hi (n:=n.kids.length) J V (h:=i+1) J s3;obtain⟨b1,b2,b3⟩:=F.bM;obtain⟨d1,d2,d3⟩:=p6.bM
  have ql:aR Þ [(1,1,w),(2,1,v8)] s3=.ok (.agg [Θ,w,v8]) s3:=by
   rw[eK];simp[cW,bC,b1,b3,d1,d3]
  have Jk:=mW;simp only[fV i J,af,SX,ak,aZ,p1,p5,ql];rw[ml _ _ J]at F;rw[Fi,wW]at p6;refine(Az (n:=⟨φ,n.cells.take i,n.kids.take (i+1)⟩) ⟨w,v8,rfl,F,p6⟩ xI xI).mono ?_;rintro x9 s4 ⟨o,G⟩;obtain⟨e1,e2⟩:=r s4 o;obtain⟨P,p3,D⟩:=(ad s4 o).lo (n:=n.cells.length) J hlen (l:=i+1) J s4;obtain⟨y,p7,p8⟩:=(M s4 o).lo (n:=n.kids.length) J V (l:=i+1) J s4;obtain⟨T,c2,c3⟩:=D.bM;obtain⟨f1,f2,f3⟩:=p8.bM
  have Ts:aR Þ [(1,1,P),(2,1,y)] s4=.ok (.agg [Θ,P,y]) s4:=by
   rw[eK];simp[cW,bC,T,c3,f1,f3]
  simp only[ah,rc,av,e1,e2,u1,z,kc,io,p3,p7,rb,Ts];rw[mm _ _ J]at D;rw[Fi,wX]at p8;refine(Az (n:=⟨φ,n.cells.drop (i+1),n.kids.drop (i+1)⟩) ⟨P,y,rfl,D,p8⟩ xI xI).mono ?_;rintro dD C ⟨k5,N⟩;have Qs:=o.trans k5 V;obtain⟨e3,e4⟩:=r C Qs;obtain⟨e5,e6⟩:=r s3 (Δ _ _);have et:cM n i=(⟨φ,n.cells.take i,n.kids.take (i+1)⟩,n.cells[i].key,⟨φ,n.cells.drop (i+1),n.kids.drop (i+1)⟩):=by unfold cM;rw[B acX,li hi];rfl
  rw[et];simp only[e3,e4,e6,z,lW,kc,io,sE];refine ac s4 C x9 dD _ _ o k5 G N _ n.cells[i].key rfl (λd _=>((Nh (d.m.g Z.nx) λl=>YF l[1]? λv=>v=k)/\True)/\((Nh (d.m.g bc) λl=>YF l[pc]? λv=>v=.str n.cells[i].key)/\True)/\True) λd j S Y=>?_;obtain⟨t1,t2⟩:=YQ C d Qs S;simp only[t1,t2,z,lW,kc,io,and_true]
end
section
variable {Z Z':O}
def VG {n:bp}(a:n.ok)(e:n.cells.length<=1000){i:Nat}(hi:i<n.cells.length):EP (cM n i).1/\EP (cM n i).2.2:=by
 have d:=a.kR;unfold cM;cases b:n.leaf with
 |true=>
  have hc:=a.cell;rw[b]at hc;rw[gq rfl];exact⟨⟨λc h=>hc c (ww h),V,xI,V⟩,⟨λc h=>hc c (zR h),V,xI,V⟩⟩
 |false=>
  have hc:=a.cell;rw[b]at hc;rw[b,B tW]at d;rw[B tW];exact⟨⟨λc h=>hc c (ww h),λk h=>a.Ek k (ww h),xI,xI⟩,⟨λc h=>hc c (zR h),λk h=>a.Ek k (zR h),xI,xI⟩⟩
def EP.size {n:bp}(h:EP n):n.size<=200000:=by
 have h1:=pR (leaf:=n.leaf) (l:=n.cells) h.cell;have h2:=rU (l:=n.kids) h.Ek;have c:=h.cells;have b:=h.kids;have a:(uv n.cells.length).length<=2:=sF J;rw[cq]
 split<;>omega
def DL {p:Nat}{v u:K}{n:bp}{i:Nat}(H:dV Z)(hp:p<Z.nx)(hg:Z.m.g p=Φ (Ϙ [.bool n.leaf,v,u]))(h1:Sl Z [] v 4 (bL n.cells))(h2:Sl Z [] u 1 (cR n.kids))(G:n.ok)(hl:n.cells.length<=1000)(hi:i<n.cells.length):
 Rq0 253 [I i,.ptr p 0] Z λx Z'=>x=I (iG n i)/\Kp [] Z Z':=by
 refine bE ?_;rw[aoR];rw[aG (n:=3) hg rfl,af];refine(aak ⟨v,u,rfl,h1,h2⟩ J G.kR hi).mono ?_;rintro _ d ⟨a,b,rfl,k1,ha,hb⟩;obtain⟨o,l⟩:=VG G hl hi;have w:=ha [] V;have PR:=hb [] V;obtain⟨f,e,rfl,Q,N⟩:=w;obtain⟨k,j,rfl,P,M⟩:=PR;obtain⟨x1,x2,x3⟩:=Q.bM;obtain⟨y1,y2,y3⟩:=N.bM;obtain⟨z1,S,z3⟩:=P.bM;obtain⟨w1,W,w3⟩:=M.bM;have g2:(O.new d ϐb).m.g d.nx=Φ ϐb:=ay _ _;have g3:(O.new (O.new d ϐb) ϐb).m.g (d.nx+1)=Φ ϐb:=ay (O.new d ϐb) _;have TH:(O.new (O.new d ϐb) ϐb).m.g d.nx=Φ ϐb:=(bo _ _ _ V).trans g2;have n3:(O.new (O.new d ϐb) ϐb).nx=d.nx+2:=rfl;have k3:Kp [] d (O.new (O.new d ϐb) ϐb):=((Δ [] d).new _).new _;have T:(O.new d ϐb).nx=d.nx+1:=rfl;simp only[u6,bW,aP,T];generalize O.new (O.new d ϐb) ϐb=s3 at*;have C:∀a b c:K,bC Þ 0 [a,b,c]=[a,b,c]:=λa b c=>rfl;rw[aK,TH,aU,aN,C];refine⟨⟨rfl,ò,V⟩,?_⟩;rw[aK,ar _ _ _ _ J,g3,aU,aN,C];refine⟨⟨rfl,by simp[S,W],V⟩,?_⟩;have kA:Kp [] d (O.set s3 d.nx (Ϙ [.bool (cM n i).1.leaf,f,e])):=k3.set _ (.inr (hI _)) J
 have q:Kp [] d (O.set (O.set s3 d.nx (Ϙ [.bool (cM n i).1.leaf,f,e])) (d.nx+1) (Ϙ [.bool (cM n i).2.2.leaf,k,j])):=kA.set _ (.inr J) xI;have gA:(O.set (O.set s3 d.nx (Ϙ [.bool (cM n i).1.leaf,f,e])) (d.nx+1) (Ϙ [.bool (cM n i).2.2.leaf,k,j])).m.g d.nx=Φ (Ϙ [.bool (cM n i).1.leaf,f,e]):=(ar _ _ _ _ J).trans (ao ..);have L:(O.set (O.set s3 d.nx (Ϙ [.bool (cM n i).1.leaf,f,e])) (d.nx+1) (Ϙ [.bool (cM n i).2.2.leaf,k,j])).m.g (d.nx+1)=Φ (Ϙ [.bool (cM n i).2.2.leaf,k,j]):=ao ..;have nB:(O.set (O.set s3 d.nx (Ϙ [.bool (cM n i).1.leaf,f,e])) (d.nx+1) (Ϙ [.bool (cM n i).2.2.leaf,k,j])).nx=d.nx+2:=n3;generalize O.set (O.set s3 d.nx (Ϙ [.bool (cM n i).1.leaf,f,e])) (d.nx+1) (Ϙ [.bool (cM n i).2.2.leaf,k,j])=s5 at*;have z:=k1.trans q V;rw[aZ,aG (n:=3) gA rfl,af];refine(yN (z.fresh H) (n:=(cM n i).1) ⟨f,e,rfl,Q.mono q,N.mono q⟩ o).mono ?_;intro x9 Y F;have r:=F.kp;have y:=(r.keep _ J V).trans L;rw[(F.sl [] V).len (cM n i).1.size afW J Y,af,aG (n:=3) y rfl,af];refine(yN (r.fresh (z.fresh H)) (n:=(cM n i).2.2) ⟨k,j,rfl,(P.mono q).mono r,(M.mono q).mono r⟩ l).mono ?_;intro cP X D;have k7:=D.kp;rw[(D.sl [] V).len (cM n i).2.2.size afW J X,af];have sa:=o.size;have sb:=l.size;rw[aG (n:=3) L rfl];have es:∀s,R .sub ν false (I (cM n i).1.size) (I (cM n i).2.2.size) s=.ok (I (((cM n i).1.size:Int)-(cM n i).2.2.size)) s:=λs=>afl
 have en:∀s,kZ .neg (I (((cM n i).1.size:Int)-(cM n i).2.2.size)) s=.ok (I (-(((cM n i).1.size:Int)-(cM n i).2.2.size))) s:=λs=>by
  have:kZ .neg (I (((cM n i).1.size:Int)-(cM n i).2.2.size)) s=.ok (I (IntKind.i64.wrap (0-(((cM n i).1.size:Int)-(cM n i).2.2.size)))) s:=rfl;rw[this,bt J];congr 2;omega
 have em:∀(a b:Int) s,Bk true (I a) (I b) s=.ok (I (if a<b then b else a)) s:=λa b s=>rfl;simp only[es,af,en,em,sE,and_true];refine⟨?_,(z.trans r V).trans k7 V⟩;unfold iG
 congr 1
 split<;>omega
def UW {v:K}{n:bp}(hf:dV Z)(h:IsNode Z [] v n)(hn:n.ok)(hl:n.cells.length<=1000)(W:cF n<n.cells.length):
 Rq0 219 [v] Z λx Z'=>∃a b,x=.tuple [a,.str (zC n).2.1,b]/\Kp [] Z Z'/\(∀X,(∀b∈X,b<Z.nx)->IsNode Z' X a (zC n).1)/\(∀X,(∀b∈X,b<Z.nx)->IsNode Z' X b (zC n).2.2):=by
 obtain⟨r,o,rfl,F,h2⟩:=h;refine bE ?_;rw[apn];rw[bz,aN];refine⟨rfl,?_⟩;have k1:Kp [] Z (O.new Z (Ϙ [.bool n.leaf,r,o])):=(Δ [] Z).new _;have g1:(O.new Z (Ϙ [.bool n.leaf,r,o])).m.g Z.nx=Φ (Ϙ [.bool n.leaf,r,o]):=ay _ _;have n1:(O.new Z (Ϙ [.bool n.leaf,r,o])).nx=Z.nx+1:=rfl;generalize O.new Z (Ϙ [.bool n.leaf,r,o])=s1 at*;have k2:Kp [] s1 (O.new s1 ϐb):=(Δ [] s1).new _;have g2:(O.new s1 ϐb).m.g s1.nx=Φ ϐb:=ay _ _;have n2:(O.new s1 ϐb).nx=s1.nx+1:=rfl;rw[bW,aP];generalize O.new s1 ϐb=s2 at*;have k3:Kp [] s2 (O.new s2 ϐb):=(Δ [] s2).new _;have g3:(O.new s2 ϐb).m.g s2.nx=Φ ϐb:=ay _ _;have n3:(O.new s2 ϐb).nx=s2.nx+1:=rfl;rw[bW,aP];generalize O.new s2 ϐb=s3 at*;have mW:=(k3.keep Z.nx J V).trans ((k2.keep Z.nx J V).trans g1);have yV:=(k3.keep s1.nx J V).trans g2;have lQ:=(k1.trans k2 V).trans k3 V
 have go:∀Q:K->O->Prop,(∀x s,(∃a b,x=.tuple [a,.str (zC n).2.1,b]/\Kp [] Z s/\(∀X,(∀b∈X,b<Z.nx)->IsNode s X a (zC n).1)/\(∀X,(∀b∈X,b<Z.nx)->IsNode s X b (zC n).2.2))->Q x s)->∀z:Nat,z=cF n->
  cV (λd u zn=>fl 1 (A 0 d) u λdD=>U (aY .slice dD u) λdN=>U (R .lss ν false (A 5 d) dN u) λdL=>
   aA dL (eJ Rq0 (A 3 d) [A 5 d] u λfg D=>eJ Rq0 (A 3 d) [A 4 d] D λeX y=>U (R .lss ν false fg eX y) λfT=>
    aA fT (U (R .add ν true (A 5 d) ϖ y) λfL=>zn [A 0 d,A 1 d,A 2 d,A 3 d,A 5 d,fL] y)
     (U (R .add ν true (A 5 d) ϖ y) λfW=>zn [A 0 d,A 1 d,A 2 d,A 3 d,A 4 d,fW] y))
    (U (aF 3 (A 0 d) u) λiC=>Rq0 254 [iC,A 4 d] u λiz l=>U (az iz 0 l) λiB=>U (az iz 1 l) λiy=>U (az iz 2 l) λjm=>
     E (aJ 3 (A 1 d) iB l) λ_ dw=>E (aJ 3 (A 2 d) jm dw) λ_ ew=>U (aF 3 (A 1 d) ew) λiS=>U (aF 3 (A 2 d) ew) λiR=>Q (.tuple [iS,iy,iR]) ew))
   [.ptr Z.nx 0,.ptr s1.nx 0,.ptr s2.nx 0,.func (.func 253) [] [.ptr Z.nx 0],I z,ζ (z+1)] s3:=by
  intro Q hQ z PR;refine bD (λfu vs s=>∃i b:Nat,i+fu=n.cells.length/\b<i/\cF n<=b/\vs=[.ptr Z.nx 0,.ptr s1.nx 0,.ptr s2.nx 0,.func (.func 253) [] [.ptr Z.nx 0],I b,I i]/\Kp [] s3 s/\uP n fu i b=iZ n) ?_ (n:=n.cells.length-(cF n+1)) ⟨z+1,z,J,J,J,rfl,Δ _ _,by rw[PR];rfl⟩;rintro fu vs s k ⟨i,b,hi,aj,ai,rfl,w,C⟩ next;have j:=lQ.trans w V;have T:=(w.keep Z.nx J V).trans mW;have ad:=(w.keep s1.nx J V).trans yV;have ac:=(w.keep s2.nx J V).trans g3;have ah:=w.nx;have hlen:=(F.mono j).len n.cells.length (bN _) J s;simp only[ke,fl,ly,T,kc,io,hlen,dd,ag]
  by_cases hc:i<n.cells.length
  .obtain⟨f,rfl⟩:∃f,fu=f+1:=⟨fu-1,J⟩;rw[jp hc,gq rfl,dv];simp only[ow,ut];refine(DL (j.fresh hf) J T (F.mono j) (h2.mono j) hn hl hc).mono ?_;rintro _ D ⟨rfl,M⟩;have Y:=j.trans M V;rw[dv];simp only[ow,ut];refine(DL (Y.fresh hf) (by have:=M.nx;omega) ((M.keep Z.nx J V).trans T) (F.mono Y) (h2.mono Y) hn hl (i:=b) J).mono ?_;rintro _ y ⟨rfl,pG⟩;simp only[dd,xl,fV i J];have L:=(w.trans M V).trans pG V;simp only[uP]at C
   by_cases S:iG n i<iG n b
   .rw[jp S,gq rfl];rw[gq S]at C;exact next f _ _ J ⟨i+1,i,J,J,J,rfl,L,C⟩
   .rw[jo S,B tW];rw[B S]at C;exact next f _ _ J ⟨i+1,b,J,J,J,rfl,L,C⟩
  .have Qz:fu=0\/n.cells.length<i:=by omega
   have e:b=iZ n:=by
    rcases Qz with rfl|h
    .exact C
    .omega
   subst e;have aa:=(Ai n W).2.1;rw[jo hc,B tW,aG (n:=3) T rfl,af];refine(aak ⟨r,o,rfl,F.mono j,h2.mono j⟩ J hn.kR aa).mono ?_;rintro _ l ⟨a,b,rfl,N,ha,e⟩;have Nl:=N.nx;have gA:=(N.keep s1.nx J V).trans ad;have gB:=(N.keep s2.nx J V).trans ac;have ab:=ha [s1.nx,s2.nx] xI;have sy:=e [s1.nx,s2.nx] xI;obtain⟨c1,d1,rfl,H,f1⟩:=ab;obtain⟨c2,d2,rfl,G,f2⟩:=sy;obtain⟨x1,x2,x3⟩:=H.bM;obtain⟨y1,y2,y3⟩:=f1.bM;obtain⟨z1,z2,z3⟩:=G.bM;obtain⟨w1,w2,w3⟩:=f2.bM;have mL:∀a b c:K,bC Þ 0 [a,b,c]=[a,b,c]:=λa b c=>rfl;simp only[u6];rw[aK,gA,aU,aN,mL];refine⟨⟨rfl,ò,V⟩,?_⟩;rw[aK,ar _ _ _ _ J,gB,aU,aN,mL];refine⟨⟨rfl,by simp[z2,w2],V⟩,?_⟩;rw[aG (n:=3) ((ar _ _ _ _ J).trans (ao ..)) rfl,af,aG (n:=3) (ao ..) rfl,af];have kB:Kp [s1.nx,s2.nx] l (O.set (O.set l s1.nx (Ϙ [.bool (cM n (iZ n)).1.leaf,c1,d1])) s2.nx (Ϙ [.bool (cM n (iZ n)).2.2.leaf,c2,d2])):=((Δ _ l).set (p:=s1.nx) _ (.inl V) J).set (p:=s2.nx) _ (.inl V) xI;refine hQ _ _ ⟨_,_,rfl,(j.trans N V).trans kB xI,λX hX=>?_,λX hX=>?_⟩
   .have:=ha (X++[s1.nx,s2.nx]) (by intro b e;simp at e;rcases e with h|h|h;have:=hX b h;omega;omega;omega);exact(this.mono (kB.mono V)).fc (by intro q hq;simp[hq])
   .have:=e (X++[s1.nx,s2.nx]) (by intro b e;simp at e;rcases e with h|h|h;have:=hX b h;omega;omega;omega);exact(this.mono (kB.mono V)).fc (by intro q hq;simp[hq])
 have NP:=(F.mono lQ).len n.cells.length (bN _) J s3;simp only[yB,fl,ly,mW,kc,io,ag,NP,ju];unfold cF at W;cases P:n.leaf with
 |true=>
  rw[P,gq rfl]at W;have H:R .leq ν false (I n.cells.length) ϖ s3=.ok Θ s3:=by rw[au,jt,jo J]
  have G:R .add ν true ϖ ϖ s3=.ok (ζ (1+1)) s3:=rfl;rw[gq rfl,H,af,ag,B tW,G,af];have:=go _ (λx s h=>h) 1 (by unfold cF;rw[P,gq rfl]);simp only[fl]at this⊢;exact this
 |false=>
  rw[P,B tW]at W;have H:R .leq ν false (I n.cells.length) μ s3=.ok Θ s3:=by rw[au,jt,jo J]
  have G:R .add ν true μ ϖ s3=.ok (ζ (0+1)) s3:=rfl;rw[B tW,H,af,ag,B tW,G,af];have:=go _ (λx s h=>h) 0 (by unfold cF;rw[P,B tW]);simp only[fl]at this⊢;exact this
end
