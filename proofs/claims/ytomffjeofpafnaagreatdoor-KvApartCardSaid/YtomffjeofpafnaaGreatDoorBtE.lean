import Derived.Test.YtomffjeofpafnaaGreatDoorBtD
namespace Lim
open Go
noncomputable section
set_option linter.defProp false
set_option maxRecDepth 100000
section
variable {x:CV}{X:List Nat}{s:St}{p:Nat}{l:List CV}{ty:TypeId}{g:Bool}{K:CV->Prop}{vc:CV}{n:bp}{i:Nat}
def A8 (fr to:cn)(x:bq):Bool:= !decide (eQ x.1 fr)&&(decide (to=[])||decide (eQ x.1 to))
def fS (p:bq):List CV:=[.str p.1,.str p.2]
def gU (L:List bq):List CV:=(L.map fS).flatten
def l7 (L:List bq):(gU L).length=L.length*2:=by unfold gU;rw[fJ (w:=2) (by intro x hx;obtain⟨c,_,rfl⟩:=aFq.1 hx;rfl)];simp
def uL (a b:List bq):gU (a++b)=gU a++gU b:=by simp[gU]
structure Acc (st:St)(b:Nat)(A:List bq)(F:List Nat)(x:CV):Prop where
 get:st.m.g b=some (.cells [x] 37 false)
 lt:b<st.nx
 own:Own st x 2 41 (gU A) F
 F:∀q∈F,q<st.nx/\q≠b
def Acc.keep {st st':St}{b:Nat}{A:List bq}{F:List Nat}(h:Acc st b A F x)(hk:Kp X st st')(hb:b∉X)(hx:∀q∈F,q∉X):Acc st' b A F x:=
 ⟨(hk.keep b h.lt hb).trans h.get,aFg h.lt hk.nx,h.own.keep hk λq hq=>⟨(h.F q hq).1,hx q hq⟩,λq hq=>⟨aFg (h.F q hq).1 hk.nx,(h.F q hq).2⟩⟩
def asj (b:Nat)(F:List Nat)(A:List bq)(st:St)(y:CV)(st':St):Prop:=y=I 0/\Kp (b::F) st st'/\∃x' F',Acc st' b A F' x'/\∀q∈F',q∈F\/st.nx<=q
section
variable {τ:Nat} {π:PI} {st st':St} {G:GM} {fr to:cn}
def arN (hg:s.m.g p=some (.cells (x::l) ty g))(hK:K x):us (aC (.ptr p 0) s) K:=by
 rw[aB,hg,aq];exact hK
def SK {key:cn}{v:List UInt8}(hg:s.m.g p=some (.cells (.str key::l) ty g))(hK:K (.bool (!A8 fr to (key,v)))):
 us (ai .lss none false (.str key) (.str fr) s) λeP=>us (aZ (ak false eP) s (.ok (.str to) s)) λeI=>us (aZ (ak false eP) s (ai .neq (some .str) true eI (.str []) s)) λeV=>us (aZ (ak false eP) s (.ok eV s)) λeg=>
  gQ (ak true eg) 0 (.ptr p 0) s λef=>us (aZ (ak true eg) s (.ok (.str to) s)) λeF=>us (aZ (ak true eg) s (ai .geq none false ef eF s)) λdQ=>us (aZ (ak false eP) s (aX eg dQ (.bool false) s)) λeX=>us (aX eP (.bool true) eX s) K:=by
 rw[eA,Qb,af];unfold A8 at hK
 by_cases h1:eQ key fr
 .simp only[h1,aFZ,aFh,aHD,aFf]at hK;simp only[aEV h1,aG,aEM,aFa,aFh,bS,af,gQ,aF,aFm,oQ];exact hK
 .simp only[aEO h1,aFf,aHz]at hK;simp only[aEO h1,aG,aEM,aFa,aFf,bh,af,eA,nX]
  by_cases h2:to=[]
  .simp only[h2,aFZ,Bool.true_or,aFh]at hK;simp only[h2,aFZ,aFh,aFm,bS,af,gQ,aF,aEM,aFa];exact hK
  .simp only[aEO h2,Bool.false_or]at hK;simp only[aEO h2,aFf,aFm,bh,af,gQ,aF,ah,aB,hg,aq,aER,aEL,ay,eA,wh,aEM,aFa];have:decide (lp to key)= !decide (eQ key to):=by unfold lp;by_cases h:eQ key to<;>simp[h]
   rw[this];exact hK
def Ww (n:bp)(fr to:cn)(i:Nat):Prop:=(∃c,n.cells[i]?=some c/\lp c.key fr)\/(0<i/\to≠[]/\∃c,n.cells[i-1]?=some c/\lp to c.key)
def VY (c:Sl s X vc 4 (bC n.cells))(hi:i<n.cells.length)(hK:K (.str n.cells[i].key)):hJ (some true) 4 0 vc (I i) s K:=by
 obtain⟨b,p,l,t,g,q1,q2,q3,q4,q5⟩:=c.cellAt (L:=n.cells.map aU) qE (fp _) (i:=i) O1;have q6:=q5 0 (.str n.cells[i].key) TT;rw[aFC]at q6;simp only[bh,af,hJ,ah,aB,aq,aFC,q1,q2,q6,ay];exact hK
def QA {lf:CV}{vk:CV}(g:s.m.g p=some (.cells [lf,vc,vk] 105 false))(c:Sl s X vc 4 (bC n.cells))(oO:n.cells.length<=512)(hi:i<=n.cells.length)(hT:Ww n fr to i->K (.bool true))(hF:¬Ww n fr to i->K (.bool false)):
 fl 1 (.ptr p 0) s λpD=>us (bo .slice pD s) λvQ=>us (ai .lss none false (I i) vQ s) λpK=>gQ (ak true pK) 1 (.ptr p 0) s λuh=>us (aZ (ak true pK) s (.ok (I i) s)) λrZ=>
  hJ (ak true pK) 4 0 uh rZ s λrW=>us (aZ (ak true pK) s (.ok (.str fr) s)) λuE=>us (aZ (ak true pK) s (ai .leq none false rW uE s)) λya=>us (aX pK ya (.bool false) s) λqw=>
  us (aZ (ak false qw) s (.ok (I i) s)) λuZ=>us (aZ (ak false qw) s (ai .gtr none true uZ (.int .i64 0) s)) λmY=>us (aZ (ak false qw) s (.ok mY s)) λuD=>us (aZ (ak true uD) s (.ok (.str to) s)) λug=>
  us (aZ (ak true uD) s (ai .neq (some .str) true ug (.str []) s)) λlJ=>us (aZ (ak false qw) s (aX uD lJ (.bool false) s)) λmO=>us (aZ (ak false qw) s (.ok mO s)) λmB=>gQ (ak true mB) 1 (.ptr p 0) s λxZ=>
  us (aZ (ak true mB) s (.ok (I i) s)) λyK=>us (aZ (ak true mB) s (ai .sub none true yK (.int .i64 1) s)) λxY=>hJ (ak true mB) 4 0 xZ xY s λrV=>us (aZ (ak true mB) s (.ok (.str to) s)) λrS=>
  us (aZ (ak true mB) s (ai .geq none false rV rS s)) λCh=>us (aZ (ak false qw) s (aX mB Ch (.bool false) s)) λzc=>us (aX qw (.bool true) zc s) K:=by
 have hlen:=c.len n.cells.length (bB _) qE s;have afZ:∀(j:Nat) (hj:j<n.cells.length) (K:CV->Prop),K (.str n.cells[j].key)->hJ (some true) 4 0 vc (I j) s K:=λj hj K hK=>VY c hj hK;rw[fl,ah,af,aB,g,aq];simp only[aER,aEN,aEL,ay,hlen,af,dC]
 have agL:¬(∃c,n.cells[i]?=some c/\lp c.key fr)->us (ai .gtr none true (I i) (.int .i64 0) s) λmY=>us (.ok mY s) λuD=>us (aZ (ak true uD) s (.ok (.str to) s)) λug=>
  us (aZ (ak true uD) s (ai .neq (some .str) true ug (.str []) s)) λlJ=>us (aX uD lJ (.bool false) s) λmO=>us (.ok mO s) λmB=>gQ (ak true mB) 1 (.ptr p 0) s λxZ=>
  us (aZ (ak true mB) s (.ok (I i) s)) λyK=>us (aZ (ak true mB) s (ai .sub none true yK (.int .i64 1) s)) λxY=>hJ (ak true mB) 4 0 xZ xY s λrV=>us (aZ (ak true mB) s (.ok (.str to) s)) λrS=>
  us (aZ (ak true mB) s (ai .geq none false rV rS s)) λCh=>us (aX mB Ch (.bool false) s) λzc=>us (aX (.bool false) (.bool true) zc s) K:=λqy=>by
  have e0:ai .gtr none true (I i) (.int .i64 0) s=.ok (.bool (decide (0<i))) s:=zz
  rw[e0,af,af]
  by_cases h0:0<i
  .simp only[aEV h0,aG,aFm,bh,af,eA,nX,aF]
   by_cases h2:to=[]
   .simp only[h2,aFZ,aFh,bS,af,gQ,hJ,aEM,aFa]
    exact hF λh=>by
     rcases h with h|h
     .exact qy h
     .exact h.2.1 h2
   .simp only[aEO h2,aFf,aFm,bh,af,gQ,ah,aB,g,aq,aER,aEN,aEL,ay,vd i qE h0];have hj:i-1<n.cells.length:=by omega
    refine afZ (i-1) hj _ ?_;simp only[eA,wh,af,aEM,aFa]
    by_cases h3:lp to n.cells[i-1].key
    .rw[aEV h3];exact hT (.inr ⟨h0,h2,_,aES hj,h3⟩)
    .rw[aEO h3]
     exact hF λh=>by
      rcases h with h|⟨_,_,c',nL,h⟩
      .exact qy h
      .rw[aES hj]at nL;cases nL;exact h3 h
  .simp only[aEO h0,aG,aFm,bS,af,gQ,hJ,aF,aEM,aFa]
   exact hF λh=>by
    rcases h with h|h
    .exact qy h
    .exact h0 h.1
 by_cases h1:i<n.cells.length
 .simp only[aEV h1,aG,aFm,bh,af,gQ,ah,aB,g,aq,aER,aEN,aEL,ay];refine afZ i h1 _ ?_;simp only[eA,Qc,af,aF,aFm]
  by_cases h2:lp n.cells[i].key fr
  .simp only[aEV h2,aG,aEM,aFa,aFh,bS,af,aFm,oQ,hJ];exact hT (.inl ⟨_,aES h1,h2⟩)
  .have:=agL λ⟨c',nL,h⟩=>by rw[aES h1]at nL;cases nL;exact h2 h
   simp only[aEO h2,aG,aEM,aFa,aFf,bh];simp only[gQ,ah,af,aER]at this⊢;exact this
 .have:=agL λ⟨c',nL,h⟩=>by rw[aFQ qE]at nL;cases nL
  simp only[aEO h1,aG,aFm,bS,af,gQ,hJ,aF,aEM,aFa,aFf,bh];simp only[gQ,hJ,ah,af,aER]at this⊢;exact this
def IQ:∀(m h:Nat),h=m->∀{st:St} {G:GM} {page dep b:Nat} {lo:cn} {hi:Option cn} {Ls A:List bq} {ps F:List Nat} {ax:CV},Tg τ π st G->Sub G h page lo hi Ls ps->dep+h<=20->Acc st b A F ax->(∀q∈b::F,q∉π.all/\q≠τ)->A.length+Ls.length<=50000000->
 R 55 [.ptr τ 0,I page,I dep,.str fr,.str to,.ptr b 0] st (asj b F (A++Ls.filter (A8 fr to)) st):=by
 intro m
 induction m using Nat.strongRecOn with
 |_ m ih=>
  intro h hm st G page dep b lo hi Ls A ps F ax ht hs aAq RI hX hlen;obtain⟨n,q,hn,kD,rfl⟩:=hs;refine bP ?_;rw[w55];refine(zD ht hn).mono ?_;rintro _ s1 ⟨xn,rfl,k1,hxn⟩
  have hbF:∀q∈b::F,q<st.nx:=by
   intro q hq;rcases aEP.1 hq with rfl|hq
   .exact RI.lt
   .exact(RI.F q hq).1
  obtain⟨vc,vk,rfl,c1,c2⟩:=hxn (b::F) hbF;rw[aE,af,aN,aE,af];refine qV c1.bE.2.1 c2.bE.2.1 ?_;have k3:Kp [] s1 (St.new s1 (.cells [.bool n.leaf,vc,vk] 105 false)):=(Kp.refl [] s1).new _;have g3:(St.new s1 (.cells [.bool n.leaf,vc,vk] 105 false)).m.g s1.nx=some (.cells [.bool n.leaf,vc,vk] 105 false):=ao _ _;have n3:(St.new s1 (.cells [.bool n.leaf,vc,vk] 105 false)).nx=s1.nx+1:=rfl;generalize St.new s1 (.cells [.bool n.leaf,vc,vk] 105 false)=s3 at*;have K3:=k1.trans k3 uG;have K3n:=K3.nx;have k1n:=k1.nx;have t3:=ht.still K3;have ahW:=RI.keep K3 uG uG;have c13:=c1.mono (k3.mono uG);have c23:=c2.mono (k3.mono uG);have e2:∀s,ai .neq (some .int) true (I 0) (.int .i64 0) s=.ok (.bool false) s:=λs=>rfl
  have oO:n.cells.length<=512:=by
   have:=eC n.leaf n.cells;have:=hn.size;rw[ck]at this;omega
  rw[e2,af,ag,aET u7];rw[fl,ah,af,aB,g3,aq];simp only[aER,aEL,ay,ag];cases h with
  |zero=>
   obtain⟨fL,hlt,hcp,nD⟩:=(show GI G n lo hi Ls q from kD);rw[fL,aEW rfl];have Vl:=c13.len n.cells.length (bB _) qE s3;simp only[cV,aL,aM,fl,ah,af,aB,g3,aq,aER,aEN,aEL,ay,Vl];refine bN (λfu vs s=>∃i A' F' x' Li pi,fu+i=n.cells.length/\vs=[.ptr τ 0,.str fr,.str to,.ptr b 0,vc,I n.cells.length,I i]/\Kp (b::F) s3 s/\Acc s b A' F' x'/\(∀q∈F',q∈F\/s3.nx<=q)/\ff G (n.cells.drop i) Li pi/\A'++Li.filter (A8 fr to)=A++Ls.filter (A8 fr to)/\A'.length+Li.length<=50000000) ?_ (n:=n.cells.length) ⟨0,A,F,ax,Ls,q,rfl,rfl,Kp.refl _ _,ahW,ael,hcp,rfl,hlen⟩;rintro fu vs s k ⟨i,A',F',x',Li,pi,hi,rfl,hk,acc,rT,TE,OA,sQ⟩ next;simp only[aL,aM,dC,af,ag]
   by_cases hc:i<n.cells.length
   .rw[aEV hc,aEW rfl];refine(c13.mono hk).hO (L:=n.cells.map aU) qE (fp _) Dx _ ?_;have e:(n.cells.map aU)[i]'(by simpa using hc)=aU n.cells[i]:=by simp
    rw[e];refine mH rfl rfl (fx _) ?_;have k7:Kp [] s (St.new s (.cells (aU n.cells[i]) 109 false)):=(Kp.refl _ s).new _;have g7:(St.new s (.cells (aU n.cells[i]) 109 false)).m.g s.nx=some (.cells [.str n.cells[i].key,.str n.cells[i].value,I n.cells[i].dU,I n.cells[i].size] 109 false):=ao _ _;have n7:(St.new s (.cells (aU n.cells[i]) 109 false)).nx=s.nx+1:=rfl;generalize St.new s (.cells (aU n.cells[i]) 109 false)=s7 at*;have ahV:=acc.keep k7 uG uG;have rO:=hk.nx;rw[aFk hc]at TE;obtain⟨v,p1,L2,p2,hval,agv,rfl,rfl⟩:=TE
    have ho:n.cells[i].ok true:=by
     have:=hn.ok.cell _ (aFj hc)
     rwa [fL]at this
    refine arN g7 ?_;refine SK (v:=v) g7 ?_;simp only[ag];cases hb:A8 fr to (n.cells[i].key,v)with
    |false=>
     rw[aFf,aEW rfl,gH i qE,af];rw[aGo,hb,aET u7]at OA;exact next (fu-1) _ _ qE ⟨i+1,A',F',x',L2,p2,qE,rfl,hk.trans k7 uG,ahV,rT,agv,OA,by simp at sQ;omega⟩
    |true=>
     rw[aFh,aET u7];rw[aGo,hb,aEW rfl]at OA
     have hX':∀q∈b::F',q∉π.all/\q≠τ:=by
      intro q hq;rcases aEP.1 hq with rfl|hq
      .exact hX _ uG
      .rcases rT q hq with h|h
       .exact hX _ Pb
       .exact⟨λhh=>by have:=ht.pg.lt q hh;omega,λe=>acL⟩
     have ts:=(t3.wI hk hX).still k7;rw[aK (n:=4) g7 rfl,af];refine(Fz ts ho hval).mono ?_;rintro _ s8 ⟨rfl,k8⟩;have n8:=k8.nx;have SQ:=ahV.keep k8 uG uG;have g8:=(k8.keep s.nx qE uG).trans g7;rw[aE,af,aN,aE,af,e2,af,ag,aET u7,bG];have ks:=(Kp.refl [] s8).skip;have aaf:=k8.fresh ts.fr;have jx:(St.skip s8).m.g s8.nx=none:=aaf _ (aEQ _);have nsk:(St.skip s8).nx=s8.nx+1:=rfl;have HX:=SQ.keep ks uG uG;have gk:(St.skip s8).m.g s.nx=_:=g8;generalize St.skip s8=sk at*;have nD:bk [.str [],.str []] [(0,1,.str n.cells[i].key),(1,1,.str v)] sk=.ok (.agg (fS (n.cells[i].key,v))) sk:=rfl;have aAJ:A'.length<=50000000:=qE
     have gkb:=HX.get;rw[bF,af,aB,gkb,aq];simp only[aEL,ay];rw[ah,af,aB,gk,aq];simp only[aER,aEL,ay];rw[nD,af];refine xe 32 HX.own qE (λq hq=>⟨(HX.F q hq).1,by have:=(SQ.F q hq).1;omega⟩) qE jx rfl rfl rfl rfl (by rw[l7];omega) ?_;intro v' s10 F2 o2 qh xq;have On:=qh.nx;have avC:=SQ.lt
     have aqm:b∉s8.nx::F':=by
      intro hh;rcases aEP.1 hh with h|h
      .omega
      .exact(SQ.F b h).2 rfl
     have arh:=(qh.keep b HX.lt aqm).trans HX.get;obtain⟨UJ,Qm⟩:=o2.cE;have kP:bD [x'] 0 [v']=[v']:=rfl;have aqM:(St.set sk s8.nx (.cells (CV.agg (fS (n.cells[i].key,v))).cN 41 false)).m.g b=some (.cells [x'] 37 false):=(al _ _ _ _ qE).trans HX.get;have ahj:(St.set sk s8.nx (.cells (CV.agg (fS (n.cells[i].key,v))).cN 41 false)).m.g s.nx=_:=(al _ _ _ _ qE).trans gk;rw[bF,af,aJ,arh,aW,Qm,kP,aB,aqM,aq,aB,ahj,aq];refine⟨⟨rfl,by simp[UJ],uG⟩,⟨⟨rfl,aer⟩,⟨rfl,aer⟩,aer⟩,⟨aer,aer⟩,?_⟩;rw[gH i qE,af]
     have EN:∀q∈F2,(q∈F\/s3.nx<=q)/\q<s10.nx/\q≠b:=λq hq=>by
      obtain⟨a1,a2⟩:=xq q hq;refine⟨?_,a2,?_⟩
      .rcases a1 with h|h
       .exact rT q h
       .right;omega
      .rcases a1 with h|h
       .exact(SQ.F q h).2
       .intro e;omega
     have amY:=(((hk.trans k7 uG).trans k8 uG).trans ks uG).trans qh λq hq=>by
      rcases aEP.1 hq with rfl|hq
      .right;omega
      .exact(rT q hq).imp (λh=>Pb) id
     refine next (fu-1) _ _ qE ⟨i+1,A'++[(n.cells[i].key,v)],F2,v',L2,p2,qE,rfl,amY.set _ (.inl uG) (by have:=HX.lt;omega),⟨ar _ _ _,by have:=HX.lt;simp;omega,?_,λq hq=>⟨(EN q hq).2.1,(EN q hq).2.2⟩⟩,λq hq=>(EN q hq).1,agv,?_,?_⟩
     .have e:gU A'++(CV.agg (fS (n.cells[i].key,v))).cN=gU (A'++[(n.cells[i].key,v)]):=by rw[uL];rfl
      rw[e]at o2;exact o2.mono λq hq=>al _ _ _ _ (EN q hq).2.2
     .rw[<-OA];simp
     .simp at sQ⊢;omega
   .rw[aEO hc,aET u7];have JT:n.cells.drop i=[]:=aFu qE;rw[JT]at TE;obtain⟨rfl,_⟩:=(show Li=[]/\pi=[]from TE);simp only[List.filter_nil,aFN]at OA;refine⟨rfl,(K3.mono uG).trans hk ael,x',F',by rw[<-OA];exact acc,λq hq=>(rT q hq).imp id λh=>qE⟩
  |succ h=>
   obtain⟨fL,BW⟩:=(show QK (Sub G h) n lo hi Ls q from kD);rw[fL,aET u7];have e40:ai .eql (some .int) true (I dep) (.int .i64 40) s3=.ok (.bool false) s3:=Ft
   rw[e40,af,ag,aET u7];have rO:=hn.ok.jw;rw[fL,aET u7]at rO;have AL:=c23.len n.kids.length uG qE s3;rw[cV];simp only[aL,aM];rw[fl,ah,af,aB,g3,aq];simp only[aER,aEN,aEL,ay];rw[AL,af]
   refine bN (λfu vs s=>∃i A' F' x' Li pi,fu+i=n.kids.length/\vs=[.ptr τ 0,I dep,.str fr,.str to,.ptr b 0,.ptr s1.nx 0,vk,I n.kids.length,I i]/\Kp (b::F) s3 s/\Acc s b A' F' x'/\(∀q∈F',q∈F\/s3.nx<=q)/\
    ((i=n.kids.length/\Li=[])\/∃loi,cz (Sub G h) (n.kids.drop i) (n.ft.drop i) loi hi Li pi/\∀c,0<i->n.cells[i-1]?=some c->c.key=loi)/\A'++Li.filter (A8 fr to)=A++Ls.filter (A8 fr to)/\A'.length+Li.length<=50000000) ?_ (n:=n.kids.length)
    ⟨0,A,F,ax,Ls,q,rfl,rfl,Kp.refl _ _,ahW,ael,.inr ⟨lo,by rw[aFr,aFr];exact BW,λc h0=>absurd h0 (Nat.lt_irrefl 0)⟩,rfl,hlen⟩
   rintro fu vs s k ⟨i,A',F',x',Li,pi,fk,rfl,hk,acc,rT,CU,OA,sQ⟩ next;simp only[aL,aM];rw[dC,af,ag];have mr:=hk.nx
   by_cases hc:i<n.kids.length
   .rw[aEV hc,aEW rfl];rcases CU with⟨he,_⟩|⟨loi,yx,aoH⟩
    .omega
    have ci:=c13.mono hk;have di:=c23.mono hk;have gi:=(hk.keep s1.nx qE (λhh=>by have:=hbF _ hh;omega)).trans g3;refine di.idx (i:=i) Dx _ ?_;have e9:(cJ n.kids)[i]'(by simpa using hc)=I n.kids[i]:=by simp[cJ]
    rw[e9]
    have apt:∃Hi L1 p1 L2 p2,Sub G h n.kids[i] loi Hi L1 p1/\Li=L1++L2/\(∀c,n.cells[i]?=some c->Hi=some c.key)/\((i+1=n.kids.length/\L2=[])\/∃aeg,cz (Sub G h) (n.kids.drop (i+1)) (n.ft.drop (i+1)) aeg hi L2 p2/\∀c,0<i+1->n.cells[i+1-1]?=some c->c.key=aeg):=by
     rw[aFk hc]at yx
     by_cases hl:i<n.ft.length
     .rw[aFk hl]at yx;obtain⟨L1,p1,L2,p2,a,b',rfl,rfl⟩:=cz.cons.1 yx
      have afe:∀c,n.cells[i]?=some c->c.key=n.ft[i]:=λc nL=>by
       obtain⟨h1,h2⟩:=aFb.1 nL;simp[bp.ft,h2]
      exact⟨_,L1,p1,L2,p2,a,rfl,λc nL=>by rw[afe c nL],.inr ⟨_,b',λc _ nL=>afe c (by simpa using nL)⟩⟩
     .rw[aFu (show n.ft.length<=i from qE)]at yx;obtain⟨he,hS⟩:=cz.one.1 yx;rw[kq]at hl;exact⟨_,Li,pi,[],[],hS,uG,λc nL=>(by rw[aFQ qE]at nL;cases nL),.inl ⟨qE,rfl⟩⟩
    obtain⟨Hi,L1,p1,L2,p2,hS,rfl,apg,Xa⟩:=apt;have hfc:=hS.facts;refine QA gi ci oO qE (λhsk=>?_) (λhsk=>?_)
    .rw[ag,aEW rfl,gH i qE,af]
     have jx:L1.filter (A8 fr to)=[]:=tb λx hx=>by
      obtain⟨b1,b2⟩:=hfc.Zl x hx;unfold A8;rcases hsk with⟨c,nL,hle⟩|⟨h0,h2,c,nL,hle⟩
      .rw[apg c nL]at b2;have b2:eQ x.1 c.key:=b2;have:=b2.ko hle;rw[aEV this];rfl
      .have b3:lp to x.1:=by
        have:=aoH c h0 nL;rw[this]at hle;exact hle.trans b1
       have:=aEO b3;rw[aEO h2,this];simp
     rw[aGy,jx,aFt]at OA;exact next (fu-1) _ _ qE ⟨i+1,A',F',x',L2,p2,qE,rfl,hk,acc,rT,Xa,OA,by simp at sQ;omega⟩
    .rw[ag,aET u7,gH dep qE,af]
     have hX':∀q∈b::F',q∉π.all/\q≠τ:=by
      intro q hq;rcases aEP.1 hq with rfl|hq
      .exact hX _ uG
      .rcases rT q hq with h|h
       .exact hX _ Pb
       .exact⟨λhh=>by have:=ht.pg.lt q hh;omega,λe=>acL⟩
     have ts:=t3.wI hk hX;refine(ih h qE h rfl ts hS qE acc hX' (by simp at sQ;omega)).mono ?_;rintro _ eT ⟨rfl,wJ,x2,F2,asg,xq⟩;rw[e2,af,ag,aET u7,gH i qE,af];refine next (fu-1) _ _ qE ⟨i+1,A'++L1.filter (A8 fr to),F2,x2,L2,p2,qE,rfl,hk.trans wJ λq hq=>?_,asg,λq hq=>?_,Xa,?_,?_⟩
     .rcases aEP.1 hq with rfl|hq
      .left;simp
      .exact(rT q hq).imp (λh=>Pb) id
     .rcases xq q hq with h|h
      .exact rT q h
      .right;omega
     .rw[<-OA,aGy,aFx]
     .have:=aHf (A8 fr to) L1;simp at sQ⊢;omega
   .rw[aEO hc,aET u7]
    have hLi:Li=[]:=by
     rcases CU with⟨_,h⟩|⟨loi,yx,_⟩
     .exact h
     .have:=yx.len;rw[aFn,aFn]at this;omega
    subst hLi;simp only[List.filter_nil,aFN]at OA;refine⟨rfl,(K3.mono uG).trans hk ael,x',F',by rw[<-OA];exact acc,λq hq=>(rT q hq).imp id λh=>qE⟩
def ff.short {G:GM}{cs:List dh}{L:List bq}{ps:List Nat}(h:ff G cs L ps):L.length=cs.length:=h.len
def Sub.short {G:GM}:∀{h page:Nat} {lo:cn} {hi:Option cn} {L:List bq} {ps:List Nat},Sub G h page lo hi L ps->L.length<=512*ps.length:=by
 intro h
 induction h with
 |zero=>
  rintro page lo hi L ps ⟨n,q,hn,⟨_,_,hc,_⟩,rfl⟩;have:=hc.len;have h1:=eC n.leaf n.cells;have h2:=hn.size;rw[ck]at h2;simp;omega
 |succ h ih=>
  rintro page lo hi L ps ⟨n,q,hn,⟨_,hk⟩,rfl⟩
  have key:∀(ks:List Nat) (ss:List cn) lo L q,cz (Sub G h) ks ss lo hi L q->L.length<=512*q.length:=by
   intro ks
   induction ks with
   |nil=>intro ss lo L q hk;cases ss<;>exact hk.elim
   |cons k ks ih2=>
    intro ss lo L q hk;cases ss with
    |nil=>rw[cz.one]at hk;exact ih hk.2
    |cons s ss=>
     rw[cz.cons]at hk;obtain⟨L1,p1,L2,p2,a,b,rfl,rfl⟩:=hk;have h1:=ih a;have h2:=ih2 _ _ _ _ b;simp;omega
  have:=key _ _ _ _ _ hk;simp;omega
end
end
section
variable {τ:Nat} {π:PI} {st st':St} {G:GM} {fr to:cn}
def PO {L:List bq}(ht:fA G L)(h0:G.root=0):L=[]:=by
 rcases ht.tree with h|⟨hh,ps,_,hs⟩
 .exact h.2
 .obtain⟨n,q,hn,_⟩:=hs;have:=hn.bW.1;omega
def PW (h:Tg τ π st G){L:List bq}(ht:fA G L)(fr to:cn):R 14 [.ptr τ 0,.str fr,.str to] st λy st'=>∃x,y=.tuple [x,I 0]/\Made 2 41 (gU (L.filter (A8 fr to))) st x st':=by
 refine bP ?_;rw[w14];rw[cD,af,ag,aET u7];refine h.get' ?_;refine(Js h.pg).same ?_;have e0:ai .eql (some .int) true (I G.root) (.int .i64 0) st=.ok (.bool (decide (G.root=0))) st:=OX
 rw[e0,af,ag]
 by_cases h0:G.root=0
 .rw[aEV h0,aEW rfl,PO ht h0];exact⟨.ae,rfl,[],Kp.refl _ _,.inl ⟨rfl,rfl,rfl⟩,uG⟩
 .rw[aEO h0,aET u7,cH,aS];have k2:Kp [] st (St.new st (.cells [.ae] 37 false)):=(Kp.refl [] st).new _;have g2:(St.new st (.cells [.ae] 37 false)).m.g st.nx=some (.cells [.ae] 37 false):=ao _ _;have n2:(St.new st (.cells [.ae] 37 false)).nx=st.nx+1:=rfl;generalize St.new st (.cells [.ae] 37 false)=s2 at*;have t2:=h.still k2;refine t2.get' ?_;refine(Js t2.pg).same ?_
  obtain⟨hh,ps,ja,hs⟩:∃h ps,ps.Nodup/\Sub G h G.root [] none L ps:=by
   rcases ht.tree with h|h
   .exact absurd h.1 h0
   .exact h
  have LP:=hs.deep ja ht.ok;have hsh:=hs.short;have h2:=Gm ja hs.aH ht.ok.one;have h3:=ht.ok.jL;have h4:=ht.ok.size;have RI:Acc s2 st.nx [] [] .ae:=⟨g2,qE,.inl ⟨rfl,rfl,rfl⟩,uG⟩;refine(IQ hh hh rfl (dep:=0) t2 hs qE RI (λq hq=>?_) vR).mono ?_
  .have hq:q=st.nx:=by simpa using hq
   subst hq;exact⟨λhh=>acE,λe=>Wr⟩
  .rintro _ s4 ⟨rfl,k4,x,F,acc,hF⟩;have e2:ai .neq (some .int) true (I 0) (.int .i64 0) s4=.ok (.bool false) s4:=rfl;rw[e2,af,ag,aET u7,aB,acc.get,aq];refine⟨x,rfl,F,k2.trans k4 uG,?_,λq hq=>⟨?_,(acc.F q hq).1⟩⟩
   .have:=acc.own
    rwa [aFt]at this
   .rcases hF q hq with h|h
    .cases h
    .omega
def Po (h:Tg τ π st G):R 17 [.ptr τ 0] st λv st'=>v=I G.cF/\st'=st:=by
 refine bP ?_;rw[w17];rw[cD,af,ag,aET u7];refine h.get' ?_;refine(P8 h.pg).same ?_;exact⟨rfl,rfl⟩
def Ug (h:Pg π st G)(hf:eH st):R 24 [.ptr π.p 0] st λv st'=>v=.ptr st.nx 0/\Kp [] st st'/\Tg st.nx π st' G:=by
 refine bP ?_;rw[w24];have nD:bk [.bA] [(0,1,.ptr π.p 0)] st=.ok (.agg [.ptr π.p 0]) st:=rfl;rw[cD,af,ag,aET u7,nD,af,bV,aT];refine⟨rfl,rfl,(Kp.refl [] st).new _,?_⟩;have k:Kp [] st (St.new st (.cells [.ptr π.p 0] 116 false)):=(Kp.refl [] st).new _;exact⟨h.still k,uG,λhh=>by have:=h.lt _ hh;omega,⟨116,false,ao _ _⟩,k.fresh hf⟩
end
section
variable {f:cK}{n:bp}{h:Nat}{x v:CV}{LL:List bq}
section
variable {τ:Nat} {π:PI} {st st':St} {G:GM}
def abr (τ:Nat)(π:PI)(G:GM)(page:Nat)(n:bp)(LL:List bq)(st:St)(y:CV)(st':St):Prop:=y=I 0/\Kp π.W st st'/\Tg τ π st' (G.put page (.node n))/\fA (G.put page (.node n)) LL
def Pf {rest:List cK}(ht:Tg τ π st G)(hg:za G h f.page rest n LL)(jh:n.leaf=true\/n.cells≠[])(vI:n.size<=512)
 (hst:eu st π.W x (rest.reverse++[f])) (hv:IsNode st π.W v n) (vO:rest.length<=16):R 104 [.ptr τ 0,x,v] st (abr τ π G f.page n LL st):=by
 have hsz:n.size<=640:=qE
 have mV:=ht.Oc;have zo:=hv;obtain⟨vc,vk,rfl,J9,LM⟩:=hv
 have oO:n.cells.length<=640:=by
  have:=eC n.leaf n.cells;rw[ck]at hsz;omega
 refine bP ?_;rw[adl];rw[bV,aT];refine⟨rfl,?_⟩;have k1:Kp [] st (St.new st (.cells [.bool n.leaf,vc,vk] 105 false)):=(Kp.refl [] st).new _;have g1:(St.new st (.cells [.bool n.leaf,vc,vk] 105 false)).m.g st.nx=some (.cells [.bool n.leaf,vc,vk] 105 false):=ao _ _;have n1:(St.new st (.cells [.bool n.leaf,vc,vk] 105 false)).nx=st.nx+1:=rfl;generalize St.new st (.cells [.bool n.leaf,vc,vk] 105 false)=s1 at*;have gD:=hst.mono (k1.mono uG);have uT:(rest.reverse++[f]).length=rest.length+1:=uG
 have e3:=λs=>by
  have:=vd (rest.length+1) qE qE s none
  rwa [aFY]at this
 obtain⟨zy,zx,c1,c2,gG⟩:=gD.row (i:=rest.length) uG;have hf:(rest.reverse++[f])[rest.length]'(by simp)=f:=uG
 rw[hf]at c1 c2 gG;have hlen:=λs=>hst.len s;rw[uT]at hlen;simp only[hlen,af,e3];refine gG _ ?_;refine kJ c1.bE.2.1 c2.bE.2.1 ?_;have k3:Kp [] s1 (St.new s1 (.cells [I f.page,I f.at_,.bool f.n.leaf,zy,zx] 107 false)):=(Kp.refl [] s1).new _;have g3:(St.new s1 (.cells [I f.page,I f.at_,.bool f.n.leaf,zy,zx] 107 false)).m.g s1.nx=some (.cells [I f.page,I f.at_,.bool f.n.leaf,zy,zx] 107 false):=ao _ _;have n3:(St.new s1 (.cells [I f.page,I f.at_,.bool f.n.leaf,zy,zx] 107 false)).nx=s1.nx+1:=rfl;generalize St.new s1 (.cells [I f.page,I f.at_,.bool f.n.leaf,zy,zx] 107 false)=s3 at*;have jN:=k1.trans k3 uG;have nE:=(k3.keep st.nx qE uG).trans g1;have st3:=gD.mono (k3.mono uG);obtain⟨dd,YJ,I3⟩:=st3.zh uG (m:=rest.length) uG s3
 have yv:(rest.reverse++[f]).take rest.length=rest.reverse:=by
  rw[aGj uG]
 rw[yv]at I3;have t3:=ht.still jN;simp only[YJ,af];refine fH nE ?_;refine(zf t3.fr ((zo.mono (jN.mono uG)).dW uG) hg.JE qE).mono ?_;rintro _ s4 ⟨rfl,k4⟩;have rQ:=jN.trans k4 uG;have n4:=k4.nx;have Iz:=(k4.keep st.nx qE uG).trans nE;have OB:=(k4.keep s1.nx qE uG).trans g3;have t4:=ht.still rQ;have v4:=zo.mono (rQ.mono uG);have Wv:=I3.mono (k4.mono uG);have e4:ai .leq none true (I n.size) (.int .i64 512) s4=.ok (.bool (decide (n.size<=512))) s4:=IN
 simp only[e4,af,ag];obtain⟨lo,hi,Ll,Lr,L,ps,q,wQ,kD,ja,TI⟩:=hg.ctx;rw[aEV vI,aEW rfl];simp only[fl,ah,af,aB,OB,aq,aER,aEL,ay];refine fH Iz ?_;refine(lW t4 hg.bW (v4.dW uG) hg.JE vI).mono ?_;rintro _ s5 ⟨rfl,k5,t5⟩;refine⟨rfl,(rQ.mono uG).trans k5 ael,t5,?_⟩;rw[<-TI];exact wQ.write hg.ok hg.bW hg.JE vI jh kD ja
def Kj (ht:Tg τ π st G)(hg:za G h f.page [] n LL)(fL:n.leaf=true)(ij:n.cells≠[])(vI:n.size<=512)
 (hst:eu st π.W x [f]) (hv:IsNode st π.W v n):R 52 [.ptr τ 0,x,v] st (abr τ π G f.page n LL st):=by
 have hsz:n.size<=640:=qE
 obtain⟨rest,CP⟩:∃r:List cK,r=[]:=⟨[],rfl⟩;have hst:eu st π.W x (rest.reverse++[f]):=by rw[CP];exact hst
 have vO:rest.length<=16:=by rw[CP];simp
 have mV:=ht.Oc;have sV:∀q,st.nx<=q->q∉π.W:=λq hq hh=>aak
 have zo:=hv;obtain⟨vc,vk,rfl,J9,LM⟩:=hv
 have oO:n.cells.length<=640:=by
  have:=eC n.leaf n.cells;rw[ck]at hsz;omega
 refine bP ?_;rw[w52];rw[bV,aT];refine⟨rfl,?_⟩;have k1:Kp [] st (St.new st (.cells [.bool n.leaf,vc,vk] 105 false)):=(Kp.refl [] st).new _;have g1:(St.new st (.cells [.bool n.leaf,vc,vk] 105 false)).m.g st.nx=some (.cells [.bool n.leaf,vc,vk] 105 false):=ao _ _;have n1:(St.new st (.cells [.bool n.leaf,vc,vk] 105 false)).nx=st.nx+1:=rfl;generalize St.new st (.cells [.bool n.leaf,vc,vk] 105 false)=s1 at*;have gD:=hst.mono (k1.mono uG);have uT:(rest.reverse++[f]).length=rest.length+1:=uG
 have e3:=λs=>by
  have:=vd (rest.length+1) qE qE s none
  rwa [aFY]at this
 obtain⟨zy,zx,c1,c2,gG⟩:=gD.row (i:=rest.length) uG;have hf:(rest.reverse++[f])[rest.length]'(by simp)=f:=uG
 rw[hf]at c1 c2 gG;have hlen:=λs=>hst.len s;rw[uT]at hlen;simp only[hlen,af,e3];refine gG _ ?_;refine kJ c1.bE.2.1 c2.bE.2.1 ?_;have k3:Kp [] s1 (St.new s1 (.cells [I f.page,I f.at_,.bool f.n.leaf,zy,zx] 107 false)):=(Kp.refl [] s1).new _;have g3:(St.new s1 (.cells [I f.page,I f.at_,.bool f.n.leaf,zy,zx] 107 false)).m.g s1.nx=some (.cells [I f.page,I f.at_,.bool f.n.leaf,zy,zx] 107 false):=ao _ _;have n3:(St.new s1 (.cells [I f.page,I f.at_,.bool f.n.leaf,zy,zx] 107 false)).nx=s1.nx+1:=rfl;generalize St.new s1 (.cells [I f.page,I f.at_,.bool f.n.leaf,zy,zx] 107 false)=s3 at*;have jN:=k1.trans k3 uG;have nE:=(k3.keep st.nx qE uG).trans g1;have st3:=gD.mono (k3.mono uG);have t3:=ht.still jN;have v3:=zo.mono (jN.mono uG);have e4:ai .eql (some .int) true (I ((rest.length+1:Nat):Int)) (.int .i64 1) s3=.ok (.bool (decide (rest.length=0))) s3:=OX
 have e5:∀s,ai .neq (some .int) true (I 0) (.int .i64 0) s=.ok (.bool false) s:=λs=>rfl;simp only[af,e4,ag];have Vl:∀s,Kp [] st s->bo .slice vc s=.ok (I n.cells.length) s:=λs hs=>(J9.mono (hs.mono uG)).len n.cells.length (bB _) qE s
 have Hs:∀s,Kp [] st s->R 104 [.ptr τ 0,x,.agg [.bool n.leaf,vc,vk]] s λy s'=>abr τ π G f.page n LL st y s':=by
  intro s hs;refine(Pf (rest:=rest) (ht.still hs) (by rw[CP];exact hg) (.inl fL) vI (hst.mono (hs.mono uG)) (zo.mono (hs.mono uG)) vO).mono ?_;rintro y s' ⟨rfl,k',t',o'⟩;exact⟨rfl,(hs.mono uG).trans k' ael,t',o'⟩
 subst CP;rw[aEW (show decide (([]:List cK).length=0)=true from rfl)];have ez:∀s,ai .eql (some .int) true (I n.cells.length) (.int .i64 0) s=.ok (.bool (decide (n.cells.length=0))) s:=λs=>OX
 have h0:¬n.cells.length=0:=λh=>ij (aFi.1 h);simp only[fl,ah,af,aB,nE,aq,aER,aEL,ay];rw[fL]at nE Hs;simp only[fL,aG,aFm,gQ,bh,ah,af,aB,nE,aq,aER,aEN,aEL,ay,Vl s3 jN,ez,aF,ag,cU,aFh,aEM,aFa,bS];rw[aEO h0,aET u7];rw[aK (n:=3) nE rfl,af];exact Hs s3 jN
end
end
def I6 {l:List dh}(h:∀c∈l,c.ok true)(hl:l.length<=3):(dg l).size<=512:=by
 have h1:∀l:List dh,(∀c∈l,c.ok true)->(cT true l).length<=l.length*115:=by
  intro l
  induction l with
  |nil=>intro _;simp[cT]
  |cons c r ih=>
   intro h;have a:=(iD (h c uG)).2.1;have b:=ih λd hd=>h d (by simp[hd]);have e:cT true (c::r)=iq true c++cT true r:=by simp[cT]
   rw[e,aEU,aFp];omega
 have h2:=h1 l h;have h3:(uv l.length).length=1:=eM qE;rw[ck];unfold dg;simp only[h3,aFm];omega
section
variable {τ:Nat} {π:PI} {st st':St} {G:GM}
def SV (τ:Nat)(π:PI)(G:GM)(key v:List UInt8)(L:List bq)(st:St)(y:CV)(st':St):Prop:=
 y=I 0/\Kp π.W st st'/\∃G2 c pc G',Wf G G2 c v pc/\c.key=key/\c.ok true/\Tg τ π st' G'/\fA G' (mR L key v)/\
  ((G.root=0/\G'=((G2.alloc).put G2.dL (.node (dg [c]))).gM G2.dL)\/∃f,mm G key f [] L/\G'=G2.put f.page (.node (dg (f.n.cells.take f.at_++([c]++f.n.cells.drop (f.at_+0))))))
def Wd (τ:Nat)(π:PI)(G:GM)(key v:List UInt8)(L:List bq)(st:St)(vs:List CV)(s:St):Prop:=
 ∃x,vs=[.ptr τ 0,.str key,.str v,x]/\Kp π.W st s/\Tg τ π s G/\
  ((G.root=0/\x=.ae)\/∃f rest k,mm G key f rest L/\rB G G key f rest L k/\rest.length<=16/\eu s π.W x (rest.reverse++[f])/\rest=[]/\k=0)
def KA (h:Tg τ π st G){L:List bq}(ht:fA G L)(key v:List UInt8)(Nq:key.length<=48)(hv8:v.length<=8192)(wP:24+cq v.length<=G.cF)(jg:fE L key=none)(Rf:∀f rest,mm G key f rest L->rest=[]/\f.n.cells.length<=2):R 11 [.ptr τ 0,.str key,.str v] st (SV τ π G key v L st):=by
 refine bP ?_;rw[w11];have eU:∀b,st.nx<=b->b∉π.all/\b≠τ:=λb hb=>⟨λhh=>Ym,λe=>Wr⟩;have mV:=h.Oc;have sV:∀q,st.nx<=q->q∉π.W:=λq hq hh=>aak
 have e0:ai .gtr none true (I key.length) (.int .i64 48) st=.ok (.bool (decide (48<key.length))) st:=zz
 have e1:ai .gtr none true (I v.length) (.int .i64 8192) st=.ok (.bool (decide (8192<v.length))) st:=zz
 have Si:∀K:CV->Prop,K (.bool (decide (48<key.length\/8192<v.length)))->us (aZ (ak false (.bool (decide (48<key.length)))) st (.ok (.str v) st)) (λx4=>us (aZ (ak false (.bool (decide (48<key.length)))) st (bo .str x4 st)) λx5=>us (aZ (ak false (.bool (decide (48<key.length)))) st (ai .gtr none true x5 (.int .i64 8192) st)) λx6=>us (aX (.bool (decide (48<key.length))) (.bool true) x6 st) K):=λK hK=>by
  by_cases LS:48<key.length
  .rw[aEV (.inl LS)]at hK;simp only[aEV LS,aG,aEM,aFa,aFh,bS,af,aF,aFm];exact hK
  .simp only[aEO LS,aG,aEM,aFa,aFf,bh,af,aF,fg,e1]
   simpa[LS]using hK
 rw[cD,af,ag,aET u7,fg,af,e0,af];refine Si _ ?_;rw[ag]
 by_cases ql:48<key.length\/8192<v.length
 .omega
 rw[aEO ql,aET u7,fg,af];refine(zk (n:=v.length) qE).same ?_;have hpN:cq v.length<=1000:=acU
 refine(EP h _ hpN).same ?_;rw[ag]
 by_cases jh:G.cF<24+cq v.length
 .omega
 rw[aEO jh,aET u7];refine(zj h ht key).mono ?_;rintro _ s3 ⟨k3,x,rfl,hx⟩;have t3:=h.still k3;have e2:∀s,ai .neq (some .int) true (I 0) (.int .i64 0) s=.ok (.bool false) s:=λs=>rfl;rw[aE,af,aN,aE,af,e2,af,ag,aET u7];refine jO (Wd τ π G key v L st) ?_ ?_
 .intro nz yT;rcases hx with⟨rM,rfl⟩|⟨f,rest,hp,vO,hst⟩
  .have e3:ai .gtr none true (.int .i64 0) (.int .i64 0) s3=.ok (.bool false) s3:=rfl;rw[pY,af,e3,af,ag,aET u7];exact yT _ _ ⟨_,rfl,k3.mono uG,t3,.inl ⟨rM,rfl⟩⟩
  .obtain⟨oO,uu,fL,lL,yU⟩:=hp.size;have JL:=hst π.W mV;have uT:(rest.reverse++[f]).length=rest.length+1:=by simp
   have hlen:=JL.len s3;rw[uT]at hlen;have e3:ai .gtr none true (I ((rest.length+1:Nat):Int)) (.int .i64 0) s3=.ok (.bool true) s3:=acF
   have e4:=vd (rest.length+1) qE qE s3 none;rw[aFY]at e4;obtain⟨vc,vk,c1,c2,gG⟩:=JL.row (i:=rest.length) uG;have hf:(rest.reverse++[f])[rest.length]'(by simp)=f:=uG
   rw[hf]at c1 c2 gG;rw[hlen,af,e3,af,ag,aEW rfl,af,e4,af];refine gG _ ?_;refine kJ c1.bE.2.1 c2.bE.2.1 ?_;have Tp:Kp [] s3 (St.new s3 (.cells [I f.page,I f.at_,.bool f.n.leaf,vc,vk] 107 false)):=(Kp.refl [] s3).new _;have ND:(St.new s3 (.cells [I f.page,I f.at_,.bool f.n.leaf,vc,vk] 107 false)).m.g s3.nx=some (.cells [I f.page,I f.at_,.bool f.n.leaf,vc,vk] 107 false):=ao _ _;generalize St.new s3 (.cells [I f.page,I f.at_,.bool f.n.leaf,vc,vk] 107 false)=iT at*;have t24:=t3.still Tp;have c24:=c1.mono (Tp.mono uG);have K24:=k3.trans Tp uG;have Mz:=JL.mono (Tp.mono uG);simp only[fl,ah,af,aB,ND,aq,aER,Nat.reduceAdd,aEN,aEL,ay,c24.len f.n.cells.length (bB _) qE iT,dC]
   by_cases hlt:f.at_<f.n.cells.length
   .rw[aEV hlt];obtain⟨b,p,l,t,g,q1,q2,q3,q4,q5⟩:=c24.cellAt (L:=f.n.cells.map aU) qE (fp _) (i:=f.at_) OZ;have q6:=q5 0 (.str f.n.cells[f.at_].key) TT;rw[aFC]at q6;simp only[aG,aFm,bh,af,gQ,hJ,ah,aB,ND,aq,aER,aFC,Nat.reduceAdd,aEN,aEL,ay,q1,q2,q6,eA,lA,aF,ag]
    by_cases hk:f.n.cells[f.at_].key=key
    .exfalso;obtain⟨lo,hi,Ll,Lr,ps,Lt,pt,Ld,pd,hA⟩:=hp.Ap;obtain⟨w,po,hv,Xk,jB,wP,uw⟩:=hA.QL ht.ok (aES hlt) hk;rw[jg]at uw;cases uw
    .rw[aEO hk,aET u7];rcases wG hp ht.ok with⟨c,hc,rh⟩|jB
     .rw[aES hlt]at hc;cases hc;exact absurd rh hk
     .exact yT _ _ ⟨_,rfl,K24.mono uG,t24,.inr ⟨f,rest,0,hp,jB,vO,Mz,(Rf f rest hp).1,rfl⟩⟩
   .rw[aEO hlt];simp only[aG,aEM,aFa,aFm,bS,af,gQ,hJ,aF,ag];rcases wG hp ht.ok with⟨c,hc,rh⟩|jB
    .obtain⟨h1,_⟩:=aFb.1 hc;exact absurd h1 hlt
    .exact yT _ _ ⟨_,rfl,K24.mono uG,t24,.inr ⟨f,rest,0,hp,jB,vO,Mz,(Rf f rest hp).1,rfl⟩⟩
 .rintro _ s4 ⟨x,rfl,K4,t4,CU⟩;simp only[aL,aM];refine(FE t4 Nq hv8 qE).mono ?_;rintro _ s5 ⟨k5,c,G2,pc,rfl,rh,vH,px,t5⟩;have n5:=k5.nx;have n4:=K4.nx;have K5:=K4.trans k5 ael;rw[aE,af,aN,aE,af];refine mH rfl rfl (fx c) ?_;have k7:Kp [] s5 (St.new s5 (.cells (aU c) 109 false)):=(Kp.refl [] s5).new _;have g7:(St.new s5 (.cells (aU c) 109 false)).m.g s5.nx=some (.cells (aU c) 109 false):=ao _ _;have n7:(St.new s5 (.cells (aU c) 109 false)).nx=s5.nx+1:=rfl;generalize St.new s5 (.cells (aU c) 109 false)=s7 at*;have t7:=t5.still k7;have K7:=K5.trans k7 uG;rw[e2,af,ag,aET u7];rcases CU with⟨rM,rfl⟩|⟨f,rest,k,hp,jB,vO,hst,ZK,aoX⟩
  .have RM:L=[]:=by
    rcases ht.tree with h|⟨hh,ps,_,hs⟩
    .exact h.2
    .obtain⟨n,q,hn,_⟩:=hs;have:=hn.bW.1;omega
   subst RM;have e3:ai .eql (some .int) true (.int .i64 0) (.int .i64 0) s7=.ok (.bool true) s7:=rfl;rw[pY,af,e3,af,ag,aEW rfl,aK (n:=4) g7 rfl,af,oz (k:=4) rfl rfl rfl,aS,aT];have k8:Kp [] s7 (St.new s7 (.cells (aU c) 109 false)):=(Kp.refl [] s7).new _;have g8:(St.new s7 (.cells (aU c) 109 false)).m.g s7.nx=some (.cells (aU c) 109 false):=ao _ _;have n8:(St.new s7 (.cells (aU c) 109 false)).nx=s7.nx+1:=rfl;generalize St.new s7 (.cells (aU c) 109 false)=s8 at*;have t8:=t7.still k8;have nD:bk [.bool false,.ae,.ae] [(0,1,.bool true),(1,1,.slice s7.nx 0 1 1 0)] s8=.ok (.agg [.bool true,.slice s7.nx 0 1 1 0,.ae]) s8:=rfl;rw[nD,af]
   have GX:IsNode s8 π.W (.agg [.bool true,.slice s7.nx 0 1 1 0,.ae]) (dg [c]):=
    ⟨_,_,rfl,.inr ⟨s7.nx,0,1,1,0,rfl,rfl,⟨aEQ _,.inl rfl⟩,.inr ⟨sV _ qE,qE,_,_,_,g8,TT,by simp[dg,bC,aU]⟩⟩,.inl ⟨rfl,rfl⟩⟩
   have JY:=px.free;obtain⟨l1,l2⟩:=GJ vH;have yC:=Mh px.ok (show 0<G2.cF from qE) l1 l2 (.inl rfl);refine(ze t8 qE GX l1 l2).mono ?_;rintro _ s9 ⟨rfl,k9,t9⟩;rw[aE,af,aN,aE,af,e2,af,ag,aET u7];refine t9.get' ?_;refine(pW t9.pg _ (.inr yC.is.bW)).mono ?_;rintro _ s10 ⟨rfl,qh,YJ⟩;refine⟨rfl,(((K7.trans k8 uG).trans k9 ael).trans qh ael),G2,c,pc,_,px,rh,vH,t9.of qh YJ,?_,.inl ⟨rM,rfl⟩⟩;have:=AW px vH yC
   rwa [rh]at this
  .obtain⟨oO,uu,fL,lL,yU⟩:=hp.size;have Pu:=hst.mono (k5.trans k7 uG);have uT:(rest.reverse++[f]).length=rest.length+1:=by simp
   have hlen:=Pu.len s7;rw[uT]at hlen;have e3:ai .eql (some .int) true (I ((rest.length+1:Nat):Int)) (.int .i64 0) s7=.ok (.bool false) s7:=Ft
   have e4:=vd (rest.length+1) qE qE s7 none;rw[aFY]at e4;obtain⟨vc,vk,c1,c2,gG⟩:=Pu.row (i:=rest.length) uG;have hf:(rest.reverse++[f])[rest.length]'(by simp)=f:=uG
   rw[hf]at c1 c2 gG
   have wN:f.n.kids=[]:=by
    have:=uu.jw;rw[fL,aEW rfl]at this;exact aFi.1 this
   rw[hlen,af,e3,af,ag,aET u7,af,e4,af];rw[fL]at gG;refine gG _ ?_;refine kJ c1.bE.2.1 c2.bE.2.1 ?_;have k8:Kp [] s7 (St.new s7 (.cells [I f.page,I f.at_,.bool true,vc,vk] 107 false)):=(Kp.refl [] s7).new _;have g8:(St.new s7 (.cells [I f.page,I f.at_,.bool true,vc,vk] 107 false)).m.g s7.nx=some (.cells [I f.page,I f.at_,.bool true,vc,vk] 107 false):=ao _ _;have n8:(St.new s7 (.cells [I f.page,I f.at_,.bool true,vc,vk] 107 false)).nx=s7.nx+1:=rfl;generalize St.new s7 (.cells [I f.page,I f.at_,.bool true,vc,vk] 107 false)=s8 at*;have g78:=(k8.keep s5.nx qE uG).trans g7
   have EH:∀K:CV->Prop,K (.agg [.bool true,vc,vk])->LW 3 2 (.ptr s7.nx 0) s8 K:=λK hK=>by
    unfold LW;rw[ah,af,gF (n:=3) g8 uG,af];exact hK
   refine EH _ ?_;refine qV c1.bE.2.1 c2.bE.2.1 ?_;have k9:Kp [] s8 (St.new s8 (.cells [.bool true,vc,vk] 105 false)):=(Kp.refl [] s8).new _;have g9:(St.new s8 (.cells [.bool true,vc,vk] 105 false)).m.g s8.nx=some (.cells [.bool true,vc,vk] 105 false):=ao _ _;have n9:(St.new s8 (.cells [.bool true,vc,vk] 105 false)).nx=s8.nx+1:=rfl;generalize St.new s8 (.cells [.bool true,vc,vk] 105 false)=s9 at*;have g89:=(k9.keep s7.nx qE uG).trans g8;have g79:=(k9.keep s5.nx qE uG).trans g78;have k79:=k8.trans k9 uG;rw[fl,ah,af,aB,g9,aq];simp only[aER,aEN,aEL,ay];refine(tW ((c1.dW (Y:=[]) uG).mono (k79.mono uG)) (dS _) Yk).mono ?_;rintro xc gY ⟨F1,xJ,o1,Ki,_⟩;have n15:=xJ.nx;have g15:=(xJ.keep s8.nx qE uG).trans g9;have aaR:=(xJ.keep s7.nx qE uG).trans g89;have aaS:=(xJ.keep s5.nx qE uG).trans g79;obtain⟨UJ,Qm⟩:=o1.cE;have qk:bD [.bool true,vc,vk] 1 [xc]=[.bool true,xc,vk]:=rfl;rw[Lim.fst,ah,af,aJ,g15,aW,Qm,aER,qk];refine⟨⟨rfl,by simp[UJ],uG⟩,?_⟩;have xK:Kp [] s7 (St.set gY s8.nx (.cells [.bool true,xc,vk] 105 false)):=(k79.trans xJ uG).set _ (.inr qE) qE;have Iy:(St.set gY s8.nx (.cells [.bool true,xc,vk] 105 false)).m.g s8.nx=some (.cells [.bool true,xc,vk] 105 false):=ar _ _ _;have RY:(St.set gY s8.nx (.cells [.bool true,xc,vk] 105 false)).m.g s7.nx=_:=(al _ _ _ _ qE).trans aaR;have Ke:(St.set gY s8.nx (.cells [.bool true,xc,vk] 105 false)).m.g s5.nx=_:=(al _ _ _ _ qE).trans aaS;have n16:(St.set gY s8.nx (.cells [.bool true,xc,vk] 105 false)).nx=gY.nx:=rfl;have pO:∀b∈F1,s8.nx<b/\b<gY.nx:=λb hb=>acs
   have YQ:Own (St.set gY s8.nx (.cells [.bool true,xc,vk] 105 false)) xc 4 109 (bC f.n.cells) F1:=o1.mono λb hb=>acy
   generalize St.set gY s8.nx (.cells [.bool true,xc,vk] 105 false)=bU at*;have K16:=K7.trans xK uG;have t16:=t7.still xK;have alI:=Pu.mono (xK.mono uG);have als:Sl bU π.W vk 1 (cJ []):=acm
   refine jO (λvs s=>∃Yr Yo,vs=[.ptr τ 0,x,.ptr s8.nx 0]/\Kp π.W st s/\Tg τ π s G2/\eu s π.W x (rest.reverse++[f])/\s.m.g s8.nx=some (.cells [.bool true,Yr,Yo] 105 false)/\IsNode s π.W (.agg [.bool true,Yr,Yo]) (dg (f.n.cells.take f.at_++([c]++f.n.cells.drop (f.at_+k))))) ?_ ?_
   .intro k41 Rn;have Pz:Sl bU [] xc 4 (f.n.cells.map aU).flatten:=YQ.sl λb hb=>⟨uG,Mr⟩;simp only[fl,ah,af,aB,Iy,RY,aq,aER,aEN,aEL,ay,Pz.len f.n.cells.length (bB _) qE bU,dC]
    have Ro:k=0->R 51 [xc,I f.at_,.slice bU.nx 0 1 1 0] (St.new bU (.cells (aU c) 109 false)) λlJ fR=>Lim.fst 1 1 (.ptr s8.nx 0) lJ fR λtF=>k41 [.ptr τ 0,x,.ptr s8.nx 0] tF:=by
     intro LM;have kA:Kp [] bU (St.new bU (.cells (aU c) 109 false)):=(Kp.refl [] bU).new _;have gA:(St.new bU (.cells (aU c) 109 false)).m.g bU.nx=some (.cells (aU c) 109 false):=ao _ _;have nA:(St.new bU (.cells (aU c) 109 false)).nx=bU.nx+1:=rfl;generalize St.new bU (.cells (aU c) 109 false)=sA at*;have oA:=YQ.keep kA λb hb=>⟨Mr,uG⟩;refine(Ay oA (bB _) qE (λb hb=>Mr) gA (λhh=>aap) rfl (dS _) (fx _) yU).mono ?_;rintro lJ fR ⟨F2,o2,Nb,fF2⟩;have n21:=Nb.nx;have QT:s8.nx∉F1:=λhh=>aap
     have g21:=((Nb.keep s8.nx qE QT).trans (kA.keep s8.nx qE uG)).trans Iy;obtain⟨oe1,oe2⟩:=o2.cE;have kx:bD [.bool true,xc,vk] 1 [lJ]=[.bool true,lJ,vk]:=rfl;rw[Lim.fst,ah,af,aJ,g21,aW,oe2,aER,kx];refine⟨⟨rfl,by simp[oe1],uG⟩,?_⟩
     have rI:∀b∈F2,s8.nx<b/\b<fR.nx:=λb hb=>by
      obtain⟨p1,p2⟩:=fF2 b hb;refine⟨?_,p2⟩;rcases p1 with h|h
      .have:=(pO b h).1;omega
      .omega
     have A0:(bC f.n.cells).take (f.at_*4)++(aU c++(bC f.n.cells).drop (f.at_*4))=bC (dg (f.n.cells.take f.at_++([c]++f.n.cells.drop (f.at_+k)))).cells:=by
      rw[jQ _ _ yU,jR _ _ yU,LM];show _=bC (f.n.cells.take f.at_++c::f.n.cells.drop f.at_);rw[gE]
      congr 1
     rw[A0]at o2;have o22:Own (St.set fR s8.nx (.cells [.bool true,lJ,vk] 105 false)) lJ 4 109 (bC (dg (f.n.cells.take f.at_++([c]++f.n.cells.drop (f.at_+k)))).cells) F2:=o2.mono λb hb=>acz
     have Es:Kp [] s7 (St.set fR s8.nx (.cells [.bool true,lJ,vk] 105 false)):=((xK.trans kA uG).trans Nb λq hq=>.inr adW).set _ (.inr qE) qE;have aev:Kp (s8.nx::F1) bU (St.set fR s8.nx (.cells [.bool true,lJ,vk] 105 false)):=((kA.mono uG).trans Nb λq hq=>.inl TN).set _ (.inl uG) qE;have VI:(St.set fR s8.nx (.cells [.bool true,lJ,vk] 105 false)).m.g s8.nx=some (.cells [.bool true,lJ,vk] 105 false):=ar _ _ _;have n22:(St.set fR s8.nx (.cells [.bool true,lJ,vk] 105 false)).nx=fR.nx:=rfl;generalize St.set fR s8.nx (.cells [.bool true,lJ,vk] 105 false)=tF at*;have Yp:Sl tF π.W vk 1 (cJ []):=acn
     exact Rn _ _ ⟨lJ,vk,rfl,K7.trans Es uG,t7.still Es,Pu.mono (Es.mono uG),VI,lJ,vk,rfl,o22.sl λb hb=>⟨sV b Im,Im⟩,Yp⟩
    by_cases hlt:f.at_<f.n.cells.length
    .rw[aEV hlt];obtain⟨b,p,l,t,g,q1,q2,q3,q4,q5⟩:=Pz.cellAt qE (fp _) (i:=f.at_) OZ;have q6:=q5 0 (.str f.n.cells[f.at_].key) TT;rw[aFC]at q6;simp only[aG,aFm,bh,af,gQ,hJ,ah,aB,Iy,RY,aq,aER,aFC,aEN,aEL,ay,q1,q2,q6,eA,lA,aF,ag]
     by_cases hk:f.n.cells[f.at_].key=key
     .rw[aEV hk,aEW rfl,aK (n:=4) Ke rfl,af]
      have pP:k=1:=by
       rcases jB.found with⟨h,_⟩|⟨_,_,h⟩
       .exact h
       .exact absurd hk (h _ (aES hlt))
      obtain⟨bc,rfl,wS,aaO⟩:=kZ YQ qE (bB _) qE;have hbc:=pO bc (by simp[wS])
      have Xx:cc 4 (.slice bc 0 f.n.cells.length f.n.cells.length 4) (I f.at_) bU=.ok (.ptr bc (f.at_*4)) bU:=by
       have:=fO (size:=4) (off:=0) (cap:=f.n.cells.length) (grow:=4) hlt (.inr (aEQ _)) bU (b:=bc)
       rwa [aER]at this
      have QY:bD (bC f.n.cells) (f.at_*4) (aU c)=bC (dg (f.n.cells.take f.at_++([c]++f.n.cells.drop (f.at_+k)))).cells:=by
       unfold bC;rw[tO (fp _) _ OZ _ rfl,pP];unfold dg;rw[aGF,aEW OZ];simp[aGx,aGl]
      unfold Ew;rw[Xx,af,aJ,aaO,aW,aT,QY];refine⟨⟨rfl,rfl,Yk⟩,?_⟩;have Et:Kp [] s7 (St.set bU bc (.cells (bC (dg (f.n.cells.take f.at_++([c]++f.n.cells.drop (f.at_+k)))).cells) 109 true)):=xK.set _ (.inr qE) qE;have aaN:(St.set bU bc (.cells (bC (dg (f.n.cells.take f.at_++([c]++f.n.cells.drop (f.at_+k)))).cells) 109 true)).m.g bc=some (.cells (bC (dg (f.n.cells.take f.at_++([c]++f.n.cells.drop (f.at_+k)))).cells) 109 true):=ar _ _ _;have NF:(St.set bU bc (.cells (bC (dg (f.n.cells.take f.at_++([c]++f.n.cells.drop (f.at_+k)))).cells) 109 true)).m.g s8.nx=_:=(al _ _ _ _ qE).trans Iy;have n17:(St.set bU bc (.cells (bC (dg (f.n.cells.take f.at_++([c]++f.n.cells.drop (f.at_+k)))).cells) 109 true)).nx=bU.nx:=rfl;generalize St.set bU bc (.cells (bC (dg (f.n.cells.take f.at_++([c]++f.n.cells.drop (f.at_+k)))).cells) 109 true)=jd at*;have Sk:(dg (f.n.cells.take f.at_++([c]++f.n.cells.drop (f.at_+k)))).cells.length=f.n.cells.length:=by unfold dg;simp;omega
      have Yq:Sl jd π.W vk 1 (cJ []):=aco
      exact Rn _ _ ⟨_,vk,rfl,K7.trans Et uG,t7.still Et,Pu.mono (Et.mono uG),NF,_,vk,rfl,.inr ⟨bc,0,_,_,4,rfl,by rw[bB,Sk],⟨aEQ _,.inr rfl⟩,.inr ⟨sV _ qE,qE,_,_,_,aaN,abM,abP⟩⟩,Yq⟩
     .rw[aEO hk,aET u7,aK (n:=4) Ke rfl,af,oz (k:=4) rfl rfl rfl,aS,aT];refine Ro ?_;rcases jB.found with⟨_,c',nL,RA⟩|⟨h,_⟩
      .rw[aES hlt]at nL;cases nL;exact absurd RA hk
      .exact h
    .rw[aEO hlt];simp only[aG,aEM,aFa,aFm,bS,af,gQ,hJ,aF,ag];rw[aK (n:=4) Ke rfl,af,oz (k:=4) rfl rfl rfl,aS,aT];refine Ro ?_;rcases jB.found with⟨_,c',nL,RA⟩|⟨h,_⟩
     .obtain⟨h1,_⟩:=aFb.1 nL;exact absurd h1 hlt
     .exact h
   .rintro _ jd ⟨Yr,Yo,rfl,K17,t17,Yy,NF,JB⟩;simp only[aL,aM];obtain⟨gg,gs⟩:=jB.put px rh vH;refine fH (n:=dg (f.n.cells.take f.at_++([c]++f.n.cells.drop (f.at_+k)))) NF ?_;have wO:=(Rf f rest hp).2;subst ZK;subst aoX
    have hs5:(dg (f.n.cells.take f.at_++([c]++f.n.cells.drop (f.at_+0)))).size<=512:=by
     refine I6 (λd hd=>?_) (by simp only[aEU,aFc,aFn,aFp,aGu];omega);rcases aEY.1 hd with hd|hd
     .have:=uu.cell d (aFz hd);rwa [fL]at this
     .rcases aEY.1 hd with hd|hd
      .have:d=c:=by simpa using hd
       rw[this];exact vH
      .have:=uu.cell d (aFF hd);rwa [fL]at this
    refine(Kj t17 gg rfl (by unfold dg;simp) hs5 Yy JB).mono ?_;rintro _ dp ⟨rfl,Oq,t18,o18⟩;exact⟨rfl,K17.trans Oq ael,G2,c,pc,_,px,rh,vH,t18,o18,.inr ⟨f,hp,rfl⟩⟩
end
section
variable {τ:Nat} {π:PI} {st st':St} {G:GM}
end
