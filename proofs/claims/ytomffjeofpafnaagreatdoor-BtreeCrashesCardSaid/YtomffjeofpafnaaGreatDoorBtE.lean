import Derived.Test.YtomffjeofpafnaaGreatDoorBtD
namespace Lim
open Go
noncomputable section
set_option linter.defProp false
set_option maxRecDepth 100000
section
variable {x:CV}{X:List Nat}{s:St}{p:Nat}{l:List CV}{ty:TypeId}{g:Bool}{K:CV->Prop}{vc:CV}{n:bg}{i:Nat}
def tT (fr to:cn)(x:bt):Bool:= !decide (eD x.1 fr)&&(decide (to=[])||decide (eD x.1 to))
def hU (p:bt):List CV:=[.str p.1,.str p.2]
def bV (L:List bt):List CV:=(L.map hU).flatten
def dF (L:List bt):(bV L).length=L.length*2:=by unfold bV;rw[fB (w:=2) (by intro x hx;obtain⟨c,_,rfl⟩:=aDR.1 hx;rfl)];simp
def j9 (a b:List bt):bV (a++b)=bV a++bV b:=by simp[bV]
structure Acc (st:St)(b:Nat)(A:List bt)(F:List Nat)(x:CV):Prop where
 get:st.m.g b=some (.cells [x] 37 false)
 lt:b<st.nx
 own:Own st x 2 41 (bV A) F
 F:∀q∈F,q<st.nx/\q≠b
def Acc.keep {st st':St}{b:Nat}{A:List bt}{F:List Nat}(h:Acc st b A F x)(hk:Kp X st st')(hb:b∉X)(hx:∀q∈F,q∉X):Acc st' b A F x:=
 ⟨(hk.keep b h.lt hb).trans h.get,aDM h.lt hk.nx,h.own.keep hk λq hq=>⟨(h.F q hq).1,hx q hq⟩,λq hq=>⟨aDM (h.F q hq).1 hk.nx,(h.F q hq).2⟩⟩
def aqM (b:Nat)(F:List Nat)(A:List bt)(st:St)(y:CV)(st':St):Prop:=y=I 0/\Kp (b::F) st st'/\∃x' F',Acc st' b A F' x'/\∀q∈F',q∈F\/st.nx<=q
section
variable {τ:Nat} {π:PI} {st st':St} {G:GM} {fr to:cn}
def aqs (hg:s.m.g p=some (.cells (x::l) ty g))(hK:K x):us (aB (.ptr p 0) s) K:=by
 rw[aC,hg,ar];exact hK
def QS {key:cn}{v:List UInt8}(hg:s.m.g p=some (.cells (.str key::l) ty g))(hK:K (.bool (!tT fr to (key,v)))):
 us (ai .lss none false (.str key) (.str fr) s) λef=>us (aX (ak false ef) s (.ok (.str to) s)) λdO=>us (aX (ak false ef) s (ai .neq (some .str) true dO (.str []) s)) λew=>us (aX (ak false ef) s (.ok ew s)) λeg=>
  jV (ak true eg) 0 (.ptr p 0) s λeh=>us (aX (ak true eg) s (.ok (.str to) s)) λeB=>us (aX (ak true eg) s (ai .geq none false eh eB s)) λdP=>us (aX (ak false ef) s (bf eg dP (.bool false) s)) λeV=>us (bf ef (.bool true) eV s) K:=by
 rw[dY,zs,af];unfold tT at hK
 by_cases h1:eD key fr
 .simp only[h1,aEq,aDJ,Bool.false_and,aDI]at hK;simp only[aDz h1,aL,aDp,aDE,aDJ,cH,af,jV,aJ,aDQ,ry];exact hK
 .simp only[aDr h1,aDI,Bool.true_and]at hK;simp only[aDr h1,aL,aDp,aDE,aDI,bp,af,dY,lH]
  by_cases h2:to=[]
  .simp only[h2,aEq,Bool.true_or,aDJ]at hK;simp only[h2,aEq,aDJ,aDQ,cH,af,jV,aJ,aDp,aDE];exact hK
  .simp only[aDr h2,Bool.false_or]at hK;simp only[aDr h2,aDI,aDQ,bp,af,jV,aJ,ah,aC,hg,ar,aDx,aDo,az,dY,rI,aDp,aDE];have:decide (kh to key)= !decide (eD key to):=by unfold kh;by_cases h:eD key to<;>simp[h]
   rw[this];exact hK
def UO (n:bg)(fr to:cn)(i:Nat):Prop:=(∃c,n.cells[i]?=some c/\kh c.key fr)\/(0<i/\to≠[]/\∃c,n.cells[i-1]?=some c/\kh to c.key)
def Uu (c:Sl s X vc 4 (bG n.cells))(hi:i<n.cells.length)(hK:K (.str n.cells[i].key)):fA (some true) 4 0 vc (I i) s K:=by
 obtain⟨b,p,l,t,g,q1,q2,q3,q4,q5⟩:=c.cellAt (L:=n.cells.map aZ) pX (fM _) (i:=i) Wv;have q6:=q5 0 (.str n.cells[i].key) aaq;rw[aEb]at q6;simp only[bp,af,fA,ah,aC,ar,aEb,q1,q2,q6,az];exact hK
def OZ {lf:CV}{vk:CV}(g:s.m.g p=some (.cells [lf,vc,vk] 105 false))(c:Sl s X vc 4 (bG n.cells))(qC:n.cells.length<=512)(hi:i<=n.cells.length)(hT:UO n fr to i->K (.bool true))(hF:¬UO n fr to i->K (.bool false)):
 fl 1 (.ptr p 0) s λpS=>us (bj .slice pS s) λvh=>us (ai .lss none false (I i) vh s) λpV=>jV (ak true pV) 1 (.ptr p 0) s λvg=>us (aX (ak true pV) s (.ok (I i) s)) λre=>
  fA (ak true pV) 4 0 vg re s λqO=>us (aX (ak true pV) s (.ok (.str fr) s)) λsM=>us (aX (ak true pV) s (ai .leq none false qO sM s)) λtH=>us (bf pV tH (.bool false) s) λov=>
  us (aX (ak false ov) s (.ok (I i) s)) λtV=>us (aX (ak false ov) s (ai .gtr none true tV (.int .i64 0) s)) λmN=>us (aX (ak false ov) s (.ok mN s)) λlS=>us (aX (ak true lS) s (.ok (.str to) s)) λtG=>
  us (aX (ak true lS) s (ai .neq (some .str) true tG (.str []) s)) λoz=>us (aX (ak false ov) s (bf lS oz (.bool false) s)) λvf=>us (aX (ak false ov) s (.ok vf s)) λlW=>jV (ak true lW) 1 (.ptr p 0) s λwE=>
  us (aX (ak true lW) s (.ok (I i) s)) λwD=>us (aX (ak true lW) s (ai .sub none true wD (.int .i64 1) s)) λyp=>fA (ak true lW) 4 0 wE yp s λuZ=>us (aX (ak true lW) s (.ok (.str to) s)) λrp=>
  us (aX (ak true lW) s (ai .geq none false uZ rp s)) λEo=>us (aX (ak false ov) s (bf lW Eo (.bool false) s)) λAH=>us (bf ov (.bool true) AH s) K:=by
 have hlen:=c.len n.cells.length (bM _) pX s;have aez:∀(j:Nat) (hj:j<n.cells.length) (K:CV->Prop),K (.str n.cells[j].key)->fA (some true) 4 0 vc (I j) s K:=λj hj K hK=>Uu c hj hK;rw[fl,ah,af,aC,g,ar];simp only[aDx,aDq,aDo,az,hlen,af,dq]
 have afq:¬(∃c,n.cells[i]?=some c/\kh c.key fr)->us (ai .gtr none true (I i) (.int .i64 0) s) λmN=>us (.ok mN s) λlS=>us (aX (ak true lS) s (.ok (.str to) s)) λtG=>
  us (aX (ak true lS) s (ai .neq (some .str) true tG (.str []) s)) λoz=>us (bf lS oz (.bool false) s) λvf=>us (.ok vf s) λlW=>jV (ak true lW) 1 (.ptr p 0) s λwE=>
  us (aX (ak true lW) s (.ok (I i) s)) λwD=>us (aX (ak true lW) s (ai .sub none true wD (.int .i64 1) s)) λyp=>fA (ak true lW) 4 0 wE yp s λuZ=>us (aX (ak true lW) s (.ok (.str to) s)) λrp=>
  us (aX (ak true lW) s (ai .geq none false uZ rp s)) λEo=>us (bf lW Eo (.bool false) s) λAH=>us (bf (.bool false) (.bool true) AH s) K:=λqY=>by
  have e0:ai .gtr none true (I i) (.int .i64 0) s=.ok (.bool (decide (0<i))) s:=AS
  rw[e0,af,af]
  by_cases h0:0<i
  .simp only[aDz h0,aL,aDQ,bp,af,dY,lH,aJ]
   by_cases h2:to=[]
   .simp only[h2,aEq,aDJ,cH,af,jV,fA,aDp,aDE]
    exact hF λh=>by
     rcases h with h|h
     .exact qY h
     .exact h.2.1 h2
   .simp only[aDr h2,aDI,aDQ,bp,af,jV,ah,aC,g,ar,aDx,aDq,aDo,az,yR i pX h0];have hj:i-1<n.cells.length:=by omega
    refine aez (i-1) hj _ ?_;simp only[dY,rI,af,aDp,aDE]
    by_cases h3:kh to n.cells[i-1].key
    .rw[aDz h3];exact hT (.inr ⟨h0,h2,_,aDu hj,h3⟩)
    .rw[aDr h3]
     exact hF λh=>by
      rcases h with h|⟨_,_,c',oZ,h⟩
      .exact qY h
      .rw[aDu hj]at oZ;cases oZ;exact h3 h
  .simp only[aDr h0,aL,aDQ,cH,af,jV,fA,aJ,aDp,aDE]
   exact hF λh=>by
    rcases h with h|h
    .exact qY h
    .exact h0 h.1
 by_cases h1:i<n.cells.length
 .simp only[aDz h1,aL,aDQ,bp,af,jV,ah,aC,g,ar,aDx,aDq,aDo,az];refine aez i h1 _ ?_;simp only[dY,OF,af,aJ,aDQ]
  by_cases h2:kh n.cells[i].key fr
  .simp only[aDz h2,aL,aDp,aDE,aDJ,cH,af,aDQ,ry,fA];exact hT (.inl ⟨_,aDu h1,h2⟩)
  .have:=afq λ⟨c',oZ,h⟩=>by rw[aDu h1]at oZ;cases oZ;exact h2 h
   simp only[aDr h2,aL,aDp,aDE,aDI,bp];simp only[jV,ah,af,aDx]at this⊢;exact this
 .have:=afq λ⟨c',oZ,h⟩=>by rw[aEl pX]at oZ;cases oZ
  simp only[aDr h1,aL,aDQ,cH,af,jV,fA,aJ,aDp,aDE,aDI,bp];simp only[jV,fA,ah,af,aDx]at this⊢;exact this
def HN:∀(m h:Nat),h=m->∀{st:St} {G:GM} {page dep b:Nat} {lo:cn} {hi:Option cn} {Ls A:List bt} {ps F:List Nat} {ax:CV},Tg τ π st G->Sub G h page lo hi Ls ps->dep+h<=20->Acc st b A F ax->(∀q∈b::F,q∉π.all/\q≠τ)->A.length+Ls.length<=50000000->
 R 55 [.ptr τ 0,I page,I dep,.str fr,.str to,.ptr b 0] st (aqM b F (A++Ls.filter (tT fr to)) st):=by
 intro m
 induction m using Nat.strongRecOn with
 |_ m ih=>
  intro h hm st G page dep b lo hi Ls A ps F ax ht hs ayU PZ hX hlen;obtain⟨n,q,hn,lz,rfl⟩:=hs;refine bN ?_;rw[w55];refine(yP ht hn).mono ?_;rintro _ s1 ⟨xn,rfl,k1,hxn⟩
  have hbF:∀q∈b::F,q<st.nx:=by
   intro q hq;rcases aDs.1 hq with rfl|hq
   .exact PZ.lt
   .exact(PZ.F q hq).1
  obtain⟨vc,vk,rfl,c1,c2⟩:=hxn (b::F) hbF;rw[aD,af,aG,aD,af];refine sZ c1.bD.2.1 c2.bD.2.1 ?_;have k3:Kp [] s1 (St.new s1 (.cells [.bool n.leaf,vc,vk] 105 false)):=(Kp.refl [] s1).new _;have g3:(St.new s1 (.cells [.bool n.leaf,vc,vk] 105 false)).m.g s1.nx=some (.cells [.bool n.leaf,vc,vk] 105 false):=aw _ _;have n3:(St.new s1 (.cells [.bool n.leaf,vc,vk] 105 false)).nx=s1.nx+1:=rfl;generalize St.new s1 (.cells [.bool n.leaf,vc,vk] 105 false)=s3 at*;have K3:=k1.trans k3 rq;have K3n:=K3.nx;have k1n:=k1.nx;have t3:=ht.still K3;have agD:=PZ.keep K3 rq rq;have ZX:=c1.mono (k3.mono rq);have c23:=c2.mono (k3.mono rq);have e2:∀s,ai .neq (some .int) true (I 0) (.int .i64 0) s=.ok (.bool false) s:=λs=>rfl
  have qC:n.cells.length<=512:=by
   have:=eT n.leaf n.cells;have:=hn.size;rw[cc]at this;omega
  rw[e2,af,ag,aDv wI];rw[fl,ah,af,aC,g3,ar];simp only[aDx,aDo,az,ag];cases h with
  |zero=>
   obtain⟨fY,hlt,Zb,mR⟩:=(show FT G n lo hi Ls q from lz);rw[fY,aDy rfl];have YN:=ZX.len n.cells.length (bM _) pX s3;simp only[cK,aH,aI,fl,ah,af,aC,g3,ar,aDx,aDq,aDo,az,YN];refine bK (λfu vs s=>∃i A' F' x' Li pi,fu+i=n.cells.length/\vs=[.ptr τ 0,.str fr,.str to,.ptr b 0,vc,I n.cells.length,I i]/\Kp (b::F) s3 s/\Acc s b A' F' x'/\(∀q∈F',q∈F\/s3.nx<=q)/\eU G (n.cells.drop i) Li pi/\A'++Li.filter (tT fr to)=A++Ls.filter (tT fr to)/\A'.length+Li.length<=50000000) ?_ (n:=n.cells.length) ⟨0,A,F,ax,Ls,q,rfl,rfl,Kp.refl _ _,agD,adt,Zb,rfl,hlen⟩;rintro fu vs s k ⟨i,A',F',x',Li,pi,hi,rfl,hk,acc,nz,RK,HI,mZ⟩ next;simp only[aH,aI,dq,af,ag]
   by_cases hc:i<n.cells.length
   .rw[aDz hc,aDy rfl];refine(ZX.mono hk).iH (L:=n.cells.map aZ) pX (fM _) Hw _ ?_;have e:(n.cells.map aZ)[i]'(by simpa using hc)=aZ n.cells[i]:=by simp
    rw[e];refine ud rfl rfl (gz _) ?_;have k7:Kp [] s (St.new s (.cells (aZ n.cells[i]) 109 false)):=(Kp.refl _ s).new _;have g7:(St.new s (.cells (aZ n.cells[i]) 109 false)).m.g s.nx=some (.cells [.str n.cells[i].key,.str n.cells[i].value,I n.cells[i].dR,I n.cells[i].size] 109 false):=aw _ _;have n7:(St.new s (.cells (aZ n.cells[i]) 109 false)).nx=s.nx+1:=rfl;generalize St.new s (.cells (aZ n.cells[i]) 109 false)=s7 at*;have agC:=acc.keep k7 rq rq;have qA:=hk.nx;rw[aDN hc]at RK;obtain⟨v,p1,L2,p2,hval,afb,rfl,rfl⟩:=RK
    have ho:n.cells[i].ok true:=by
     have:=hn.ok.cell _ (aDL hc)
     rwa [fY]at this
    refine aqs g7 ?_;refine QS (v:=v) g7 ?_;simp only[ag];cases hb:tT fr to (n.cells[i].key,v)with
    |false=>
     rw[aDI,aDy rfl,gT i pX,af];rw[aEK,hb,aDv wI]at HI;exact next (fu-1) _ _ pX ⟨i+1,A',F',x',L2,p2,pX,rfl,hk.trans k7 rq,agC,nz,afb,HI,by simp at mZ;omega⟩
    |true=>
     rw[aDJ,aDv wI];rw[aEK,hb,aDy rfl]at HI
     have hX':∀q∈b::F',q∉π.all/\q≠τ:=by
      intro q hq;rcases aDs.1 hq with rfl|hq
      .exact hX _ rq
      .rcases nz q hq with h|h
       .exact hX _ WE
       .exact⟨λhh=>by have:=ht.pg.lt q hh;omega,λe=>abA⟩
     have ts:=(t3.vV hk hX).still k7;rw[aR (n:=4) g7 rfl,af];refine(EG ts ho hval).mono ?_;rintro _ s8 ⟨rfl,k8⟩;have n8:=k8.nx;have Ra:=agC.keep k8 rq rq;have g8:=(k8.keep s.nx pX rq).trans g7;rw[aD,af,aG,aD,af,e2,af,ag,aDv wI,bA];have ks:=(Kp.refl [] s8).skip;have Y1:=k8.fresh ts.fr;have jd:(St.skip s8).m.g s8.nx=none:=Y1 _ (aDt _);have nsk:(St.skip s8).nx=s8.nx+1:=rfl;have Hk:=Ra.keep ks rq rq;have gk:(St.skip s8).m.g s.nx=_:=g8;generalize St.skip s8=sk at*;have mR:bu [.str [],.str []] [(0,1,.str n.cells[i].key),(1,1,.str v)] sk=.ok (.agg (hU (n.cells[i].key,v))) sk:=rfl;have azj:A'.length<=50000000:=pX
     have gkb:=Hk.get;rw[br,af,aC,gkb,ar];simp only[aDo,az];rw[ah,af,aC,gk,ar];simp only[aDx,aDo,az];rw[mR,af];refine Ei 32 Hk.own pX (λq hq=>⟨(Hk.F q hq).1,by have:=(Ra.F q hq).1;omega⟩) pX jd rfl rfl rfl rfl (by rw[dF];omega) ?_;intro v' dp F2 o2 rn vd;have LR:=rn.nx;have aul:=Ra.lt
     have aoQ:b∉s8.nx::F':=by
      intro hh;rcases aDs.1 hh with h|h
      .omega
      .exact(Ra.F b h).2 rfl
     have apR:=(rn.keep b Hk.lt aoQ).trans Hk.get;obtain⟨Xw,SV⟩:=o2.ck;have kq:bo [x'] 0 [v']=[v']:=rfl;have apv:(St.set sk s8.nx (.cells (CV.agg (hU (n.cells[i].key,v))).cA 41 false)).m.g b=some (.cells [x'] 37 false):=(al _ _ _ _ pX).trans Hk.get;have afP:(St.set sk s8.nx (.cells (CV.agg (hU (n.cells[i].key,v))).cA 41 false)).m.g s.nx=_:=(al _ _ _ _ pX).trans gk;rw[br,af,aF,apR,aS,SV,kq,aC,apv,ar,aC,afP,ar];refine⟨⟨rfl,by simp[Xw],rq⟩,⟨⟨rfl,adu⟩,⟨rfl,adu⟩,adu⟩,⟨adu,adu⟩,?_⟩;rw[gT i pX,af]
     have yn:∀q∈F2,(q∈F\/s3.nx<=q)/\q<dp.nx/\q≠b:=λq hq=>by
      obtain⟨a1,a2⟩:=vd q hq;refine⟨?_,a2,?_⟩
      .rcases a1 with h|h
       .exact nz q h
       .right;omega
      .rcases a1 with h|h
       .exact(Ra.F q h).2
       .intro e;omega
     have alP:=(((hk.trans k7 rq).trans k8 rq).trans ks rq).trans rn λq hq=>by
      rcases aDs.1 hq with rfl|hq
      .right;omega
      .exact(nz q hq).imp (λh=>WE) id
     refine next (fu-1) _ _ pX ⟨i+1,A'++[(n.cells[i].key,v)],F2,v',L2,p2,pX,rfl,alP.set _ (.inl rq) (by have:=Hk.lt;omega),⟨aq _ _ _,by have:=Hk.lt;simp;omega,?_,λq hq=>⟨(yn q hq).2.1,(yn q hq).2.2⟩⟩,λq hq=>(yn q hq).1,afb,?_,?_⟩
     .have e:bV A'++(CV.agg (hU (n.cells[i].key,v))).cA=bV (A'++[(n.cells[i].key,v)]):=by rw[j9];rfl
      rw[e]at o2;exact o2.mono λq hq=>al _ _ _ _ (yn q hq).2.2
     .rw[<-HI];simp
     .simp at mZ⊢;omega
   .rw[aDr hc,aDv wI];have I3:n.cells.drop i=[]:=aEa pX;rw[I3]at RK;obtain⟨rfl,_⟩:=(show Li=[]/\pi=[]from RK);simp only[List.filter_nil,aEs]at HI;refine⟨rfl,(K3.mono rq).trans hk adt,x',F',by rw[<-HI];exact acc,λq hq=>(nz q hq).imp id λh=>pX⟩
  |succ h=>
   obtain⟨fY,vY⟩:=(show O8 (Sub G h) n lo hi Ls q from lz);rw[fY,aDv wI];have e40:ai .eql (some .int) true (I dep) (.int .i64 40) s3=.ok (.bool false) s3:=R6
   rw[e40,af,ag,aDv wI];have qA:=hn.ok.jA;rw[fY,aDv wI]at qA;have zV:=c23.len n.kids.length rq pX s3;rw[cK];simp only[aH,aI];rw[fl,ah,af,aC,g3,ar];simp only[aDx,aDq,aDo,az];rw[zV,af]
   refine bK (λfu vs s=>∃i A' F' x' Li pi,fu+i=n.kids.length/\vs=[.ptr τ 0,I dep,.str fr,.str to,.ptr b 0,.ptr s1.nx 0,vk,I n.kids.length,I i]/\Kp (b::F) s3 s/\Acc s b A' F' x'/\(∀q∈F',q∈F\/s3.nx<=q)/\
    ((i=n.kids.length/\Li=[])\/∃loi,bZ (Sub G h) (n.kids.drop i) (n.fh.drop i) loi hi Li pi/\∀c,0<i->n.cells[i-1]?=some c->c.key=loi)/\A'++Li.filter (tT fr to)=A++Ls.filter (tT fr to)/\A'.length+Li.length<=50000000) ?_ (n:=n.kids.length)
    ⟨0,A,F,ax,Ls,q,rfl,rfl,Kp.refl _ _,agD,adt,.inr ⟨lo,by rw[aDX,aDX];exact vY,λc h0=>absurd h0 (Nat.lt_irrefl 0)⟩,rfl,hlen⟩
   rintro fu vs s k ⟨i,A',F',x',Li,pi,ff,rfl,hk,acc,nz,KA,HI,mZ⟩ next;simp only[aH,aI];rw[dq,af,ag];have mc:=hk.nx
   by_cases hc:i<n.kids.length
   .rw[aDz hc,aDy rfl];rcases KA with⟨he,_⟩|⟨loi,xV,ans⟩
    .omega
    have ci:=ZX.mono hk;have di:=c23.mono hk;have gi:=(hk.keep s1.nx pX (λhh=>by have:=hbF _ hh;omega)).trans g3;refine di.idx (i:=i) Hw _ ?_;have e9:(cF n.kids)[i]'(by simpa using hc)=I n.kids[i]:=by simp[cF]
    rw[e9]
    have aoe:∃Gx L1 p1 L2 p2,Sub G h n.kids[i] loi Gx L1 p1/\Li=L1++L2/\(∀c,n.cells[i]?=some c->Gx=some c.key)/\((i+1=n.kids.length/\L2=[])\/∃acK,bZ (Sub G h) (n.kids.drop (i+1)) (n.fh.drop (i+1)) acK hi L2 p2/\∀c,0<i+1->n.cells[i+1-1]?=some c->c.key=acK):=by
     rw[aDN hc]at xV
     by_cases hl:i<n.fh.length
     .rw[aDN hl]at xV;obtain⟨L1,p1,L2,p2,a,b',rfl,rfl⟩:=bZ.cons.1 xV
      have adE:∀c,n.cells[i]?=some c->c.key=n.fh[i]:=λc oZ=>by
       obtain⟨h1,h2⟩:=aDD.1 oZ;simp[bg.fh,h2]
      exact⟨_,L1,p1,L2,p2,a,rfl,λc oZ=>by rw[adE c oZ],.inr ⟨_,b',λc _ oZ=>adE c (by simpa using oZ)⟩⟩
     .rw[aEa (show n.fh.length<=i from pX)]at xV;obtain⟨he,hS⟩:=bZ.one.1 xV;rw[jZ]at hl;exact⟨_,Li,pi,[],[],hS,rq,λc oZ=>(by rw[aEl pX]at oZ;cases oZ),.inl ⟨pX,rfl⟩⟩
    obtain⟨Gx,L1,p1,L2,p2,hS,rfl,anS,Vf⟩:=aoe;have hfc:=hS.facts;refine OZ gi ci qC pX (λhsk=>?_) (λhsk=>?_)
    .rw[ag,aDy rfl,gT i pX,af]
     have jd:L1.filter (tT fr to)=[]:=oP λx hx=>by
      obtain⟨b1,b2⟩:=hfc.XY x hx;unfold tT;rcases hsk with⟨c,oZ,hle⟩|⟨h0,h2,c,oZ,hle⟩
      .rw[anS c oZ]at b2;have b2:eD x.1 c.key:=b2;have:=b2.jY hle;rw[aDz this];rfl
      .have b3:kh to x.1:=by
        have:=ans c h0 oZ;rw[this]at hle;exact hle.trans b1
       have:=aDr b3;rw[aDr h2,this];simp
     rw[aFf,jd,aDV]at HI;exact next (fu-1) _ _ pX ⟨i+1,A',F',x',L2,p2,pX,rfl,hk,acc,nz,Vf,HI,by simp at mZ;omega⟩
    .rw[ag,aDv wI,gT dep pX,af]
     have hX':∀q∈b::F',q∉π.all/\q≠τ:=by
      intro q hq;rcases aDs.1 hq with rfl|hq
      .exact hX _ rq
      .rcases nz q hq with h|h
       .exact hX _ WE
       .exact⟨λhh=>by have:=ht.pg.lt q hh;omega,λe=>abA⟩
     have ts:=t3.vV hk hX;refine(ih h pX h rfl ts hS pX acc hX' (by simp at mZ;omega)).mono ?_;rintro _ fj ⟨rfl,zK,x2,F2,aqJ,vd⟩;rw[e2,af,ag,aDv wI,gT i pX,af];refine next (fu-1) _ _ pX ⟨i+1,A'++L1.filter (tT fr to),F2,x2,L2,p2,pX,rfl,hk.trans zK λq hq=>?_,aqJ,λq hq=>?_,Vf,?_,?_⟩
     .rcases aDs.1 hq with rfl|hq
      .left;simp
      .exact(nz q hq).imp (λh=>WE) id
     .rcases vd q hq with h|h
      .exact nz q h
      .right;omega
     .rw[<-HI,aFf,aDY]
     .have:=aGa (tT fr to) L1;simp at mZ⊢;omega
   .rw[aDr hc,aDv wI]
    have hLi:Li=[]:=by
     rcases KA with⟨_,h⟩|⟨loi,xV,_⟩
     .exact h
     .have:=xV.len;rw[aDO,aDO]at this;omega
    subst hLi;simp only[List.filter_nil,aEs]at HI;refine⟨rfl,(K3.mono rq).trans hk adt,x',F',by rw[<-HI];exact acc,λq hq=>(nz q hq).imp id λh=>pX⟩
def eU.short {G:GM}{cs:List dh}{L:List bt}{ps:List Nat}(h:eU G cs L ps):L.length=cs.length:=h.len
def Sub.short {G:GM}:∀{h page:Nat} {lo:cn} {hi:Option cn} {L:List bt} {ps:List Nat},Sub G h page lo hi L ps->L.length<=512*ps.length:=by
 intro h
 induction h with
 |zero=>
  rintro page lo hi L ps ⟨n,q,hn,⟨_,_,hc,_⟩,rfl⟩;have:=hc.len;have h1:=eT n.leaf n.cells;have h2:=hn.size;rw[cc]at h2;simp;omega
 |succ h ih=>
  rintro page lo hi L ps ⟨n,q,hn,⟨_,hk⟩,rfl⟩
  have key:∀(ks:List Nat) (ss:List cn) lo L q,bZ (Sub G h) ks ss lo hi L q->L.length<=512*q.length:=by
   intro ks
   induction ks with
   |nil=>intro ss lo L q hk;cases ss<;>exact hk.elim
   |cons k ks ih2=>
    intro ss lo L q hk;cases ss with
    |nil=>rw[bZ.one]at hk;exact ih hk.2
    |cons s ss=>
     rw[bZ.cons]at hk;obtain⟨L1,p1,L2,p2,a,b,rfl,rfl⟩:=hk;have h1:=ih a;have h2:=ih2 _ _ _ _ b;simp;omega
  have:=key _ _ _ _ _ hk;simp;omega
end
end
section
variable {τ:Nat} {π:PI} {st st':St} {G:GM} {fr to:cn}
def Oq {L:List bt}(ht:gK G L)(h0:G.root=0):L=[]:=by
 rcases ht.tree with h|⟨hh,ps,_,hs⟩
 .exact h.2
 .obtain⟨n,q,hn,_⟩:=hs;have:=hn.bS.1;omega
def zi (h:Tg τ π st G){L:List bt}(ht:gK G L)(fr to:cn):R 14 [.ptr τ 0,.str fr,.str to] st λy st'=>∃x,y=.tuple [x,I 0]/\Made 2 41 (bV (L.filter (tT fr to))) st x st':=by
 refine bN ?_;rw[w14];rw[c8,af,ag,aDv wI];refine h.get' ?_;refine(Iv h.pg).same ?_;have e0:ai .eql (some .int) true (I G.root) (.int .i64 0) st=.ok (.bool (decide (G.root=0))) st:=Sb
 rw[e0,af,ag]
 by_cases h0:G.root=0
 .rw[aDz h0,aDy rfl,Oq ht h0];exact⟨.ae,rfl,[],Kp.refl _ _,.inl ⟨rfl,rfl,rfl⟩,rq⟩
 .rw[aDr h0,aDv wI,cE,aT];have k2:Kp [] st (St.new st (.cells [.ae] 37 false)):=(Kp.refl [] st).new _;have g2:(St.new st (.cells [.ae] 37 false)).m.g st.nx=some (.cells [.ae] 37 false):=aw _ _;have n2:(St.new st (.cells [.ae] 37 false)).nx=st.nx+1:=rfl;generalize St.new st (.cells [.ae] 37 false)=s2 at*;have t2:=h.still k2;refine t2.get' ?_;refine(Iv t2.pg).same ?_
  obtain⟨hh,ps,je,hs⟩:∃h ps,ps.Nodup/\Sub G h G.root [] none L ps:=by
   rcases ht.tree with h|h
   .exact absurd h.1 h0
   .exact h
  have Kz:=hs.deep je ht.ok;have hsh:=hs.short;have h2:=Ft je hs.aE ht.ok.one;have h3:=ht.ok.iv;have h4:=ht.ok.size;have PZ:Acc s2 st.nx [] [] .ae:=⟨g2,pX,.inl ⟨rfl,rfl,rfl⟩,rq⟩;refine(HN hh hh rfl (dep:=0) t2 hs pX PZ (λq hq=>?_) AI).mono ?_
  .have hq:q=st.nx:=by simpa using hq
   subst hq;exact⟨λhh=>abr,λe=>WQ⟩
  .rintro _ s4 ⟨rfl,k4,x,F,acc,hF⟩;have e2:ai .neq (some .int) true (I 0) (.int .i64 0) s4=.ok (.bool false) s4:=rfl;rw[e2,af,ag,aDv wI,aC,acc.get,ar];refine⟨x,rfl,F,k2.trans k4 rq,?_,λq hq=>⟨?_,(acc.F q hq).1⟩⟩
   .have:=acc.own
    rwa [aDV]at this
   .rcases hF q hq with h|h
    .cases h
    .omega
def NM (h:Tg τ π st G):R 17 [.ptr τ 0] st λv st'=>v=I G.cP/\st'=st:=by
 refine bN ?_;rw[w17];rw[c8,af,ag,aDv wI];refine h.get' ?_;refine(OE h.pg).same ?_;exact⟨rfl,rfl⟩
def Sn (h:Pg π st G)(hf:eM st):R 24 [.ptr π.p 0] st λv st'=>v=.ptr st.nx 0/\Kp [] st st'/\Tg st.nx π st' G:=by
 refine bN ?_;rw[w24];have mR:bu [.bk] [(0,1,.ptr π.p 0)] st=.ok (.agg [.ptr π.p 0]) st:=rfl;rw[c8,af,ag,aDv wI,mR,af,bW,aV];refine⟨rfl,rfl,(Kp.refl [] st).new _,?_⟩;have k:Kp [] st (St.new st (.cells [.ptr π.p 0] 116 false)):=(Kp.refl [] st).new _;exact⟨h.still k,rq,λhh=>by have:=h.lt _ hh;omega,⟨116,false,aw _ _⟩,k.fresh hf⟩
end
