import Derived.Test.YtomffjeofpafnaaGreatDoorBtD
namespace Lim
open Go
noncomputable section
set_option linter.defProp false
set_option maxRecDepth 100000
section
variable {x:CV}{X:List Nat}{s:St}{p:Nat}{l:List CV}{ty:TypeId}{g:Bool}{K:CV->Prop}{vc:CV}{n:bo}{i:Nat}
def Br (fr to:bY)(x:aW):Bool:= !decide (dO x.1 fr)&&(decide (to=[])||decide (dO x.1 to))
def gh (p:aW):List CV:=[.str p.1,.str p.2]
def jx (L:List aW):List CV:=(L.map gh).flatten
def oK (L:List aW):(jx L).length=L.length*2:=by unfold jx;rw[fg (w:=2) (by intro x a;obtain⟨c,_,rfl⟩:=aIk.1 a;rfl)];simp
def uR (a b:List aW):jx (a++b)=jx a++jx b:=by simp[jx]
structure Acc (st:St)(b:Nat)(A:List aW)(F:List Nat)(x:CV):Prop where
 get:st.m.g b=some (.cells [x] 37 false)
 lt:b<st.nx
 own:Own st x 2 41 (jx A) F
 F:∀q∈F,q<st.nx/\q≠b
def Acc.keep {st st':St}{b:Nat}{A:List aW}{F:List Nat}(h:Acc st b A F x)(c:Kp X st st')(e:b∉X)(d:∀q∈F,q∉X):Acc st' b A F x:=
 ⟨(c.keep b h.lt e).trans h.get,aId h.lt c.nx,h.own.keep c λq a=>⟨(h.F q a).1,d q a⟩,λq a=>⟨aId (h.F q a).1 c.nx,(h.F q a).2⟩⟩
def aur (b:Nat)(F:List Nat)(A:List aW)(st:St)(y:CV)(st':St):Prop:=y=I 0/\Kp (b::F) st st'/\∃a F',Acc st' b A F' a/\∀q∈F',q∈F\/st.nx<=q
section
variable {τ:Nat} {π:PI} {st st':St} {G:GM} {fr to:bY}
def atO (a:s.m.g p=some (.cells (x::l) ty g))(b:K x):us (aA (.ptr p 0) s) K:=by
 rw[az,a,ar];exact b
def SG {a:bY}{v:List UInt8}(j:s.m.g p=some (.cells (.str a::l) ty g))(b:K (.bool (!Br fr to (a,v)))):
 us (aj .lss none false (.str a) (.str fr) s) λc=>us (br (ao false c) s (.ok (.str to) s)) λr=>us (br (ao false c) s (aj .neq (some .str) true r (.str []) s)) λq=>us (br (ao false c) s (.ok q s)) λf=>
  iy (ao true f) 0 (.ptr p 0) s λk=>us (br (ao true f) s (.ok (.str to) s)) λu=>us (br (ao true f) s (aj .geq none false k u s)) λw=>us (br (ao false c) s (bk f w (.bool false) s)) λo=>us (bk c (.bool true) o s) K:=by
 rw[ep,P8,af];unfold Br at b
 by_cases e:dO a fr
 .simp only[e,aIS,aIb,Bool.false_and,aHY]at b;simp only[aHQ e,aG,aHH,aHV,aIb,bU,af,iy,aF,aIj,lr];exact b
 .simp only[aHL e,aHY,Bool.true_and]at b;simp only[aHL e,aG,aHH,aHV,aHY,ba,af,ep,oL]
  by_cases d:to=[]
  .simp only[d,aIS,Bool.true_or,aIb]at b;simp only[d,aIS,aIb,aIj,bU,af,iy,aF,aHH,aHV];exact b
  .simp only[aHL d,Bool.false_or]at b;simp only[aHL d,aHY,aIj,ba,af,iy,aF,ah,az,j,ar,aHN,aHG,aw,ep,wC,aHH,aHV];have:decide (lj to a)= !decide (dO a to):=by unfold lj;by_cases h:dO a to<;>simp[h]
   rw[this];exact b
def WC (n:bo)(fr to:bY)(i:Nat):Prop:=(∃c,n.cells[i]?=some c/\lj c.key fr)\/(0<i/\to≠[]/\∃c,n.cells[i-1]?=some c/\lj to c.key)
def We (c:Sl s X vc 4 (bM n.cells))(hi:i<n.cells.length)(j:K (.str n.cells[i].key)):jl (some true) 4 0 vc (I i) s K:=by
 obtain⟨b,p,l,t,g,f,e,m,k,d⟩:=c.cellAt (L:=n.cells.map bg) uM (fQ _) (i:=i) Yy;have a:=d 0 (.str n.cells[i].key) acm;rw[aIv]at a;simp only[ba,af,jl,ah,az,ar,aIv,f,e,a,aw];exact j
def Qz {lf:CV}{T:CV}(g:s.m.g p=some (.cells [lf,vc,T] 105 false))(c:Sl s X vc 4 (bM n.cells))(qR:n.cells.length<=512)(hi:i<=n.cells.length)(O:WC n fr to i->K (.bool true))(H:¬WC n fr to i->K (.bool false)):
 fl 1 (.ptr p 0) s λZ=>us (bt .slice Z s) λS=>us (aj .lss none false (I i) S s) λk=>iy (ao true k) 1 (.ptr p 0) s λV=>us (br (ao true k) s (.ok (I i) s)) λW=>
  jl (ao true k) 4 0 V W s λU=>us (br (ao true k) s (.ok (.str fr) s)) λY=>us (br (ao true k) s (aj .leq none false U Y s)) λR=>us (bk k R (.bool false) s) λf=>
  us (br (ao false f) s (.ok (I i) s)) λQ=>us (br (ao false f) s (aj .gtr none true Q (.int .i64 0) s)) λF=>us (br (ao false f) s (.ok F s)) λe=>us (br (ao true e) s (.ok (.str to) s)) λA=>
  us (br (ao true e) s (aj .neq (some .str) true A (.str []) s)) λE=>us (br (ao false f) s (bk e E (.bool false) s)) λz=>us (br (ao false f) s (.ok z s)) λa=>iy (ao true a) 1 (.ptr p 0) s λN=>
  us (br (ao true a) s (.ok (I i) s)) λy=>us (br (ao true a) s (aj .sub none true y (.int .i64 1) s)) λM=>jl (ao true a) 4 0 N M s λB=>us (br (ao true a) s (.ok (.str to) s)) λC=>
  us (br (ao true a) s (aj .geq none false B C s)) λJ=>us (br (ao false f) s (bk a J (.bool false) s)) λL=>us (bk f (.bool true) L s) K:=by
 have hlen:=c.len n.cells.length (bQ _) uM s;have v:∀(j:Nat) (o:j<n.cells.length) (K:CV->Prop),K (.str n.cells[j].key)->jl (some true) 4 0 vc (I j) s K:=λj o K hK=>We c o hK;rw[fl,ah,af,az,g,ar];simp only[aHN,aHI,aHG,aw,hlen,af,dD]
 have u:¬(∃c,n.cells[i]?=some c/\lj c.key fr)->us (aj .gtr none true (I i) (.int .i64 0) s) λF=>us (.ok F s) λe=>us (br (ao true e) s (.ok (.str to) s)) λA=>
  us (br (ao true e) s (aj .neq (some .str) true A (.str []) s)) λE=>us (bk e E (.bool false) s) λz=>us (.ok z s) λa=>iy (ao true a) 1 (.ptr p 0) s λN=>
  us (br (ao true a) s (.ok (I i) s)) λy=>us (br (ao true a) s (aj .sub none true y (.int .i64 1) s)) λM=>jl (ao true a) 4 0 N M s λB=>us (br (ao true a) s (.ok (.str to) s)) λC=>
  us (br (ao true a) s (aj .geq none false B C s)) λJ=>us (bk a J (.bool false) s) λL=>us (bk (.bool false) (.bool true) L s) K:=λD=>by
  have e0:aj .gtr none true (I i) (.int .i64 0) s=.ok (.bool (decide (0<i))) s:=BT
  rw[e0,af,af]
  by_cases r:0<i
  .simp only[aHQ r,aG,aIj,ba,af,ep,oL,aF]
   by_cases b:to=[]
   .simp only[b,aIS,aIb,bU,af,iy,jl,aHH,aHV]
    exact H λh=>by
     rcases h with h|h
     .exact D h
     .exact h.2.1 b
   .simp only[aHL b,aHY,aIj,ba,af,iy,ah,az,g,ar,aHN,aHI,aHG,aw,zX i uM r];have o:i-1<n.cells.length:=by omega
    refine v (i-1) o _ ?_;simp only[ep,wC,af,aHH,aHV]
    by_cases w:lj to n.cells[i-1].key
    .rw[aHQ w];exact O (.inr ⟨r,b,_,aHO o,w⟩)
    .rw[aHL w]
     exact H λh=>by
      rcases h with h|⟨_,_,P,d,h⟩
      .exact D h
      .rw[aHO o]at d;cases d;exact w h
  .simp only[aHL r,aG,aIj,bU,af,iy,jl,aF,aHH,aHV]
   exact H λh=>by
    rcases h with h|h
    .exact D h
    .exact r h.1
 by_cases q:i<n.cells.length
 .simp only[aHQ q,aG,aIj,ba,af,iy,ah,az,g,ar,aHN,aHI,aHG,aw];refine v i q _ ?_;simp only[ep,P9,af,aF,aIj]
  by_cases b:lj n.cells[i].key fr
  .simp only[aHQ b,aG,aHH,aHV,aIb,bU,af,aIj,lr,jl];exact O (.inl ⟨_,aHO q,b⟩)
  .have:=u λ⟨P,d,h⟩=>by rw[aHO q]at d;cases d;exact b h
   simp only[aHL b,aG,aHH,aHV,aHY,ba];simp only[iy,ah,af,aHN]at this⊢;exact this
 .have:=u λ⟨P,d,h⟩=>by rw[aIN uM]at d;cases d
  simp only[aHL q,aG,aIj,bU,af,iy,jl,aF,aHH,aHV,aHY,ba];simp only[iy,jl,ah,af,aHN]at this⊢;exact this
def Jh:∀(m h:Nat),h=m->∀{st:St} {G:GM} {page dep b:Nat} {lo:bY} {hi:Option bY} {Ls A:List aW} {ps F:List Nat} {ax:CV},Tg τ π st G->Sub G h page lo hi Ls ps->dep+h<=20->Acc st b A F ax->(∀q∈b::F,q∉π.all/\q≠τ)->A.length+Ls.length<=50000000->
 R 55 [.ptr τ 0,I page,I dep,.str fr,.str to,.ptr b 0] st (aur b F (A++Ls.filter (Br fr to)) st):=by
 intro m
 induction m using Nat.strongRecOn with
 |_ m ih=>
  intro h hm st G page dep b lo hi Ls A ps F ax ht hs a8 RD V M;obtain⟨n,q,hn,lR,rfl⟩:=hs;refine bK ?_;rw[w55];refine(zU ht hn).mono ?_;rintro _ E ⟨xn,rfl,k1,ay⟩
  have ac:∀q∈b::F,q<st.nx:=by
   intro q d;rcases aHJ.1 d with rfl|d
   .exact RD.lt
   .exact(RD.F q d).1
  obtain⟨vc,T,rfl,c1,c2⟩:=ay (b::F) ac;rw[aD,af,aI,aD,af];refine tV c1.bL.2.1 c2.bL.2.1 ?_;have k3:Kp [] E (St.new E (.cells [.bool n.leaf,vc,T] 105 false)):=(Kp.refl [] E).new _;have g3:(St.new E (.cells [.bool n.leaf,vc,T] 105 false)).m.g E.nx=some (.cells [.bool n.leaf,vc,T] 105 false):=au _ _;have n3:(St.new E (.cells [.bool n.leaf,vc,T] 105 false)).nx=E.nx+1:=rfl;generalize St.new E (.cells [.bool n.leaf,vc,T] 105 false)=s3 at*;have K3:=k1.trans k3 wb;have a9:=K3.nx;have a4:=k1.nx;have t3:=ht.still K3;have ai:=RD.keep K3 wb wb;have S:=c1.mono (k3.mono wb);have ae:=c2.mono (k3.mono wb);have e2:∀s,aj .neq (some .int) true (I 0) (.int .i64 0) s=.ok (.bool false) s:=λs=>rfl
  have qR:n.cells.length<=512:=by
   have:=eZ n.leaf n.cells;have:=hn.size;rw[cr]at this;omega
  rw[e2,af,ag,aHM xI];rw[fl,ah,af,az,g3,ar];simp only[aHN,aHG,aw,ag];cases h with
  |zero=>
   obtain⟨gO,a5,aC,mo⟩:=(show Ho G n lo hi Ls q from lR);rw[gO,aHP rfl];have aA:=S.len n.cells.length (bQ _) uM s3;simp only[cM,aK,aL,fl,ah,af,az,g3,ar,aHN,aHI,aHG,aw,aA];refine bG (λfu W s=>∃i f F' y o Q,fu+i=n.cells.length/\W=[.ptr τ 0,.str fr,.str to,.ptr b 0,vc,I n.cells.length,I i]/\Kp (b::F) s3 s/\Acc s b f F' y/\(∀q∈F',q∈F\/s3.nx<=q)/\fx G (n.cells.drop i) o Q/\f++o.filter (Br fr to)=A++Ls.filter (Br fr to)/\f.length+o.length<=50000000) ?_ (n:=n.cells.length) ⟨0,A,F,ax,Ls,q,rfl,rfl,Kp.refl _ _,ai,afk,aC,rfl,M⟩;rintro fu W s k ⟨i,f,F',y,o,Q,hi,rfl,j,r,z,Tw,w,U⟩ next;simp only[aK,aL,dD,af,ag]
   by_cases hc:i<n.cells.length
   .rw[aHQ hc,aHP rfl];refine(S.mono j).gU (L:=n.cells.map bg) uM (fQ _) I2 _ ?_;have e:(n.cells.map bg)[i]'(by simpa using hc)=bg n.cells[i]:=by simp
    rw[e];refine mW rfl rfl (gT _) ?_;have k7:Kp [] s (St.new s (.cells (bg n.cells[i]) 109 false)):=(Kp.refl _ s).new _;have g7:(St.new s (.cells (bg n.cells[i]) 109 false)).m.g s.nx=some (.cells [.str n.cells[i].key,.str n.cells[i].value,I n.cells[i].dR,I n.cells[i].size] 109 false):=au _ _;have n7:(St.new s (.cells (bg n.cells[i]) 109 false)).nx=s.nx+1:=rfl;generalize St.new s (.cells (bg n.cells[i]) 109 false)=s7 at*;have al:=r.keep k7 wb wb;have rE:=j.nx;rw[aIe hc]at Tw;obtain⟨v,Y,C,H,aa,am,rfl,rfl⟩:=Tw
    have ho:n.cells[i].ok true:=by
     have:=hn.ok.cell _ (aIc hc)
     rwa [gO]at this
    refine atO g7 ?_;refine SG (v:=v) g7 ?_;simp only[ag];cases hb:Br fr to (n.cells[i].key,v)with
    |false=>
     rw[aHY,aHP rfl,gJ i uM,af];rw[aJa,hb,aHM xI]at w;exact next (fu-1) _ _ uM ⟨i+1,f,F',y,C,H,uM,rfl,j.trans k7 wb,al,z,am,w,by simp at U;omega⟩
    |true=>
     rw[aIb,aHM xI];rw[aJa,hb,aHP rfl]at w
     have ad:∀q∈b::F',q∉π.all/\q≠τ:=by
      intro q d;rcases aHJ.1 d with rfl|d
      .exact V _ wb
      .rcases z q d with h|h
       .exact V _ aaX
       .exact⟨λhh=>by have:=ht.pg.lt q hh;omega,λe=>adA⟩
     have ts:=(t3.wV j V).still k7;rw[aM (n:=4) g7 rfl,af];refine(Gc ts ho aa).mono ?_;rintro _ D ⟨rfl,Z⟩;have n8:=Z.nx;have SL:=al.keep Z wb wb;have g8:=(Z.keep s.nx uM wb).trans g7;rw[aD,af,aI,aD,af,e2,af,ag,aHM xI,bD];have ks:=(Kp.refl [] D).skip;have a0:=Z.fresh ts.fr;have jD:(St.skip D).m.g D.nx=none:=a0 _ (aHK _);have a3:(St.skip D).nx=D.nx+1:=rfl;have O:=SL.keep ks wb wb;have gk:(St.skip D).m.g s.nx=_:=g8;generalize St.skip D=sk at*;have mo:aZ [.str [],.str []] [(0,1,.str n.cells[i].key),(1,1,.str v)] sk=.ok (.agg (gh (n.cells[i].key,v))) sk:=rfl;have a7:f.length<=50000000:=uM
     have aF:=O.get;rw[bj,af,az,aF,ar];simp only[aHG,aw];rw[ah,af,az,gk,ar];simp only[aHN,aHG,aw];rw[mo,af];refine xv 32 O.own uM (λq d=>⟨(O.F q d).1,by have:=(SL.F q d).1;omega⟩) uM jD rfl rfl rfl rfl (by rw[oK];omega) ?_;intro v' aq F2 o2 oq xN;have I4:=oq.nx;have a6:=SL.lt
     have aO:b∉D.nx::F':=by
      intro hh;rcases aHJ.1 hh with h|h
      .omega
      .exact(SL.F b h).2 rfl
     have aN:=(oq.keep b O.lt aO).trans O.get;obtain⟨YW,UG⟩:=o2.cF;have kW:bz [y] 0 [v']=[v']:=rfl;have aP:(St.set sk D.nx (.cells (CV.agg (gh (n.cells[i].key,v))).cK 41 false)).m.g b=some (.cells [y] 37 false):=(ak _ _ _ _ uM).trans O.get;have aY:(St.set sk D.nx (.cells (CV.agg (gh (n.cells[i].key,v))).cK 41 false)).m.g s.nx=_:=(ak _ _ _ _ uM).trans gk;rw[bj,af,aH,aN,aS,UG,kW,az,aP,ar,az,aY,ar];refine⟨⟨rfl,by simp[YW],wb⟩,⟨⟨rfl,afp⟩,⟨rfl,afp⟩,afp⟩,⟨afp,afp⟩,?_⟩;rw[gJ i uM,af]
     have Bb:∀q∈F2,(q∈F\/s3.nx<=q)/\q<aq.nx/\q≠b:=λq d=>by
      obtain⟨a1,a2⟩:=xN q d;refine⟨?_,a2,?_⟩
      .rcases a1 with h|h
       .exact z q h
       .right;omega
      .rcases a1 with h|h
       .exact(SL.F q h).2
       .intro e;omega
     have aV:=(((j.trans k7 wb).trans Z wb).trans ks wb).trans oq λq d=>by
      rcases aHJ.1 d with rfl|d
      .right;omega
      .exact(z q d).imp (λh=>aaX) id
     refine next (fu-1) _ _ uM ⟨i+1,f++[(n.cells[i].key,v)],F2,v',C,H,uM,rfl,aV.set _ (.inl wb) (by have:=O.lt;omega),⟨an _ _ _,by have:=O.lt;simp;omega,?_,λq d=>⟨(Bb q d).2.1,(Bb q d).2.2⟩⟩,λq d=>(Bb q d).1,am,?_,?_⟩
     .have e:jx f++(CV.agg (gh (n.cells[i].key,v))).cK=jx (f++[(n.cells[i].key,v)]):=by rw[uR];rfl
      rw[e]at o2;exact o2.mono λq d=>ak _ _ _ _ (Bb q d).2.2
     .rw[<-w];simp
     .simp at U⊢;omega
   .rw[aHL hc,aHM xI];have Kt:n.cells.drop i=[]:=aIp uM;rw[Kt]at Tw;obtain⟨rfl,_⟩:=(show o=[]/\Q=[]from Tw);simp only[List.filter_nil,aIJ]at w;refine⟨rfl,(K3.mono wb).trans j afk,y,F',by rw[<-w];exact r,λq d=>(z q d).imp id λh=>uM⟩
  |succ h=>
   obtain⟨gO,A4⟩:=(show QM (Sub G h) n lo hi Ls q from lR);rw[gO,aHM xI];have aG:aj .eql (some .int) true (I dep) (.int .i64 40) s3=.ok (.bool false) s3:=Pe
   rw[aG,af,ag,aHM xI];have rE:=hn.ok.jR;rw[gO,aHM xI]at rE;have A3:=ae.len n.kids.length wb uM s3;rw[cM];simp only[aK,aL];rw[fl,ah,af,az,g3,ar];simp only[aHN,aHI,aHG,aw];rw[A3,af]
   refine bG (λfu W s=>∃i f F' y o Q,fu+i=n.kids.length/\W=[.ptr τ 0,I dep,.str fr,.str to,.ptr b 0,.ptr E.nx 0,T,I n.kids.length,I i]/\Kp (b::F) s3 s/\Acc s b f F' y/\(∀q∈F',q∈F\/s3.nx<=q)/\
    ((i=n.kids.length/\o=[])\/∃B,cq (Sub G h) (n.kids.drop i) (n.fe.drop i) B hi o Q/\∀c,0<i->n.cells[i-1]?=some c->c.key=B)/\f++o.filter (Br fr to)=A++Ls.filter (Br fr to)/\f.length+o.length<=50000000) ?_ (n:=n.kids.length)
    ⟨0,A,F,ax,Ls,q,rfl,rfl,Kp.refl _ _,ai,afk,.inr ⟨lo,by rw[aIn,aIn];exact A4,λc h0=>absurd h0 (Nat.lt_irrefl 0)⟩,rfl,M⟩
   rintro fu W s k ⟨i,f,F',y,o,Q,eT,rfl,j,r,z,Mu,w,U⟩ next;simp only[aK,aL];rw[dD,af,ag];have mC:=j.nx
   by_cases hc:i<n.kids.length
   .rw[aHQ hc,aHP rfl];rcases Mu with⟨he,_⟩|⟨B,P,aT⟩
    .omega
    have ci:=S.mono j;have di:=ae.mono j;have gi:=(j.keep E.nx uM (λhh=>by have:=ac _ hh;omega)).trans g3;refine di.idx (i:=i) I2 _ ?_;have e9:(cP n.kids)[i]'(by simpa using hc)=I n.kids[i]:=by simp[cP]
    rw[e9]
    have aR:∃HT N Y C H,Sub G h n.kids[i] B HT N Y/\o=N++C/\(∀c,n.cells[i]?=some c->HT=some c.key)/\((i+1=n.kids.length/\C=[])\/∃ao,cq (Sub G h) (n.kids.drop (i+1)) (n.fe.drop (i+1)) ao hi C H/\∀c,0<i+1->n.cells[i+1-1]?=some c->c.key=ao):=by
     rw[aIe hc]at P
     by_cases hl:i<n.fe.length
     .rw[aIe hl]at P;obtain⟨N,Y,C,H,a,b',rfl,rfl⟩:=cq.cons.1 P
      have ap:∀c,n.cells[i]?=some c->c.key=n.fe[i]:=λc u=>by
       obtain⟨h1,h2⟩:=aHW.1 u;simp[bo.fe,h2]
      exact⟨_,N,Y,C,H,a,rfl,λc u=>by rw[ap c u],.inr ⟨_,b',λc _ u=>ap c (by simpa using u)⟩⟩
     .rw[aIp (show n.fe.length<=i from uM)]at P;obtain⟨he,hS⟩:=cq.one.1 P;rw[kP]at hl;exact⟨_,o,Q,[],[],hS,wb,λc u=>(by rw[aIN uM]at u;cases u),.inl ⟨uM,rfl⟩⟩
    obtain⟨HT,N,Y,C,H,hS,rfl,aQ,Xj⟩:=aR;have aB:=hS.facts;refine Qz gi ci qR uM (λab=>?_) (λab=>?_)
    .rw[ag,aHP rfl,gJ i uM,af]
     have jD:N.filter (Br fr to)=[]:=tl λx hx=>by
      obtain⟨b1,b2⟩:=aB.Zp x hx;unfold Br;rcases ab with⟨c,u,J⟩|⟨h0,h2,c,u,J⟩
      .rw[aQ c u]at b2;have b2:dO x.1 c.key:=b2;have:=b2.kO J;rw[aHQ this];rfl
      .have b3:lj to x.1:=by
        have:=aT c h0 u;rw[this]at J;exact J.trans b1
       have:=aHL b3;rw[aHL h2,this];simp
     rw[aJt,jD,aIm]at w;exact next (fu-1) _ _ uM ⟨i+1,f,F',y,C,H,uM,rfl,j,r,z,Xj,w,by simp at U;omega⟩
    .rw[ag,aHM xI,gJ dep uM,af]
     have ad:∀q∈b::F',q∉π.all/\q≠τ:=by
      intro q d;rcases aHJ.1 d with rfl|d
      .exact V _ wb
      .rcases z q d with h|h
       .exact V _ aaX
       .exact⟨λhh=>by have:=ht.pg.lt q hh;omega,λe=>adA⟩
     have ts:=t3.wV j V;refine(ih h uM h rfl ts hS uM r ad (by simp at U;omega)).mono ?_;rintro _ eP ⟨rfl,vI,x2,F2,aJ,xN⟩;rw[e2,af,ag,aHM xI,gJ i uM,af];refine next (fu-1) _ _ uM ⟨i+1,f++N.filter (Br fr to),F2,x2,C,H,uM,rfl,j.trans vI λq d=>?_,aJ,λq d=>?_,Xj,?_,?_⟩
     .rcases aHJ.1 d with rfl|d
      .left;simp
      .exact(z q d).imp (λh=>aaX) id
     .rcases xN q d with h|h
      .exact z q h
      .right;omega
     .rw[<-w,aJt,aIq]
     .have:=List.length_filter_le (Br fr to) N;simp at U⊢;omega
   .rw[aHL hc,aHM xI]
    have aE:o=[]:=by
     rcases Mu with⟨_,h⟩|⟨B,P,_⟩
     .exact h
     .have:=P.len;rw[aIl,aIl]at this;omega
    subst aE;simp only[List.filter_nil,aIJ]at w;refine⟨rfl,(K3.mono wb).trans j afk,y,F',by rw[<-w];exact r,λq d=>(z q d).imp id λh=>uM⟩
def Sub.short {G:GM}:∀{h page:Nat} {lo:bY} {hi:Option bY} {L:List aW} {ps:List Nat},Sub G h page lo hi L ps->L.length<=512*ps.length:=by
 intro h
 induction h with
 |zero=>
  rintro page lo hi L ps ⟨n,q,o,⟨_,_,r,_⟩,rfl⟩;have:=r.len;have h1:=eZ n.leaf n.cells;have h2:=o.size;rw[cr]at h2;simp;omega
 |succ h m=>
  rintro page lo hi L ps ⟨n,q,o,⟨_,c⟩,rfl⟩
  have f:∀(e:List Nat) (d:List bY) lo L q,cq (Sub G h) e d lo hi L q->L.length<=512*q.length:=by
   intro e
   induction e with
   |nil=>intro d lo L q c;cases d<;>exact c.elim
   |cons k e j=>
    intro d lo L q c;cases d with
    |nil=>rw[cq.one]at c;exact m c.2
    |cons s d=>
     rw[cq.cons]at c;obtain⟨y,v,w,u,a,b,rfl,rfl⟩:=c;have h1:=m a;have h2:=j _ _ _ _ b;simp;omega
  have:=f _ _ _ _ _ c;simp;omega
end
end
section
variable {τ:Nat} {π:PI} {st st':St} {G:GM} {fr to:bY}
def PR {L:List aW}(a:fC G L)(c:G.root=0):L=[]:=by
 rcases a.tree with h|⟨hh,ps,_,b⟩
 .exact h.2
 .obtain⟨n,q,hn,_⟩:=b;have:=hn.bW.1;omega
def PX (h:Tg τ π st G){L:List aW}(a:fC G L)(fr to:bY):R 14 [.ptr τ 0,.str fr,.str to] st λy st'=>∃x,y=.tuple [x,I 0]/\Made 2 41 (jx (L.filter (Br fr to))) st x st':=by
 refine bK ?_;rw[w14];rw[cc,af,ag,aHM xI];refine h.get' ?_;refine(JQ h.pg).same ?_;have r:aj .eql (some .int) true (I G.root) (.int .i64 0) st=.ok (.bool (decide (G.root=0))) st:=O9
 rw[r,af,ag]
 by_cases d:G.root=0
 .rw[aHQ d,aHP rfl,PR a d];exact⟨.ae,rfl,[],Kp.refl _ _,.inl ⟨rfl,rfl,rfl⟩,wb⟩
 .rw[aHL d,aHM xI,cz,aP];have i:Kp [] st (St.new st (.cells [.ae] 37 false)):=(Kp.refl [] st).new _;have o:(St.new st (.cells [.ae] 37 false)).m.g st.nx=some (.cells [.ae] 37 false):=au _ _;have u:(St.new st (.cells [.ae] 37 false)).nx=st.nx+1:=rfl;generalize St.new st (.cells [.ae] 37 false)=s2 at*;have f:=h.still i;refine f.get' ?_;refine(JQ f.pg).same ?_
  obtain⟨hh,ps,j,c⟩:∃h ps,ps.Nodup/\Sub G h G.root [] none L ps:=by
   rcases a.tree with h|h
   .exact absurd h.1 d
   .exact h
  have z:=c.deep j a.ok;have l:=c.short;have h2:=Aw j c.aE a.ok.one;have w:=a.ok.ik;have v:=a.ok.size;have s:Acc s2 st.nx [] [] .ae:=⟨o,uM,.inl ⟨rfl,rfl,rfl⟩,wb⟩;refine(Jh hh hh rfl (dep:=0) f c uM s (λq b=>?_) zS).mono ?_
  .have b:q=st.nx:=by simpa using b
   subst b;exact⟨λhh=>adv,λe=>abx⟩
  .rintro _ s4 ⟨rfl,k,x,F,acc,n⟩;have p:aj .neq (some .int) true (I 0) (.int .i64 0) s4=.ok (.bool false) s4:=rfl;rw[p,af,ag,aHM xI,az,acc.get,ar];refine⟨x,rfl,F,i.trans k wb,?_,λq b=>⟨?_,(acc.F q b).1⟩⟩
   .have:=acc.own
    rwa [aIm]at this
   .rcases n q b with h|h
    .cases h
    .omega
def Pp (h:Tg τ π st G):R 17 [.ptr τ 0] st λv st'=>v=I G.cD/\st'=st:=by
 refine bK ?_;rw[w17];rw[cc,af,ag,aHM xI];refine h.get' ?_;refine(P7 h.pg).same ?_;exact⟨rfl,rfl⟩
def T0 (h:Pg π st G)(b:eA st):R 24 [.ptr π.p 0] st λv st'=>v=.ptr st.nx 0/\Kp [] st st'/\Tg st.nx π st' G:=by
 refine bK ?_;rw[w24];have a:aZ [.bq] [(0,1,.ptr π.p 0)] st=.ok (.agg [.ptr π.p 0]) st:=rfl;rw[cc,af,ag,aHM xI,a,af,bS,aT];refine⟨rfl,rfl,(Kp.refl [] st).new _,?_⟩;have k:Kp [] st (St.new st (.cells [.ptr π.p 0] 116 false)):=(Kp.refl [] st).new _;exact⟨h.still k,wb,λhh=>by have:=h.lt _ hh;omega,⟨116,false,au _ _⟩,k.fresh b⟩
end
