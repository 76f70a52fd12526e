import Derived.Test.YtckodcbgpffimaaGreatDoorBtD
namespace Lim
open Go
noncomputable section
set_option linter.defProp false
set_option maxRecDepth 100000
section
variable {x:K}{X:δ Nat}{s:O}{p:Nat}{ty:TypeId}{g:Bool}{Kq0:K->Prop}{vc:K}{n:bp}{i:Nat}
def Dy (fr to:bS)(x:aT):Bool:= !decide (eI x.1 fr)&&(decide (to=[])||decide (eI x.1 to))
def bR (p:aT):δ K:=[.str p.1,.str p.2]
def cT (L:δ aT):δ K:=(L.map bR).flatten
def wP (L:δ aT):(cT L).length=L.length*2:=by unfold cT;rw[dU (w:=2) (by intro x a;obtain⟨c,_,rfl⟩:=lm.1 a;rfl)];simp
def wk (a b:δ aT):cT (a++b)=cT a++cT b:=by simp[cT]
structure Acc (Z:O)(b:Nat)(Aq0:List aT)(F:List Nat)(x:K):Prop where
 get:Z.m.g b=some (.cells [x] 131 false)
 lt:b<Z.nx
 own:Own Z x 2 137 (cT Aq0) F
 F:∀q∈F,q<Z.nx/\q≠b
def Acc.keep {Z Z':O}{b:Nat}{c:δ aT}{F:δ Nat}(h:Acc Z b c F x)(d:Kp X Z Z')(f:b∉X)(e:∀q∈F,q∉X):Acc Z' b c F x:=
 ⟨(d.keep b h.lt f).trans h.get,ov h.lt d.nx,h.own.keep d λq a=>⟨(h.F q a).1,e q a⟩,λq a=>⟨ov (h.F q a).1 d.nx,(h.F q a).2⟩⟩
def axS (b:Nat)(F:δ Nat)(a:δ aT)(Z:O)(y:K)(Z':O):Prop:=y=I 0/\Kp (b::F) Z Z'/\∃c F',Acc Z' b a F' c/\∀q∈F',q∈F\/Z.nx<=q
section
variable {τ:Nat} {π:PI} {Z Z':O} {G:GM} {fr to:bS}
def axr {l:δ K}(a:s.m.g p=Φ (.cells (x::l) ty g))(b:Kq0 x):U (aw (.ptr p 0) s) Kq0:=by
 rw[av,a,ak];exact b
def Uw {key:bS}{v:δ Γ}{l:δ K}(f:s.m.g p=Φ (.cells (.str key::l) ty g))(a:Kq0 (.bool (!Dy fr to (key,v)))):
 U (R .lss ν false (.str key) (.str fr) s) λb=>U (kx (bj false b) s (.ok (.str to) s)) λr=>U (kx (bj false b) s (R .neq ω true r ϑ s)) λk=>U (kx (bj false b) s (.ok k s)) λe=>
  gG (bj true e) 0 (.ptr p 0) s λu=>U (kx (bj true e) s (.ok (.str to) s)) λo=>U (kx (bj true e) s (R .geq ν false u o s)) λq=>U (kx (bj false b) s (bg e q Θ s)) λj=>U (bg b ι j s) Kq0:=by
 rw[fG,RW,af];unfold Dy at a
 by_cases d:eI key fr
 .simp only[d,Al,Bool.false_and,ra]at a;simp only[jp d,NE,ii,r8,bA,gG,ix,nV];exact a
 .simp only[jo d,ra,S5]at a;simp only[jo d,aD,yU,ii,tw,fG,um]
  by_cases c:to=[]
  .simp only[c,Bool.true_or,Al]at a;simp only[c,Al,ix,bA,gG,aC,yU,ii];exact a
  .simp only[jo c,Bool.false_or]at a;simp only[jo c,tw,ix,gG,aC,vr,f,io,fG,xW,yU,ii];have:decide (lO to key)= !decide (eI key to):=by unfold lO;by_cases h:eI key to<;>simp[h]
   rw[this];exact a
def Yx (n:bp)(fr to:bS)(i:Nat):Prop:=(∃c,n.cells[i]?=Φ c/\lO c.key fr)\/(0<i/\to≠[]/\∃c,n.cells[i-1]?=Φ c/\lO to c.key)
def X8 (c:Sl s X vc 4 (bL n.cells))(hi:i<n.cells.length)(j:Kq0 (.str n.cells[i].key)):je (Φ true) 4 0 vc (I i) s Kq0:=by
 obtain⟨b,p,l,t,g,f,e,m,k,d⟩:=c.cellAt (L:=n.cells.map ba) J (gH _) (i:=i) J9;have a:=d 0 (.str n.cells[i].key) QV;rw[rc]at a;simp only[aW,rb,je,ah,av,rc,f,e,a];exact j
def Sv {lf:K}{vk:K}(g:s.m.g p=Φ (Ϙ [lf,vc,vk]))(c:Sl s X vc 4 (bL n.cells))(qS:n.cells.length<=512)(hi:i<=n.cells.length)(T:Yx n fr to i->Kq0 ι)(H:¬Yx n fr to i->Kq0 Θ):
 fl 1 (.ptr p 0) s λnT=>U (aY .slice nT s) λsD=>U (R .lss ν false (I i) sD s) λk=>gG (bj true k) 1 (.ptr p 0) s λtV=>U (kx (bj true k) s (.ok (I i) s)) λtG=>
  je (bj true k) 4 0 tV tG s λtq=>U (kx (bj true k) s (.ok (.str fr) s)) λvR=>U (kx (bj true k) s (R .leq ν false tq vR s)) λY=>U (bg k Y Θ s) λf=>
  U (kx (bj false f) s (.ok (I i) s)) λwc=>U (kx (bj false f) s (R .gtr ν true wc μ s)) λF=>U (kx (bj false f) s (.ok F s)) λe=>U (kx (bj true e) s (.ok (.str to) s)) λy=>
  U (kx (bj true e) s (R .neq ω true y ϑ s)) λD=>U (kx (bj false f) s (bg e D Θ s)) λQ=>U (kx (bj false f) s (.ok Q s)) λa=>gG (bj true a) 1 (.ptr p 0) s λP=>
  U (kx (bj true a) s (.ok (I i) s)) λS=>U (kx (bj true a) s (R .sub ν true S ϖ s)) λN=>je (bj true a) 4 0 P N s λw=>U (kx (bj true a) s (.ok (.str to) s)) λz=>
  U (kx (bj true a) s (R .geq ν false w z s)) λL=>U (kx (bj false f) s (bg a L Θ s)) λM=>U (bg f ι M s) Kq0:=by
 have hlen:=c.len n.cells.length (bN _) J s;have u:∀(j:Nat) (l:j<n.cells.length) (Kq0:K->Prop),Kq0 (.str n.cells[j].key)->je (Φ true) 4 0 vc (I j) s Kq0:=λj l Kq0 hK=>X8 c l hK;rw[fl,ah,af,av,g,ak];simp only[Gm,kc,io,hlen,af,dd]
 have r:¬(∃c,n.cells[i]?=Φ c/\lO c.key fr)->U (R .gtr ν true (I i) μ s) λF=>U (.ok F s) λe=>U (kx (bj true e) s (.ok (.str to) s)) λy=>
  U (kx (bj true e) s (R .neq ω true y ϑ s)) λD=>U (bg e D Θ s) λQ=>U (.ok Q s) λa=>gG (bj true a) 1 (.ptr p 0) s λP=>
  U (kx (bj true a) s (.ok (I i) s)) λS=>U (kx (bj true a) s (R .sub ν true S ϖ s)) λN=>je (bj true a) 4 0 P N s λw=>U (kx (bj true a) s (.ok (.str to) s)) λz=>
  U (kx (bj true a) s (R .geq ν false w z s)) λL=>U (bg a L Θ s) λM=>U (bg Θ ι M s) Kq0:=λC=>by
  have e0:R .gtr ν true (I i) μ s=.ok (.bool (decide (0<i))) s:=yZ
  rw[e0,af,af]
  by_cases q:0<i
  .simp only[jp q,ix,aW,af,fG,um,AC]
   by_cases b:to=[]
   .simp only[b,Al,bA,gG,je,yU,ii]
    exact H λh=>by
     rcases h with h|h
     .exact C h
     .exact h.2.1 b
   .simp only[jo b,tw,ix,ly,gG,g,kc,io,CX i J q];have l:i-1<n.cells.length:=by omega
    refine u (i-1) l _ ?_;simp only[fG,xW,yU,ii]
    by_cases v:lO to n.cells[i-1].key
    .rw[jp v];exact T (.inr ⟨q,b,_,li l,v⟩)
    .rw[jo v]
     exact H λh=>by
      rcases h with h|⟨_,_,W,d,h⟩
      .exact C h
      .rw[li l]at d;cases d;exact v h
  .simp only[jo q,ix,bA,gG,je,NE,ii]
   exact H λh=>by
    rcases h with h|h
    .exact C h
    .exact q h.1
 by_cases o:i<n.cells.length
 .simp only[jp o,aD,ix,aW,ly,gG,g,kc,io];refine u i o _ ?_;simp only[fG,RX,af,aC,ix]
  by_cases b:lO n.cells[i].key fr
  .simp only[jp b,aD,yU,ii,r8,bA,ix,nV,je];exact T (.inl ⟨_,li o,b⟩)
  .have:=r λ⟨W,d,h⟩=>by rw[li o]at d;cases d;exact b h
   simp only[jo b,aD,pi,ii,tw];simp only[gG,ah,af,oa]at this⊢;exact this
 .have:=r λ⟨W,d,h⟩=>by rw[In J]at d;cases d
  simp only[jo o,ix,bA,gG,je,ii,DI];simp only[gG,je,ah,af,oa]at this⊢;exact this
def Km:∀(m h:Nat),h=m->∀{Z:O} {G:GM} {page dep b:Nat} {lo:bS} {hi:υ bS} {Ls j:δ aT} {ps F:δ Nat} {ax:K},Tg τ π Z G->Sub G h page lo hi Ls ps->dep+h<=20->Acc Z b j F ax->(∀q∈b::F,q∉π.all/\q≠τ)->j.length+Ls.length<=50000000->
 Rq0 97 [.ptr τ 0,I page,I dep,.str fr,.str to,.ptr b 0] Z (axS b F (j++Ls.filter (Dy fr to)) Z):=by
 intro m
 induction m using Nat.strongRecOn with
 |_ m ih=>
  intro h hm Z G page dep b lo hi Ls j ps F ax ht hs bb Tw hX Q;obtain⟨n,q,hn,my,rfl⟩:=hs;refine bE ?_;rw[w97];refine(AV ht hn).mono ?_;rintro _ M ⟨xn,rfl,k1,az⟩
  have ac:∀q∈b::F,q<Z.nx:=by
   intro q f;rcases ip.1 f with rfl|f
   .exact Tw.lt
   .exact(Tw.F q f).1
  obtain⟨vc,vk,rfl,c1,c2⟩:=az (b::F) ac;rw[aE,af,aL,aE,af];refine vi c1.bM.2.1 c2.bM.2.1 ?_;have k3:Kp [] M (O.new M (Ϙ [.bool n.leaf,vc,vk])):=(Δ [] M).new _;have g3:(O.new M (Ϙ [.bool n.leaf,vc,vk])).m.g M.nx=Φ (Ϙ [.bool n.leaf,vc,vk]):=ay _ _;have n3:(O.new M (Ϙ [.bool n.leaf,vc,vk])).nx=M.nx+1:=rfl;generalize O.new M (Ϙ [.bool n.leaf,vc,vk])=s3 at*;have K3:=k1.trans k3 V;have bd:=K3.nx;have a7:=k1.nx;have t3:=ht.still K3;have ai:=Tw.keep K3 V V;have CR:=c1.mono (k3.mono V);have ae:=c2.mono (k3.mono V);have e2:∀s,R .neq ψ true μ μ s=.ok Θ s:=λs=>rfl
  have qS:n.cells.length<=512:=by
   have:=fD n.leaf n.cells;have:=hn.size;rw[cq]at this;omega
  rw[e2,af,ag,B tW];rw[fl,ah,af,av,g3,ak];simp only[Gm,io,ag];cases h with
  |zero=>
   obtain⟨il,a8,aF,ql⟩:=(show ID G n lo hi Ls q from my);rw[il,gq rfl];have aC:=CR.len n.cells.length (bN _) J s3;simp only[yB,fl,ly,g3,kc,io,aC];refine bD (λfu vs s=>∃i d F' y o W,fu+i=n.cells.length/\vs=[.ptr τ 0,.str fr,.str to,.ptr b 0,vc,I n.cells.length,I i]/\Kp (b::F) s3 s/\Acc s b d F' y/\(∀q∈F',q∈F\/s3.nx<=q)/\fE G (n.cells.drop i) o W/\d++o.filter (Dy fr to)=j++Ls.filter (Dy fr to)/\d.length+o.length<=50000000) ?_ (n:=n.cells.length) ⟨0,j,F,ax,Ls,q,rfl,rfl,Δ _ _,ai,lk,aF,rfl,Q⟩;rintro fu vs s k ⟨i,d,F',y,o,W,hi,rfl,l,r,z,Vi,w,ph⟩ next;simp only[DJ,dd]
   by_cases hc:i<n.cells.length
   .rw[jp hc,gq rfl];refine(CR.mono l).fj (L:=n.cells.map ba) J (gH _) EV _ ?_;have e:(n.cells.map ba)[i]'(by simpa using hc)=ba n.cells[i]:=by simp
    rw[e];refine gW rfl rfl (iu _) ?_;have k7:Kp [] s (O.new s (Ϛ (ba n.cells[i]))):=(Δ _ s).new _;have g7:(O.new s (Ϛ (ba n.cells[i]))).m.g s.nx=Φ (Ϛ [.str n.cells[i].key,.str n.cells[i].value,I n.cells[i].dX,I n.cells[i].size]):=ay _ _;have n7:(O.new s (Ϛ (ba n.cells[i]))).nx=s.nx+1:=rfl;generalize O.new s (Ϛ (ba n.cells[i]))=s7 at*;have aj:=r.keep k7 V V;have uB:=l.nx;rw[vT hc]at Vi;obtain⟨v,p1,D,N,aa,al,rfl,rfl⟩:=Vi
    have ho:n.cells[i].ok true:=by
     have:=hn.ok.cell _ (mp hc)
     rwa [il]at this
    refine axr g7 ?_;refine Uw (v:=v) g7 ?_;simp only[ag];cases hb:Dy fr to (n.cells[i].key,v)with
    |false=>
     rw[ra,gq rfl,fV i J,af];rw[Ep,hb,B tW]at w;exact next (fu-1) _ _ J ⟨i+1,d,F',y,D,N,J,rfl,l.trans k7 V,aj,z,al,w,by simp at ph;omega⟩
    |true=>
     rw[r8,B tW];rw[Ep,hb,gq rfl]at w
     have ad:∀q∈b::F',q∉π.all/\q≠τ:=by
      intro q f;rcases ip.1 f with rfl|f
      .exact hX _ V
      .rcases z q f with h|h
       .exact hX _ QO
       .exact⟨λhh=>by have:=ht.pg.lt q hh;omega,λe=>afg⟩
     have ts:=(t3.yu l hX).still k7;rw[aG (n:=4) g7 rfl,af];refine(Hp ts ho aa).mono ?_;rintro _ H ⟨rfl,k8⟩;have n8:=k8.nx;have UH:=aj.keep k8 V V;have g8:=(k8.keep s.nx J V).trans g7;rw[aE,af,aL,aE,af,e2,af,ag,B tW,aZ];have ks:=(Δ [] H).skip;have a0:=k8.fresh ts.fr;have gX:(O.skip H).m.g H.nx=ν:=a0 _ (hI _);have a6:(O.skip H).nx=H.nx+1:=rfl;have T:=UH.keep ks V V;have gk:(O.skip H).m.g s.nx=_:=g8;generalize O.skip H=sk at*;have ql:aR ϐ2 [(0,1,.str n.cells[i].key),(1,1,.str v)] sk=.ok (.agg (bR (n.cells[i].key,v))) sk:=rfl;have a9:d.length<=50000000:=J
     have aI:=T.get;rw[bk,af,av,aI,ak];simp only[io,an];rw[ah,af,av,gk,ak];simp only[Gm,io];rw[ql,af];refine AM 32 T.own J (λq f=>⟨(T.F q f).1,by have:=(UH.F q f).1;omega⟩) J gX rfl rfl rfl rfl (by rw[wP];omega) ?_;intro v' aq F2 o2 qP Dr;have Po:=qP.nx;have bc:=UH.lt
     have aS:b∉H.nx::F':=by
      intro hh;rcases ip.1 hh with h|h
      .omega
      .exact(UH.F b h).2 rfl
     have aQ:=(qP.keep b T.lt aS).trans T.get;obtain⟨aw,Ws⟩:=o2.cI;have mL:bC [y] 0 [v']=[v']:=rfl;have aP:(O.set sk H.nx (.cells (K.agg (bR (n.cells[i].key,v))).bY 137 false)).m.g b=Φ (Ï [y]):=(ar _ _ _ _ J).trans T.get;have a5:(O.set sk H.nx (.cells (K.agg (bR (n.cells[i].key,v))).bY 137 false)).m.g s.nx=_:=(ar _ _ _ _ J).trans gk;rw[bk,af,aK,aQ,aU,Ws,mL,av,aP,ak,av,a5,ak];refine⟨⟨rfl,by simp[aw],V⟩,⟨⟨rfl,gt⟩,⟨rfl,gt⟩,gt⟩,⟨gt,gt⟩,?_⟩;rw[fV i J,af]
     have Dq:∀q∈F2,(q∈F\/s3.nx<=q)/\q<aq.nx/\q≠b:=λq f=>by
      obtain⟨a1,a2⟩:=Dr q f;refine⟨?_,a2,?_⟩
      .rcases a1 with h|h
       .exact z q h
       .right;omega
      .rcases a1 with h|h
       .exact(UH.F q h).2
       .intro e;omega
     have a4:=(((l.trans k7 V).trans k8 V).trans ks V).trans qP λq f=>by
      rcases ip.1 f with rfl|f
      .right;omega
      .exact(z q f).imp (λh=>QO) id
     refine next (fu-1) _ _ J ⟨i+1,d++[(n.cells[i].key,v)],F2,v',D,N,J,rfl,a4.set _ (.inl V) (by have:=T.lt;omega),⟨ao ..,by have:=T.lt;simp;omega,?_,λq f=>⟨(Dq q f).2.1,(Dq q f).2.2⟩⟩,λq f=>(Dq q f).1,al,?_,?_⟩
     .have e:cT d++(K.agg (bR (n.cells[i].key,v))).bY=cT (d++[(n.cells[i].key,v)]):=by rw[wk];rfl
      rw[e]at o2;exact o2.mono λq f=>ar _ _ _ _ (Dq q f).2.2
     .rw[<-w];simp
     .simp at ph⊢;omega
   .rw[jo hc,B tW];have BN:n.cells.drop i=[]:=ys J;rw[BN]at Vi;obtain⟨rfl,_⟩:=(show o=[]/\W=[]from Vi);simp only[List.filter_nil,zo]at w;refine⟨rfl,(K3.mono V).trans l lk,y,F',by rw[<-w];exact r,λq f=>(z q f).imp id λh=>J⟩
  |succ h=>
   obtain⟨il,Dm⟩:=(show SF (Sub G h) n lo hi Ls q from my);rw[il,B tW];have aM:R .eql ψ true (I dep) (I 40) s3=.ok Θ s3:=GW
   rw[aM,af,ag,B tW];have uB:=hn.ok.kR;rw[il,B tW]at uB;have BQ:=ae.len n.kids.length V J s3;rw[bU];simp only[ke];rw[fl,ah,af,av,g3,ak];simp only[Gm,kc,io];rw[BQ,af]
   refine bD (λfu vs s=>∃i d F' y o W,fu+i=n.kids.length/\vs=[.ptr τ 0,I dep,.str fr,.str to,.ptr b 0,.ptr M.nx 0,vk,I n.kids.length,I i]/\Kp (b::F) s3 s/\Acc s b d F' y/\(∀q∈F',q∈F\/s3.nx<=q)/\
    ((i=n.kids.length/\o=[])\/∃C,ck (Sub G h) (n.kids.drop i) (n.fF.drop i) C hi o W/\∀c,0<i->n.cells[i-1]?=Φ c->c.key=C)/\d++o.filter (Dy fr to)=j++Ls.filter (Dy fr to)/\d.length+o.length<=50000000) ?_ (n:=n.kids.length)
    ⟨0,j,F,ax,Ls,q,rfl,rfl,Δ _ _,ai,lk,.inr ⟨lo,by rw[tu,tu];exact Dm,λc h0=>absurd h0 (Nat.lt_irrefl 0)⟩,rfl,Q⟩
   rintro fu vs s k ⟨i,d,F',y,o,W,fB,rfl,l,r,z,NV,w,ph⟩ next;simp only[ke];rw[dd,af,ag];have oL:=l.nx
   by_cases hc:i<n.kids.length
   .rw[jp hc,gq rfl];rcases NV with⟨he,_⟩|⟨C,Y,aW⟩
    .omega
    have ci:=CR.mono l;have di:=ae.mono l;have gi:=(l.keep M.nx J (λhh=>by have:=ac _ hh;omega)).trans g3;refine di.idx (i:=i) EV _ ?_;have e9:(cR n.kids)[i]'(by simpa using hc)=I n.kids[i]:=by simp[cR]
    rw[e9]
    have aY:∃I7 S p1 D N,Sub G h n.kids[i] C I7 S p1/\o=S++D/\(∀c,n.cells[i]?=Φ c->I7=Φ c.key)/\((i+1=n.kids.length/\D=[])\/∃ap,ck (Sub G h) (n.kids.drop (i+1)) (n.fF.drop (i+1)) ap hi D N/\∀c,0<i+1->n.cells[i+1-1]?=Φ c->c.key=ap):=by
     rw[vT hc]at Y
     by_cases hl:i<n.fF.length
     .rw[vT hl]at Y;obtain⟨S,p1,D,N,a,b',rfl,rfl⟩:=ck.cons.1 Y
      have am:∀c,n.cells[i]?=Φ c->c.key=n.fF[i]:=λc u=>by
       obtain⟨h1,h2⟩:=qo.1 u;simp[bp.fF,h2]
      exact⟨_,S,p1,D,N,a,rfl,λc u=>by rw[am c u],.inr ⟨_,b',λc _ u=>am c (by simpa using u)⟩⟩
     .rw[ys (show n.fF.length<=i from J)]at Y;obtain⟨he,hS⟩:=ck.one.1 Y;rw[kJ]at hl;exact⟨_,o,W,[],[],hS,V,λc u=>(by rw[In J]at u;cases u),.inl ⟨J,rfl⟩⟩
    obtain⟨I7,S,p1,D,N,hS,rfl,a3,Zb⟩:=aY;have aD:=hS.facts;refine Sv gi ci qS J (λab=>?_) (λab=>?_)
    .rw[ag,gq rfl,fV i J,af]
     have gX:S.filter (Dy fr to)=[]:=oF λx hx=>by
      obtain⟨b1,b2⟩:=aD.in_ x hx;unfold Dy;rcases ab with⟨c,u,P⟩|⟨h0,h2,c,u,P⟩
      .rw[a3 c u]at b2;have b2:eI x.1 c.key:=b2;have:=b2.kI P;rw[jp this];rfl
      .have b3:lO to x.1:=by
        have:=aW c h0 u;rw[this]at P;exact P.trans b1
       have:=jo b3;rw[jo h2,this];simp
     rw[TB,gX,ow]at w;exact next (fu-1) _ _ J ⟨i+1,d,F',y,D,N,J,rfl,l,r,z,Zb,w,by simp at ph;omega⟩
    .rw[ag,B tW,fV dep J,af]
     have ad:∀q∈b::F',q∉π.all/\q≠τ:=by
      intro q f;rcases ip.1 f with rfl|f
      .exact hX _ V
      .rcases z q f with h|h
       .exact hX _ QO
       .exact⟨λhh=>by have:=ht.pg.lt q hh;omega,λe=>afg⟩
     have ts:=t3.yu l hX;refine(ih h J h rfl ts hS J r ad (by simp at ph;omega)).mono ?_;rintro _ ew ⟨rfl,rk,x2,F2,aN,Dr⟩;rw[e2,af,ag,B tW,fV i J,af];refine next (fu-1) _ _ J ⟨i+1,d++S.filter (Dy fr to),F2,x2,D,N,J,rfl,l.trans rk λq f=>?_,aN,λq f=>?_,Zb,?_,?_⟩
     .rcases ip.1 f with rfl|f
      .left;simp
      .exact(z q f).imp (λh=>QO) id
     .rcases Dr q f with h|h
      .exact z q h
      .right;omega
     .rw[<-w,TB,we]
     .have:=Jf (Dy fr to) S;simp at ph⊢;omega
   .rw[jo hc,B tW]
    have aH:o=[]:=by
     rcases NV with⟨_,h⟩|⟨C,Y,_⟩
     .exact h
     .have:=Y.len;rw[st,st]at this;omega
    subst aH;simp only[List.filter_nil,zo]at w;refine⟨rfl,(K3.mono V).trans l lk,y,F',by rw[<-w];exact r,λq f=>(z q f).imp id λh=>J⟩
def Sub.short {G:GM}:∀{h page:Nat} {lo:bS} {hi:υ bS} {L:δ aT} {ps:δ Nat},Sub G h page lo hi L ps->L.length<=512*ps.length:=by
 intro h
 induction h with
 |zero=>
  rintro page lo hi L ps ⟨n,q,l,⟨_,_,m,_⟩,rfl⟩;have:=m.len;have h1:=fD n.leaf n.cells;have h2:=l.size;rw[cq]at h2;simp;omega
 |succ h j=>
  rintro page lo hi L ps ⟨n,q,l,⟨_,c⟩,rfl⟩
  have key:∀(e:δ Nat) (d:δ bS) lo L q,ck (Sub G h) e d lo hi L q->L.length<=512*q.length:=by
   intro e
   induction e with
   |nil=>intro d lo L q c;cases d<;>exact c.elim
   |cons k e f=>
    intro d lo L q c;cases d with
    |nil=>rw[ck.one]at c;exact j c.2
    |cons s d=>
     rw[ck.cons]at c;obtain⟨v,r,u,o,a,b,rfl,rfl⟩:=c;have h1:=j a;have h2:=f _ _ _ _ b;simp;omega
  have:=key _ _ _ _ _ c;simp;omega
end
end
section
variable {τ:Nat} {π:PI} {Z Z':O} {G:GM} {fr to:bS}
def RH {L:δ aT}(a:gQ G L)(c:G.root=0):L=[]:=by
 rcases a.tree with h|⟨hh,ps,_,b⟩
 .exact h.2.1
 .obtain⟨n,q,hn,_⟩:=b;have:=hn.bV.1;omega
def RL (h:Tg τ π Z G){L:δ aT}(b:gQ G L)(fr to:bS):Rq0 52 [.ptr τ 0,.str fr,.str to] Z λy Z'=>∃x,y=.tuple [x,μ]/\Made 2 137 (cT (L.filter (Dy fr to))) Z x Z':=by
 refine bE ?_;rw[w52];rw[cc,af,ag,B tW];refine h.get' ?_;refine(Lh h.pg).same ?_;have r:R .eql ψ true (I G.root) μ Z=.ok (.bool (decide (G.root=0))) Z:=CU
 rw[r,af,ag]
 by_cases c:G.root=0
 .rw[jp c,gq rfl,RH b c];exact⟨.ae,rfl,[],Δ _ _,.inl ⟨rfl,rfl,rfl⟩,V⟩
 .rw[jo c,B tW,bW,aP];have i:Kp [] Z (O.new Z (Ï [.ae])):=(Δ [] Z).new _;have o:(O.new Z (Ï [.ae])).m.g Z.nx=Φ (Ï [.ae]):=ay _ _;have u:(O.new Z (Ï [.ae])).nx=Z.nx+1:=rfl;generalize O.new Z (Ï [.ae])=s2 at*;have d:=h.still i;refine d.get' ?_;refine(Lh d.pg).same ?_
  obtain⟨hh,ps,⟨j,_⟩,f⟩:∃h ps,CH G ps/\Sub G h G.root [] ν L ps:=by
   rcases b.tree with h|h
   .exact absurd h.1 c
   .exact h
  have w:=f.deep j b.ok;have l:=f.short;have v:=b.ok.size;have s:Acc s2 Z.nx [] [] .ae:=⟨o,J,.inl ⟨rfl,rfl,rfl⟩,V⟩;refine(Km hh hh rfl (dep:=0) d f J s (λq a=>?_) xI).mono ?_
  .have a:q=Z.nx:=by simpa using a
   subst a;exact⟨λhh=>afd,λe=>abg⟩
  .rintro _ s4 ⟨rfl,k,x,F,acc,n⟩;have p:R .neq ψ true μ μ s4=.ok Θ s4:=rfl;rw[p,af,ag,B tW,av,acc.get,ak];refine⟨x,rfl,F,i.trans k V,?_,λq a=>⟨?_,(acc.F q a).1⟩⟩
   .have:=acc.own
    rwa [ow]at this
   .rcases n q a with h|h
    .cases h
    .omega
def Ra (h:Tg τ π Z G):Rq0 130 [.ptr τ 0] Z λv Z'=>v=I G.bT/\Z'=Z:=by
 refine bE ?_;rw[aqB];rw[cc,af,ag,B tW];refine h.get' ?_;refine(RU h.pg).same ?_;exact⟨rfl,rfl⟩
def VL (h:Pg π Z G)(b:dV Z):Rq0 117 [.ptr π.p 0] Z λv Z'=>v=.ptr Z.nx 0/\Kp [] Z Z'/\Tg Z.nx π Z' G:=by
 refine bE ?_;rw[aqL];have a:aR [.bq] [(0,1,.ptr π.p 0)] Z=.ok (.agg [.ptr π.p 0]) Z:=rfl;rw[cc,af,ag,B tW,a,af,bz,aN];refine⟨rfl,rfl,(Δ [] Z).new _,?_⟩;have k:Kp [] Z (O.new Z (.cells [.ptr π.p 0] 189 false)):=(Δ [] Z).new _;exact⟨h.still k,V,λhh=>by have:=h.lt _ hh;omega,⟨189,φ,ay _ _⟩,k.fresh b⟩
end
section
variable {G:GM}{L:δ aT}{ps:δ Nat}
def eW (L:δ aT):Nat:=(L.map λx=>bO x.2.length).sum
def fE.bound {a:δ dq}(h:fE G a L ps):ps.length<=eW L:=by
 induction a generalizing L ps with
 |nil=>obtain⟨rfl,rfl⟩:=h;simp
 |cons c a b=>
  obtain⟨v,g,i,f,e,d,rfl,rfl⟩:=h;have:=b d;have:=yY e;simp only[eW,pw,List.sum_cons,km]at*;omega
def rh (a Bq0:δ aT):eW (a++Bq0)=eW a+eW Bq0:=by simp[eW]
def ck.bound {S:tM}(c:∀k lo hi L q,S k lo hi L q->q.length+1<=2*L.length+eW L){b:δ Nat}{a:δ bS}{lo:bS}{hi:υ bS}(h:ck S b a lo hi L ps):ps.length+b.length<=2*L.length+eW L:=by
 induction b generalizing a lo L ps with
 |nil=>cases a<;>exact h.elim
 |cons k b d=>
  cases a with
  |nil=>rw[ck.one]at h;obtain⟨rfl,h⟩:=h;exact c _ _ _ _ _ h
  |cons s a=>
   rw[ck.cons]at h;obtain⟨l,i,j,g,f,e,rfl,rfl⟩:=h;have:=c _ _ _ _ _ f;have:=d e;rw[rh,lx,km,km];omega
def Sub.bound :∀{h page:Nat} {lo:bS} {hi:υ bS} {L:δ aT} {ps:δ Nat},Sub G h page lo hi L ps->ps.length+1<=2*L.length+eW L:=by
 intro h
 induction h with
 |zero=>
  rintro page lo hi L ps ⟨m,q,a,⟨_,_,c,_⟩,rfl⟩;have h1:=c.bound;have h2:=c.len;have f:=TK.2 a.full;rw[lx];omega
 |succ h d=>
  rintro page lo hi L ps ⟨m,q,a,⟨g,b⟩,rfl⟩;have h1:=b.bound λk lo hi L q e=>d e;have h2:=b.len;have f:=TK.2 a.full;rw[kJ]at h2;rw[lx];omega
def gQ.room (h:gQ G L):G.aO<=G.bT+(2*L.length+eW L)+1:=by
 rcases h.tree with⟨_,rfl,a⟩|⟨hh,ps,a,b⟩
 .have:=a.n;simp at this;omega
 .have:=a.n;have:=b.bound;omega
end
