import Derived.Test.YtomffjeofpafnaaGreatDoorBtD
namespace Lim
open Go
noncomputable section
set_option maxRecDepth 100000
def sI (fr to:cc)(x:bA):Bool:= !decide (eC x.1 fr)&&(decide (to=[])||decide (eC x.1 to))
def gV (p:bA):List CV:=[.str p.1, .str p.2]
def bZ (L:List bA):List CV:=(L.map gV).flatten
theorem dA (L:List bA):(bZ L).length=L.length*2:=by unfold bZ;rw[fw (w:=2) (by intro x hx;obtain⟨c,_,rfl⟩:=aBd.1 hx;rfl)];simp
theorem jQ (a b:List bA):bZ (a++b)=bZ a++bZ b:=by simp[bZ]
structure Acc (st:St)(b:Nat)(A:List bA)(F:List Nat)(x:CV):Prop where
 get:st.mem.get b=some (.cells [x] 37 false)
 lt:b<st.next
 own:Own st x 2 41 (bZ A) F
 F:∀q∈F,q<st.next/\q≠b
theorem Acc.keep {st st':St}{b:Nat}{A:List bA}{F:List Nat}{x:CV}(h:Acc st b A F x){X:List Nat}(hk:Kp X st st')(hb:b∉X)(hx:∀q∈F,q∉X):Acc st' b A F x:=
 ⟨(hk.keep b h.lt hb).trans h.get,aAZ h.lt hk.next,h.own.keep hk fun q hq=>⟨(h.F q hq).1,hx q hq⟩,fun q hq=>⟨aAZ (h.F q hq).1 hk.next,(h.F q hq).2⟩⟩
def aog (b:Nat)(F:List Nat)(A:List bA)(st:St)(y:CV)(st':St):Prop:=y=I 0/\Kp (b::F) st st'/\∃x' F',Acc st' b A F' x'/\∀q∈F',q∈F\/st.next<=q
section
variable {τ:Nat} {π:PI} {st st':St} {G:GM} {fr to:cc}
theorem anL {s:St}{p:Nat}{x:CV}{l:List CV}{ty:TypeId}{g:Bool}(hg:s.mem.get p=some (.cells (x::l) ty g)){K:CV->Prop}(hK:K x):us (aC (.ptr p 0) s) K:=by
 rw[aA,hg,aq];exact hK
theorem O2 {s:St}{p:Nat}{key:cc}{v:List UInt8}{l:List CV}{ty:TypeId}{g:Bool}(hg:s.mem.get p=some (.cells (.str key::l) ty g)){K:CV->Prop}(hK:K (.bool (!sI fr to (key,v)))):
 us (aj .lss none false (.str key) (.str fr) s) fun ef=>us (aY (ak false ef) s (.ok (.str to) s)) fun dI=>us (aY (ak false ef) s (aj .neq (some .str) true dI (.str []) s)) fun eB=>us (aY (ak false ef) s (.ok eB s)) fun dZ=>
  jI (ak true dZ) 0 (.ptr p 0) s fun eo=>us (aY (ak true dZ) s (.ok (.str to) s)) fun eF=>us (aY (ak true dZ) s (aj .geq none false eo eF s)) fun dJ=>us (aY (ak false ef) s (ba dZ dJ (.bool false) s)) fun eT=>us (ba ef (.bool true) eT s) K:=by
 rw[dX,yo,af];unfold sI at hK
 by_cases h1:eC key fr
 ·simp only[h1,aBA,aAU,Bool.false_and,aAT]at hK;simp only[aAJ h1,aH,aAz,aAO,aAU,cB,af,jI,aG,aAY,nP];exact hK
 ·simp only[aAB h1,aAT,Bool.true_and]at hK;simp only[aAB h1,aH,aAz,aAO,aAT,bo,af,dX,kQ]
  by_cases h2:to=[]
  ·simp only[h2,aBA,Bool.true_or,aAU]at hK;simp only[h2,aBA,aAU,aAY,cB,af,jI,aG,aAz,aAO];exact hK
  ·simp only[aAB h2,Bool.false_or]at hK;simp only[aAB h2,aAT,aAY,bo,af,jI,aG,ah,aA,hg,aq,aAF,aAy,av,dX,qW,aAz,aAO];have:decide (jY to key)= !decide (eC key to):=by unfold jY;by_cases h:eC key to<;>simp[h]
   rw[this];exact hK
def SN (n:bg)(fr to:cc)(i:Nat):Prop:=(∃c,n.cells[i]?=some c/\jY c.key fr)\/(0<i/\to≠[]/\∃c,n.cells[i-1]?=some c/\jY to c.key)
theorem Sr {X:List Nat}{s:St}{vc:CV}{n:bg}(c:Sl s X vc 4 (bC n.cells)){i:Nat}(hi:i<n.cells.length){K:CV->Prop}(hK:K (.str n.cells[i].key)):ft (some true) 4 0 vc (I i) s K:=by
 obtain⟨b,p,l,t,g,q1,q2,q3,q4,q5⟩:=c.cellAt (L:=n.cells.map aU) (by omega) (fJ _) (i:=i) (by simpa using hi);have q6:=q5 0 (.str n.cells[i].key) (by simp[aU]);rw[aBl]at q6;simp only[bo,af,ft,ah,aA,aq,aBl,q1,q2,q6,av];exact hK
theorem Nb {X:List Nat}{s:St}{p:Nat}{lf:CV}{n:bg}{vc vk:CV}(g:s.mem.get p=some (.cells [lf,vc,vk] 105 false))(c:Sl s X vc 4 (bC n.cells))(qx:n.cells.length<=512){i:Nat}(hi:i<=n.cells.length){K:CV->Prop}(hT:SN n fr to i->K (.bool true))(hF:¬SN n fr to i->K (.bool false)):
 fl 1 (.ptr p 0) s fun pw=>us (bh .slice pw s) fun uy=>us (aj .lss none false (I i) uy s) fun pB=>jI (ak true pB) 1 (.ptr p 0) s fun ux=>us (aY (ak true pB) s (.ok (I i) s)) fun qK=>
  ft (ak true pB) 4 0 ux qK s fun qE=>us (aY (ak true pB) s (.ok (.str fr) s)) fun tb=>us (aY (ak true pB) s (aj .leq none false qE tb s)) fun uw=>us (ba pB uw (.bool false) s) fun oK=>
  us (aY (ak false oK) s (.ok (I i) s)) fun tI=>us (aY (ak false oK) s (aj .gtr none true tI (.int .i64 0) s)) fun mq=>us (aY (ak false oK) s (.ok mq s)) fun oJ=>us (aY (ak true oJ) s (.ok (.str to) s)) fun tH=>
  us (aY (ak true oJ) s (aj .neq (some .str) true tH (.str []) s)) fun oI=>us (aY (ak false oK) s (ba oJ oI (.bool false) s)) fun vK=>us (aY (ak false oK) s (.ok vK s)) fun lW=>jI (ak true lW) 1 (.ptr p 0) s fun wC=>
  us (aY (ak true lW) s (.ok (I i) s)) fun wB=>us (aY (ak true lW) s (aj .sub none true wB (.int .i64 1) s)) fun zH=>ft (ak true lW) 4 0 wC zH s fun vI=>us (aY (ak true lW) s (.ok (.str to) s)) fun sR=>
  us (aY (ak true lW) s (aj .geq none false vI sR s)) fun Ge=>us (aY (ak false oK) s (ba lW Ge (.bool false) s)) fun AB=>us (ba oK (.bool true) AB s) K:=by
 have hlen:=c.len n.cells.length (bL _) (by omega) s;have aci:∀(j:Nat) (hj:j<n.cells.length) (K:CV->Prop),K (.str n.cells[j].key)->ft (some true) 4 0 vc (I j) s K:=fun j hj K hK=>Sr c hj hK;rw[fl,ah,af,aA,g,aq];simp only[aAF,aAA,aAy,av,hlen,af,dv]
 have acV:¬(∃c,n.cells[i]?=some c/\jY c.key fr)->us (aj .gtr none true (I i) (.int .i64 0) s) fun mq=>us (.ok mq s) fun oJ=>us (aY (ak true oJ) s (.ok (.str to) s)) fun tH=>
  us (aY (ak true oJ) s (aj .neq (some .str) true tH (.str []) s)) fun oI=>us (ba oJ oI (.bool false) s) fun vK=>us (.ok vK s) fun lW=>jI (ak true lW) 1 (.ptr p 0) s fun wC=>
  us (aY (ak true lW) s (.ok (I i) s)) fun wB=>us (aY (ak true lW) s (aj .sub none true wB (.int .i64 1) s)) fun zH=>ft (ak true lW) 4 0 wC zH s fun vI=>us (aY (ak true lW) s (.ok (.str to) s)) fun sR=>
  us (aY (ak true lW) s (aj .geq none false vI sR s)) fun Ge=>us (ba lW Ge (.bool false) s) fun AB=>us (ba (.bool false) (.bool true) AB s) K:=fun qw=>by
  have e0:aj .gtr none true (I i) (.int .i64 0) s= .ok (.bool (decide (0<i))) s:=by rw[aw,dq];congr 2;simp only[aBc];omega
  rw[e0,af,af]
  by_cases h0:0<i
  ·simp only[aAJ h0,aH,aAY,bo,af,dX,kQ,aG]
   by_cases h2:to=[]
   ·simp only[h2,aBA,aAU,aH,aAY,cB,af,jI,ft,aG,aAz,aAO]
    exact hF fun h=>by
     rcases h with h|h
     ·exact qw h
     ·exact h.2.1 h2
   ·simp only[aAB h2,aAT,aH,aAY,bo,af,jI,ah,aA,g,aq,aAF,aAA,aAy,av,xS i (by omega) h0];have hj:i-1<n.cells.length:=by omega
    refine aci (i-1) hj _ ?_;simp only[dX,qW,af,aG,aAY,aAz,aAO]
    by_cases h3:jY to n.cells[i-1].key
    ·rw[aAJ h3];exact hT (.inr ⟨h0,h2,_,aAC hj,h3⟩)
    ·rw[aAB h3]
     exact hF fun h=>by
      rcases h with h|⟨_,_,c',oD,h⟩
      ·exact qw h
      ·rw[aAC hj]at oD;cases oD;exact h3 h
  ·simp only[aAB h0,aH,aAY,cB,af,jI,ft,aG,aAz,aAO]
   exact hF fun h=>by
    rcases h with h|h
    ·exact qw h
    ·exact h0 h.1
 by_cases h1:i<n.cells.length
 ·simp only[aAJ h1,aH,aAY,bo,af,jI,ah,aA,g,aq,aAF,aAA,aAy,av];refine aci i h1 _ ?_;simp only[dX,MM,af,aG,aAY]
  by_cases h2:jY n.cells[i].key fr
  ·simp only[aAJ h2,aH,aAz,aAO,aAU,cB,af,aAY,nP,ft,aG];exact hT (.inl ⟨_,aAC h1,h2⟩)
  ·have:=acV fun ⟨c',oD,h⟩=>by rw[aAC h1]at oD;cases oD;exact h2 h
   simp only[aAB h2,aH,aAz,aAO,aAT,bo];simp only[aH,jI,aA,g,aq,ah,af,aAF,aAA,aAy,av,aAz,aAO]at this⊢;exact this
 ·have:=acV fun ⟨c',oD,h⟩=>by rw[aBs (by omega)]at oD;cases oD
  simp only[aAB h1,aH,aAY,cB,af,jI,ft,aG,aAz,aAO,aAT,bo];simp only[aH,jI,ft,aA,g,aq,ah,af,aAF,aAA,aAy,av,aAz,aAO]at this⊢;exact this
theorem GA:∀(m h:Nat),h=m->∀{st:St} {G:GM} {page dep b:Nat} {lo:cc} {hi:Option cc} {Ls A:List bA} {ps F:List Nat} {ax:CV},Tg τ π st G->Sub G h page lo hi Ls ps->dep+h<=20->Acc st b A F ax->(∀q∈b::F,q∉π.all/\q≠τ)->A.length+Ls.length<=50000000->
 R 55 [.ptr τ 0,I page,I dep, .str fr, .str to, .ptr b 0] st (aog b F (A++Ls.filter (sI fr to)) st):=by
 intro m
 induction m using Nat.strongRecOn with
 |_ m ih=>
  intro h hm st G page dep b lo hi Ls A ps F ax ht hs awd Ob hX hlen;obtain⟨n,q,hn,kI,rfl⟩:=hs;refine bN ?_;rw[w55];refine(xQ ht hn).mono ?_;rintro _ s1 ⟨xn,rfl,k1,hxn⟩
  have hbF:∀q∈b::F,q<st.next:=by
   intro q hq;rcases aAD.1 hq with rfl|hq
   ·exact Ob.lt
   ·exact(Ob.F q hq).1
  obtain⟨vc,vk,rfl,c1,c2⟩:=hxn (b::F) hbF;rw[aD,af,aN,aD,af];refine sh c1.bG.2.1 c2.bG.2.1 ?_;have k3:Kp [] s1 (St.new s1 (.cells [.bool n.leaf,vc,vk] 105 false)):=(Kp.refl [] s1).new _;have g3:(St.new s1 (.cells [.bool n.leaf,vc,vk] 105 false)).mem.get s1.next=some (.cells [.bool n.leaf,vc,vk] 105 false):=au _ _;have n3:(St.new s1 (.cells [.bool n.leaf,vc,vk] 105 false)).next=s1.next+1:=rfl;generalize St.new s1 (.cells [.bool n.leaf,vc,vk] 105 false)=s3 at*;have K3:Kp [] st s3:=k1.trans k3 (by simp);have K3n:=K3.next;have k1n:=k1.next;have t3:=ht.still K3;have aee:=Ob.keep K3 (by simp) (by simp);have X6:=c1.mono (k3.mono (by simp));have c23:=c2.mono (k3.mono (by simp));have e2:∀s,aj .neq (some .int) true (I 0) (.int .i64 0) s= .ok (.bool false) s:=fun s=>rfl
  have qx:n.cells.length<=512:=by
   have:=eR n.leaf n.cells;have:=hn.size;rw[bX]at this;omega
  rw[e2,af,ag,aAH (by decide)];rw[fl,ah,af,aA,g3,aq];simp only[aAF,aAA,aAy,av,ag];cases h with
  |zero=>
   obtain⟨fV,hlt,Xo,mC⟩:=(show EF G n lo hi Ls q from kI);rw[fV,aAI rfl];have WO:=X6.len n.cells.length (bL _) (by omega) s3;simp only[cN,aJ,aK,fl,ah,af,aA,g3,aq,aAF,aAA,aAy,av,WO];refine bK (fun fu vs s=>∃i A' F' x' Li pi,fu+i=n.cells.length/\vs=[.ptr τ 0, .str fr, .str to, .ptr b 0,vc,I n.cells.length,I i]/\Kp (b::F) s3 s/\Acc s b A' F' x'/\(∀q∈F',q∈F\/s3.next<=q)/\eS G (n.cells.drop i) Li pi/\A'++Li.filter (sI fr to)=A++Ls.filter (sI fr to)/\A'.length+Li.length<=50000000) ?_ (n:=n.cells.length) ⟨0,A,F,ax,Ls,q,rfl,rfl,Kp.refl _ _,aee,fun q hq=> .inl hq,Xo,rfl,hlen⟩;rintro fu vs s k ⟨i,A',F',x',Li,pi,hi,rfl,hk,acc,qC,PM,Gw,rp⟩ next;simp only[aJ,aK,dv,af,ag]
   by_cases hc:i<n.cells.length
   ·rw[aAJ hc,aAI rfl];refine(X6.mono hk).iT (L:=n.cells.map aU) (by omega) (fJ _) (by simpa using hc) _ ?_;have e:(n.cells.map aU)[i]'(by simpa using hc)=aU n.cells[i]:=by simp
    rw[e];refine tn rfl rfl (gp _) ?_;have k7:Kp [] s (St.new s (.cells (aU n.cells[i]) 109 false)):=(Kp.refl _ s).new _;have g7:(St.new s (.cells (aU n.cells[i]) 109 false)).mem.get s.next=some (.cells [.str n.cells[i].key, .str n.cells[i].value,I n.cells[i].dL,I n.cells[i].size] 109 false):=au _ _;have n7:(St.new s (.cells (aU n.cells[i]) 109 false)).next=s.next+1:=rfl;generalize St.new s (.cells (aU n.cells[i]) 109 false)=s7 at*;have aed:=acc.keep k7 (by simp) (by simp);have qB:=hk.next;rw[aAS hc]at PM;obtain⟨v,p1,L2,p2,hval,acH,rfl,rfl⟩:=PM
    have ho:n.cells[i].ok true:=by
     have:=hn.ok.cell _ (aAW hc)
     rwa [fV]at this
    refine anL g7 ?_;refine O2 (v:=v) g7 ?_;simp only[ag];cases hb:sI fr to (n.cells[i].key,v)with
    |false=>
     rw[aAT,aAI rfl,gF i (by omega),af];rw[aBV,hb,aAH (by decide)]at Gw;exact next (fu-1) _ _ (by omega) ⟨i+1,A',F',x',L2,p2,by omega,rfl,hk.trans k7 (by simp),aed,qC,acH,Gw,by simp at rp;omega⟩
    |true=>
     rw[aAU,aAH (by decide)];rw[aBV,hb,aAI rfl]at Gw
     have hX':∀q∈b::F',q∉π.all/\q≠τ:=by
      intro q hq;rcases aAD.1 hq with rfl|hq
      ·exact hX _ (by simp)
      ·rcases qC q hq with h|h
       ·exact hX _ (by simp[h])
       ·exact⟨fun hh=>by have:=ht.pg.lt q hh;omega,fun e=>by have:=ht.lt;omega⟩
     have ts:Tg τ π s7 G:=(t3.vg hk hX).still k7;rw[aQ (n:=4) g7 rfl,af];refine(DG ts ho hval).mono ?_;rintro _ s8 ⟨rfl,k8⟩;have n8:=k8.next;have O8:=aed.keep k8 (by simp) (by simp);have g8:=(k8.keep s.next (by omega) (by simp)).trans g7;rw[aD,af,aN,aD,af,e2,af,ag,aAH (by decide),bt];have ks:Kp [] s8 (St.skip s8):=(Kp.refl [] s8).skip;have Xd:cY s8:=k8.fresh ts.fr;have im:(St.skip s8).mem.get s8.next=none:=Xd _ (aAE _);have nsk:(St.skip s8).next=s8.next+1:=rfl;have FV:=O8.keep ks (by simp) (by simp);have gk:(St.skip s8).mem.get s.next=_:=g8;generalize St.skip s8=sk at*;have mC:bD [.str [], .str []] [(0,1, .str n.cells[i].key),(1,1, .str v)] sk= .ok (.agg (gV (n.cells[i].key,v))) sk:=rfl;have aws:A'.length<=50000000:=by omega
     have gkb:=FV.get;rw[br,af,aA,gkb,aq];simp only[aAy,av];rw[ah,af,aA,gk,aq];simp only[aAF,aAy,av];rw[mC,af];refine Dk 32 FV.own (by omega) (fun q hq=>⟨(FV.F q hq).1,by have:=(O8.F q hq).1;omega⟩) (by omega) im rfl rfl rfl rfl (by rw[dA];omega) ?_;intro v' df F2 o2 so ze;have M5:=so.next;have art:=O8.lt
     have amm:b∉s8.next::F':=by
      intro hh;rcases aAD.1 hh with h|h
      ·omega
      ·exact(O8.F b h).2 rfl
     have anj:=(so.keep b FV.lt amm).trans FV.get;obtain⟨Vx,QR⟩:=o2.cr;have jZ:bp [x'] 0 [v']=[v']:=rfl;have amM:(St.set sk s8.next (.cells (CV.agg (gV (n.cells[i].key,v))).cD 41 false)).mem.get b=some (.cells [x'] 37 false):=(al _ _ _ _ (by omega)).trans FV.get;have adu:(St.set sk s8.next (.cells (CV.agg (gV (n.cells[i].key,v))).cD 41 false)).mem.get s.next=_:=(al _ _ _ _ (by omega)).trans gk;rw[br,af,aF,anj,aR,QR,jZ,aA,amM,aq,aA,adu,aq];refine⟨⟨rfl,by simp[Vx],by simp⟩,⟨⟨rfl,trivial⟩,⟨rfl,trivial⟩,trivial⟩,⟨trivial,trivial⟩, ?_⟩;rw[gF i (by omega),af]
     have xE:∀q∈F2,(q∈F\/s3.next<=q)/\q<df.next/\q≠b:=fun q hq=>by
      obtain⟨a1,a2⟩:=ze q hq;refine⟨?_,a2, ?_⟩
      ·rcases a1 with h|h
       ·exact qC q h
       ·right;omega
      ·rcases a1 with h|h
       ·exact(O8.F q h).2
       ·intro e;omega
     have ajp:Kp (b::F) s3 df:=(((hk.trans k7 (by simp)).trans k8 (by simp)).trans ks (by simp)).trans so fun q hq=>by
      rcases aAD.1 hq with rfl|hq
      ·right;omega
      ·exact(qC q hq).imp (fun h=>by simp[h]) id
     refine next (fu-1) _ _ (by omega) ⟨i+1,A'++[(n.cells[i].key,v)],F2,v',L2,p2,by omega,rfl,ajp.set _ (.inl (by simp)) (by have:=FV.lt;omega),⟨ao _ _ _,by have:=FV.lt;simp;omega, ?_,fun q hq=>⟨(xE q hq).2.1,(xE q hq).2.2⟩⟩,fun q hq=>(xE q hq).1,acH, ?_, ?_⟩
     ·have e:bZ A'++(CV.agg (gV (n.cells[i].key,v))).cD=bZ (A'++[(n.cells[i].key,v)]):=by rw[jQ];rfl
      rw[e]at o2;exact o2.mono fun q hq=>al _ _ _ _ (xE q hq).2.2
     ·rw[<-Gw];simp
     ·simp at rp⊢;omega
   ·rw[aAB hc,aAH (by decide)];have HG:n.cells.drop i=[]:=aBj (by omega);rw[HG]at PM;obtain⟨rfl,_⟩:=(show Li=[]/\pi=[]from PM);simp only[List.filter_nil,aBz]at Gw;refine⟨rfl,(K3.mono (by simp)).trans hk fun q hq=> .inl hq,x',F',by rw[<-Gw];exact acc,fun q hq=>(qC q hq).imp id fun h=>by omega⟩
  |succ h=>
   obtain⟨fV,Ap⟩:=(show Nk (Sub G h) n lo hi Ls q from kI);rw[fV,aAH (by decide)];have e40:aj .eql (some .int) true (I dep) (.int .i64 40) s3= .ok (.bool false) s3:=by rw[aw,cz,aAB (by omega)]
   rw[e40,af,ag,aAH (by decide)];have qB:=hn.ok.jf;rw[fV,aAH (by decide)]at qB;have yX:=c23.len n.kids.length (by simp) (by omega) s3;rw[cN];simp only[aJ,aK];rw[fl,ah,af,aA,g3,aq];simp only[aAF,aAA,aAy,av];rw[yX,af]
   refine bK (fun fu vs s=>∃i A' F' x' Li pi,fu+i=n.kids.length/\vs=[.ptr τ 0,I dep, .str fr, .str to, .ptr b 0, .ptr s1.next 0,vk,I n.kids.length,I i]/\Kp (b::F) s3 s/\Acc s b A' F' x'/\(∀q∈F',q∈F\/s3.next<=q)/\
    ((i=n.kids.length/\Li=[])\/∃loi,bW (Sub G h) (n.kids.drop i) (n.eW.drop i) loi hi Li pi/\∀c,0<i->n.cells[i-1]?=some c->c.key=loi)/\A'++Li.filter (sI fr to)=A++Ls.filter (sI fr to)/\A'.length+Li.length<=50000000) ?_ (n:=n.kids.length)
    ⟨0,A,F,ax,Ls,q,rfl,rfl,Kp.refl _ _,aee,fun q hq=> .inl hq, .inr ⟨lo,by rw[aBg,aBg];exact Ap,fun c h0=>absurd h0 (Nat.lt_irrefl 0)⟩,rfl,hlen⟩
   rintro fu vs s k ⟨i,A',F',x',Li,pi,fv,rfl,hk,acc,qC,Jl,Gw,rp⟩ next;simp only[aJ,aK];rw[dv,af,ag];have lI:=hk.next
   by_cases hc:i<n.kids.length
   ·rw[aAJ hc,aAI rfl];rcases Jl with⟨he,_⟩|⟨loi,wX,akP⟩
    ·omega
    have ci:=X6.mono hk;have di:=c23.mono hk;have gi:=(hk.keep s1.next (by omega) (fun hh=>by have:=hbF _ hh;omega)).trans g3;refine di.idx (i:=i) (by simpa using hc) _ ?_;have e9:(ck n.kids)[i]'(by simpa using hc)=I n.kids[i]:=by simp[ck]
    rw[e9]
    have alz:∃E9 L1 p1 L2 p2,Sub G h n.kids[i] loi E9 L1 p1/\Li=L1++L2/\(∀c,n.cells[i]?=some c->E9=some c.key)/\((i+1=n.kids.length/\L2=[])\/∃aar,bW (Sub G h) (n.kids.drop (i+1)) (n.eW.drop (i+1)) aar hi L2 p2/\∀c,0<i+1->n.cells[i+1-1]?=some c->c.key=aar):=by
     rw[aAS hc]at wX
     by_cases hl:i<n.eW.length
     ·rw[aAS hl]at wX;obtain⟨L1,p1,L2,p2,a,b',rfl,rfl⟩:=bW.cons.1 wX
      have abl:∀c,n.cells[i]?=some c->c.key=n.eW[i]:=fun c oD=>by
       obtain⟨h1,h2⟩:=aAP.1 oD;simp[bg.eW,h2]
      exact⟨_,L1,p1,L2,p2,a,rfl,fun c oD=>by rw[abl c oD], .inr ⟨_,b',fun c _ oD=>abl c (by simpa using oD)⟩⟩
     ·rw[aBj (show n.eW.length<=i by omega)]at wX;obtain⟨he,hS⟩:=bW.one.1 wX;rw[jP]at hl;exact⟨_,Li,pi,[],[],hS,by simp,fun c oD=>(by rw[aBs (by omega)]at oD;cases oD), .inl ⟨by omega,rfl⟩⟩
    obtain⟨E9,L1,p1,L2,p2,hS,rfl,aln,Tm⟩:=alz;have hfc:=hS.facts;refine Nb gi ci qx (by omega) (fun hsk=> ?_) (fun hsk=> ?_)
    ·rw[ag,aAI rfl,gF i (by omega),af]
     have im:L1.filter (sI fr to)=[]:=om fun x hx=>by
      obtain⟨b1,b2⟩:=hfc.VZ x hx;unfold sI;rcases hsk with⟨c,oD,hle⟩|⟨h0,h2,c,oD,hle⟩
      ·rw[aln c oD]at b2;have b2:eC x.1 c.key:=b2;have:=b2.jO hle;rw[aAJ this];rfl
      ·have b3:jY to x.1:=by
        have:=akP c h0 oD;rw[this]at hle;exact hle.trans b1
       have:decide (eC x.1 to)=false:=aAB b3;rw[aAB h2,this];simp
     rw[aCl,im,aBf]at Gw;exact next (fu-1) _ _ (by omega) ⟨i+1,A',F',x',L2,p2,by omega,rfl,hk,acc,qC,Tm,Gw,by simp at rp;omega⟩
    ·rw[ag,aAH (by decide),gF dep (by omega),af]
     have hX':∀q∈b::F',q∉π.all/\q≠τ:=by
      intro q hq;rcases aAD.1 hq with rfl|hq
      ·exact hX _ (by simp)
      ·rcases qC q hq with h|h
       ·exact hX _ (by simp[h])
       ·exact⟨fun hh=>by have:=ht.pg.lt q hh;omega,fun e=>by have:=ht.lt;omega⟩
     have ts:Tg τ π s G:=t3.vg hk hX;refine(ih h (by omega) h rfl ts hS (by omega) acc hX' (by simp at rp;omega)).mono ?_;rintro _ eV ⟨rfl,CE,x2,F2,aod,ze⟩;rw[e2,af,ag,aAH (by decide),gF i (by omega),af];refine next (fu-1) _ _ (by omega) ⟨i+1,A'++L1.filter (sI fr to),F2,x2,L2,p2,by omega,rfl,hk.trans CE fun q hq=> ?_,aod,fun q hq=> ?_,Tm, ?_, ?_⟩
     ·rcases aAD.1 hq with rfl|hq
      ·left;simp
      ·exact(qC q hq).imp (fun h=>by simp[h]) id
     ·rcases ze q hq with h|h
      ·exact qC q h
      ·right;omega
     ·rw[<-Gw,aCl,aBn]
     ·have:=aDk (sI fr to) L1;simp at rp⊢;omega
   ·rw[aAB hc,aAH (by decide)]
    have hLi:Li=[]:=by
     rcases Jl with⟨_,h⟩|⟨loi,wX,_⟩
     ·exact h
     ·have:=wX.len;rw[aAX,aAX]at this;omega
    subst hLi;simp only[List.filter_nil,aBz]at Gw;refine⟨rfl,(K3.mono (by simp)).trans hk fun q hq=> .inl hq,x',F',by rw[<-Gw];exact acc,fun q hq=>(qC q hq).imp id fun h=>by omega⟩
theorem eS.short {G:GM}{cs:List dh}{L:List bA}{ps:List Nat}(h:eS G cs L ps):L.length=cs.length:=h.len
theorem Sub.short {G:GM}:∀{h page:Nat} {lo:cc} {hi:Option cc} {L:List bA} {ps:List Nat},Sub G h page lo hi L ps->L.length<=512*ps.length:=by
 intro h
 induction h with
 |zero=>
  rintro page lo hi L ps ⟨n,q,hn,⟨_,_,hc,_⟩,rfl⟩;have:=hc.len;have h1:=eR n.leaf n.cells;have h2:=hn.size;rw[bX]at h2;simp;omega
 |succ h ih=>
  rintro page lo hi L ps ⟨n,q,hn,⟨_,hk⟩,rfl⟩
  have key:∀(ks:List Nat) (ss:List cc) lo L q,bW (Sub G h) ks ss lo hi L q->L.length<=512*q.length:=by
   intro ks
   induction ks with
   |nil=>intro ss lo L q hk;cases ss<;>exact hk.elim
   |cons k ks ih2=>
    intro ss lo L q hk;cases ss with
    |nil=>rw[bW.one]at hk;exact ih hk.2
    |cons s ss=>
     rw[bW.cons]at hk;obtain⟨L1,p1,L2,p2,a,b,rfl,rfl⟩:=hk;have h1:=ih a;have h2:=ih2 _ _ _ _ b;simp;omega
  have:=key _ _ _ _ _ hk;simp;omega
end
section
variable {τ:Nat} {π:PI} {st st':St} {G:GM} {fr to:cc}
theorem My {L:List bA}(ht:ic G L)(h0:G.root=0):L=[]:=by
 rcases ht.tree with h|⟨hh,ps,_,hs⟩
 ·exact h.2
 ·obtain⟨n,q,hn,_⟩:=hs;have:=hn.bP.1;omega
theorem Eb (h:Tg τ π st G){L:List bA}(ht:ic G L)(fr to:cc):R 14 [.ptr τ 0, .str fr, .str to] st fun y st'=>∃x,y= .tuple [x,I 0]/\Made 2 41 (bZ (L.filter (sI fr to))) st x st':=by
 refine bN ?_;rw[w14];rw[cU,af,ag,aAH (by decide)];refine h.get' ?_;refine(Hg h.pg).same ?_;have e0:aj .eql (some .int) true (I G.root) (.int .i64 0) st= .ok (.bool (decide (G.root=0))) st:=by rw[aw,cz];congr 2;simp only[aBc];omega
 rw[e0,af,ag]
 by_cases h0:G.root=0
 ·rw[aAJ h0,aAI rfl,My ht h0];exact⟨.ae,rfl,[],Kp.refl _ _, .inl ⟨rfl,rfl,rfl⟩,by simp⟩
 ·rw[aAB h0,aAH (by decide),cG,aS];have k2:Kp [] st (St.new st (.cells [.ae] 37 false)):=(Kp.refl [] st).new _;have g2:(St.new st (.cells [.ae] 37 false)).mem.get st.next=some (.cells [.ae] 37 false):=au _ _;have n2:(St.new st (.cells [.ae] 37 false)).next=st.next+1:=rfl;generalize St.new st (.cells [.ae] 37 false)=s2 at*;have t2:=h.still k2;refine t2.get' ?_;refine(Hg t2.pg).same ?_
  obtain⟨hh,ps,iQ,hs⟩:∃h ps,ps.Nodup/\Sub G h G.root [] none L ps:=by
   rcases ht.tree with h|h
   ·exact absurd h.1 h0
   ·exact h
  have Jk:=hs.deep iQ ht.ok;have Ns:=hs.short;have h2:=Ek iQ hs.aE ht.ok.one;have h3:=ht.ok.jv;have h4:=ht.ok.size;have Ob:Acc s2 st.next [] [] .ae:=⟨g2,by omega, .inl ⟨rfl,rfl,rfl⟩,by simp⟩;refine(GA hh hh rfl (dep:=0) t2 hs (by omega) Ob (fun q hq=> ?_) (by simp;omega)).mono ?_
  ·have hq:q=st.next:=by simpa using hq
   subst hq;exact⟨fun hh=>by have:=h.pg.lt _ hh;omega,fun e=>by have:=h.lt;omega⟩
  ·rintro _ s4 ⟨rfl,k4,x,F,acc,hF⟩;have e2:aj .neq (some .int) true (I 0) (.int .i64 0) s4= .ok (.bool false) s4:=rfl;rw[e2,af,ag,aAH (by decide),aA,acc.get,aq];refine⟨x,rfl,F,k2.trans k4 (by simp), ?_,fun q hq=>⟨?_,(acc.F q hq).1⟩⟩
   ·have:=acc.own
    rwa [aBf]at this
   ·rcases hF q hq with h|h
    ·cases h
    ·omega
theorem Mc (h:Tg τ π st G):R 17 [.ptr τ 0] st fun v st'=>v=I G.cJ/\st'=st:=by
 refine bN ?_;rw[w17];rw[cU,af,ag,aAH (by decide)];refine h.get' ?_;refine(ML h.pg).same ?_;exact⟨rfl,rfl⟩
theorem Qp (h:Pg π st G)(hf:cY st):R 24 [.ptr π.p 0] st fun v st'=>v= .ptr st.next 0/\Kp [] st st'/\Tg st.next π st' G:=by
 refine bN ?_;rw[w24];have mC:bD [.bq] [(0,1, .ptr π.p 0)] st= .ok (.agg [.ptr π.p 0]) st:=rfl;rw[cU,af,ag,aAH (by decide),mC,af,cn,aX];refine⟨rfl,rfl,(Kp.refl [] st).new _, ?_⟩;have k:Kp [] st (St.new st (.cells [.ptr π.p 0] 116 false)):=(Kp.refl [] st).new _;exact⟨h.still k,by simp,fun hh=>by have:=h.lt _ hh;omega,⟨116,false,au _ _⟩,k.fresh hf⟩
end
