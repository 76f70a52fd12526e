import Derived.Test.YtomffjeofpafnaaGreatDoorBtD
namespace Lim
open Go
noncomputable section
set_option maxRecDepth 100000
def xu (fr to:bZ)(x:bB):Bool:= !decide (dW x.1 fr)&&(decide (to=[])||decide (dW x.1 to))
def mC (p:bB):List CV:=[.str p.1, .str p.2]
def iY (L:List bB):List CV:=(L.map mC).flatten
theorem iy (L:List bB):(iY L).length=L.length*2:=by unfold iY;rw[fA (w:=2) (by intro x hx;obtain⟨c,_,rfl⟩:=aBv.1 hx;rfl)];simp
theorem Az (a b:List bB):iY (a++b)=iY a++iY b:=by simp[iY]
structure Acc (st:St)(b:Nat)(A:List bB)(F:List Nat)(x:CV):Prop where
 get:st.mem.get b=some (.cells [x] 37 false)
 lt:b<st.next
 own:Own st x 2 41 (iY A) F
 F:∀q∈F,q<st.next/\q≠b
theorem Acc.keep {st st':St}{b:Nat}{A:List bB}{F:List Nat}{x:CV}(h:Acc st b A F x){X:List Nat}(hk:Kp X st st')(hb:b∉X)(hx:∀q∈F,q∉X):Acc st' b A F x:=
 ⟨(hk.keep b h.lt hb).trans h.get,aBs h.lt hk.next,h.own.keep hk fun q hq=>⟨(h.F q hq).1,hx q hq⟩,fun q hq=>⟨aBs (h.F q hq).1 hk.next,(h.F q hq).2⟩⟩
def aoG (b:Nat)(F:List Nat)(A:List bB)(st:St)(y:CV)(st':St):Prop:=y=I 0/\Kp (b::F) st st'/\∃x' F',Acc st' b A F' x'/\∀q∈F',q∈F\/st.next<=q
section
variable {τ:Nat} {π:PI} {st st':St} {G:GM} {fr to:bZ}
theorem aoi {s:St}{p:Nat}{x:CV}{l:List CV}{ty:TypeId}{g:Bool}(hg:s.mem.get p=some (.cells (x::l) ty g)){K:CV->Prop}(hK:K x):us (aC (.ptr p 0) s) K:=by
 rw[az,hg,ar];exact hK
theorem Qb {s:St}{p:Nat}{key:bZ}{v:List UInt8}{l:List CV}{ty:TypeId}{g:Bool}(hg:s.mem.get p=some (.cells (.str key::l) ty g)){K:CV->Prop}(hK:K (.bool (!xu fr to (key,v)))):
 us (aj .lss none false (.str key) (.str fr) s) fun eR=>us (bg (al false eR) s (.ok (.str to) s)) fun eM=>us (bg (al false eR) s (aj .neq (some .str) true eM (.str []) s)) fun eX=>us (bg (al false eR) s (.ok eX s)) fun eD=>
  iU (al true eD) 0 (.ptr p 0) s fun eH=>us (bg (al true eD) s (.ok (.str to) s)) fun eW=>us (bg (al true eD) s (aj .geq none false eH eW s)) fun eg=>us (bg (al false eR) s (bk eD eg (.bool false) s)) fun ft=>us (bk eR (.bool true) ft s) K:=by
 rw[eT,NN,af];unfold xu at hK
 by_cases h1:dW key fr
 ·simp only[h1,aBV,aBm,Bool.false_and,aBk]at hK;simp only[aBc h1,aG,aAR,aBf,aBm,cc,af,iU,aF,aBr,wL];exact hK
 ·simp only[aAW h1,aBk,Bool.true_and]at hK;simp only[aAW h1,aG,aAR,aBf,aBk,bh,af,eT,nq]
  by_cases h2:to=[]
  ·simp only[h2,aBV,Bool.true_or,aBm]at hK;simp only[h2,aBV,aBm,aBr,cc,af,iU,aF,aAR,aBf];exact hK
  ·simp only[aAW h2,Bool.false_or]at hK;simp only[aAW h2,aBk,aBr,bh,af,iU,aF,ah,az,hg,ar,aAT,aAQ,au,eT,uR,aAR,aBf];have:decide (ju to key)= !decide (dW key to):=by unfold ju;by_cases h:dW key to<;>simp[h]
   rw[this];exact hK
def TW (n:aZ)(fr to:bZ)(i:Nat):Prop:=(∃c,n.cells[i]?=some c/\ju c.key fr)\/(0<i/\to≠[]/\∃c,n.cells[i-1]?=some c/\ju to c.key)
theorem Tw {X:List Nat}{s:St}{vc:CV}{n:aZ}(c:Sl s X vc 4 (bj n.cells)){i:Nat}(hi:i<n.cells.length){K:CV->Prop}(hK:K (.str n.cells[i].key)):gM (some true) 4 0 vc (I i) s K:=by
 obtain⟨b,p,l,t,g,q1,q2,q3,q4,q5⟩:=c.cellAt (L:=n.cells.map aQ) (by omega) (eV _) (i:=i) (by simpa using hi);have q6:=q5 0 (.str n.cells[i].key) (by simp[aQ]);rw[aBJ]at q6;simp only[bh,af,gM,ah,az,ar,aBJ,q1,q2,q6,au];exact hK
theorem Oi {X:List Nat}{s:St}{p:Nat}{lf:CV}{n:aZ}{vc vk:CV}(g:s.mem.get p=some (.cells [lf,vc,vk] 105 false))(c:Sl s X vc 4 (bj n.cells))(oF:n.cells.length<=512){i:Nat}(hi:i<=n.cells.length){K:CV->Prop}(hT:TW n fr to i->K (.bool true))(hF:¬TW n fr to i->K (.bool false)):
 fl 1 (.ptr p 0) s fun qA=>us (bo .slice qA s) fun vW=>us (aj .lss none false (I i) vW s) fun qL=>iU (al true qL) 1 (.ptr p 0) s fun vV=>us (bg (al true qL) s (.ok (I i) s)) fun uC=>
  gM (al true qL) 4 0 vV uC s fun uz=>us (bg (al true qL) s (.ok (.str fr) s)) fun xN=>us (bg (al true qL) s (aj .leq none false uz xN s)) fun A2=>us (bk qL A2 (.bool false) s) fun r7=>
  us (bg (al false r7) s (.ok (I i) s)) fun yh=>us (bg (al false r7) s (aj .gtr none true yh (.int .i64 0) s)) fun nT=>us (bg (al false r7) s (.ok nT s)) fun wK=>us (bg (al true wK) s (.ok (.str to) s)) fun xz=>
  us (bg (al true wK) s (aj .neq (some .str) true xz (.str []) s)) fun mj=>us (bg (al false r7) s (bk wK mj (.bool false) s)) fun Ao=>us (bg (al false r7) s (.ok Ao s)) fun oe=>iU (al true oe) 1 (.ptr p 0) s fun A1=>
  us (bg (al true oe) s (.ok (I i) s)) fun Cb=>us (bg (al true oe) s (aj .sub none true Cb (.int .i64 1) s)) fun A0=>gM (al true oe) 4 0 A1 A0 s fun xM=>us (bg (al true oe) s (.ok (.str to) s)) fun tT=>
  us (bg (al true oe) s (aj .geq none false xM tT s)) fun IF=>us (bg (al false r7) s (bk oe IF (.bool false) s)) fun DO=>us (bk r7 (.bool true) DO s) K:=by
 have hlen:=c.len n.cells.length (br _) (by omega) s;have acP:∀(j:Nat) (hj:j<n.cells.length) (K:CV->Prop),K (.str n.cells[j].key)->gM (some true) 4 0 vc (I j) s K:=fun j hj K hK=>Tw c hj hK;rw[fl,ah,af,az,g,ar];simp only[aAT,aAS,aAQ,au,hlen,af,dM]
 have adD:¬(∃c,n.cells[i]?=some c/\ju c.key fr)->us (aj .gtr none true (I i) (.int .i64 0) s) fun nT=>us (.ok nT s) fun wK=>us (bg (al true wK) s (.ok (.str to) s)) fun xz=>
  us (bg (al true wK) s (aj .neq (some .str) true xz (.str []) s)) fun mj=>us (bk wK mj (.bool false) s) fun Ao=>us (.ok Ao s) fun oe=>iU (al true oe) 1 (.ptr p 0) s fun A1=>
  us (bg (al true oe) s (.ok (I i) s)) fun Cb=>us (bg (al true oe) s (aj .sub none true Cb (.int .i64 1) s)) fun A0=>gM (al true oe) 4 0 A1 A0 s fun xM=>us (bg (al true oe) s (.ok (.str to) s)) fun tT=>
  us (bg (al true oe) s (aj .geq none false xM tT s)) fun IF=>us (bk oe IF (.bool false) s) fun DO=>us (bk (.bool false) (.bool true) DO s) K:=fun qJ=>by
  have e0:aj .gtr none true (I i) (.int .i64 0) s= .ok (.bool (decide (0<i))) s:=by rw[av,dj];congr 2;simp only[aBu];omega
  rw[e0,af,af]
  by_cases h0:0<i
  ·simp only[aBc h0,aG,aBr,bh,af,eT,nq,aF]
   by_cases h2:to=[]
   ·simp only[h2,aBV,aBm,aG,aBr,cc,af,iU,gM,aF,aAR,aBf]
    exact hF fun h=>by
     rcases h with h|h
     ·exact qJ h
     ·exact h.2.1 h2
   ·simp only[aAW h2,aBk,aG,aBr,bh,af,iU,ah,az,g,ar,aAT,aAS,aAQ,au,tV i (by omega) h0];have hj:i-1<n.cells.length:=by omega
    refine acP (i-1) hj _ ?_;simp only[eT,uR,af,aF,aBr,aAR,aBf]
    by_cases h3:ju to n.cells[i-1].key
    ·rw[aBc h3];exact hT (.inr ⟨h0,h2,_,aAV hj,h3⟩)
    ·rw[aAW h3]
     exact hF fun h=>by
      rcases h with h|⟨_,_,c',mW,h⟩
      ·exact qJ h
      ·rw[aAV hj]at mW;cases mW;exact h3 h
  ·simp only[aAW h0,aG,aBr,cc,af,iU,gM,aF,aAR,aBf]
   exact hF fun h=>by
    rcases h with h|h
    ·exact qJ h
    ·exact h0 h.1
 by_cases h1:i<n.cells.length
 ·simp only[aBc h1,aG,aBr,bh,af,iU,ah,az,g,ar,aAT,aAS,aAQ,au];refine acP i h1 _ ?_;simp only[eT,NO,af,aF,aBr]
  by_cases h2:ju n.cells[i].key fr
  ·simp only[aBc h2,aG,aAR,aBf,aBm,cc,af,aBr,wL,gM,aF];exact hT (.inl ⟨_,aAV h1,h2⟩)
  ·have:=adD fun ⟨c',mW,h⟩=>by rw[aAV h1]at mW;cases mW;exact h2 h
   simp only[aAW h2,aG,aAR,aBf,aBk,bh];simp only[aG,iU,az,g,ar,ah,af,aAT,aAS,aAQ,au,aAR,aBf]at this⊢;exact this
 ·have:=adD fun ⟨c',mW,h⟩=>by rw[aBL (by omega)]at mW;cases mW
  simp only[aAW h1,aG,aBr,cc,af,iU,gM,aF,aAR,aBf,aBk,bh];simp only[aG,iU,gM,az,g,ar,ah,af,aAT,aAS,aAQ,au,aAR,aBf]at this⊢;exact this
theorem GY:∀(m h:Nat),h=m->∀{st:St} {G:GM} {page dep b:Nat} {lo:bZ} {hi:Option bZ} {Ls A:List bB} {ps F:List Nat} {ax:CV},Tg τ π st G->Sub G h page lo hi Ls ps->dep+h<=20->Acc st b A F ax->(∀q∈b::F,q∉π.all/\q≠τ)->A.length+Ls.length<=50000000->
 R 55 [.ptr τ 0,I page,I dep, .str fr, .str to, .ptr b 0] st (aoG b F (A++Ls.filter (xu fr to)) st):=by
 intro m
 induction m using Nat.strongRecOn with
 |_ m ih=>
  intro h hm st G page dep b lo hi Ls A ps F ax ht hs awn Pe hX hlen;obtain⟨n,q,hn,jT,rfl⟩:=hs;refine bO ?_;rw[w55];refine(yn ht hn).mono ?_;rintro _ s1 ⟨xn,rfl,k1,hxn⟩
  have hbF:∀q∈b::F,q<st.next:=by
   intro q hq;rcases aAX.1 hq with rfl|hq
   ·exact Pe.lt
   ·exact(Pe.F q hq).1
  obtain⟨vc,vk,rfl,c1,c2⟩:=hxn (b::F) hbF;rw[aD,af,aJ,aD,af];refine qb c1.bu.2.1 c2.bu.2.1 ?_;have k3:Kp [] s1 (St.new s1 (.cells [.bool n.leaf,vc,vk] 105 false)):=(Kp.refl [] s1).new _;have g3:(St.new s1 (.cells [.bool n.leaf,vc,vk] 105 false)).mem.get s1.next=some (.cells [.bool n.leaf,vc,vk] 105 false):=aq _ _;have n3:(St.new s1 (.cells [.bool n.leaf,vc,vk] 105 false)).next=s1.next+1:=rfl;generalize St.new s1 (.cells [.bool n.leaf,vc,vk] 105 false)=s3 at*;have K3:Kp [] st s3:=k1.trans k3 (by simp);have K3n:=K3.next;have k1n:=k1.next;have t3:=ht.still K3;have aeO:=Pe.keep K3 (by simp) (by simp);have Rb:=c1.mono (k3.mono (by simp));have c23:=c2.mono (k3.mono (by simp));have e2:∀s,aj .neq (some .int) true (I 0) (.int .i64 0) s= .ok (.bool false) s:=fun s=>rfl
  have oF:n.cells.length<=512:=by
   have:=dZ n.leaf n.cells;have:=hn.size;rw[bS]at this;omega
  rw[e2,af,ag,aAZ (by decide)];rw[fl,ah,af,az,g3,ar];simp only[aAT,aAS,aAQ,au,ag];cases h with
  |zero=>
   obtain⟨fp,hlt,XS,mP⟩:=(show EY G n lo hi Ls q from jT);rw[fp,aBb rfl];have SI:=Rb.len n.cells.length (br _) (by omega) s3;simp only[db,aK,aL,fl,ah,af,az,g3,ar,aAT,aAS,aAQ,au,SI];refine bM (fun fu vs s=>∃i A' F' x' Li pi,fu+i=n.cells.length/\vs=[.ptr τ 0, .str fr, .str to, .ptr b 0,vc,I n.cells.length,I i]/\Kp (b::F) s3 s/\Acc s b A' F' x'/\(∀q∈F',q∈F\/s3.next<=q)/\eQ G (n.cells.drop i) Li pi/\A'++Li.filter (xu fr to)=A++Ls.filter (xu fr to)/\A'.length+Li.length<=50000000) ?_ (n:=n.cells.length) ⟨0,A,F,ax,Ls,q,rfl,rfl,Kp.refl _ _,aeO,fun q hq=> .inl hq,XS,rfl,hlen⟩;rintro fu vs s k ⟨i,A',F',x',Li,pi,hi,rfl,hk,acc,qN,QU,Mg,rC⟩ next;simp only[aK,aL,dM,af,ag]
   by_cases hc:i<n.cells.length
   ·rw[aBc hc,aBb rfl];refine(Rb.mono hk).jG (L:=n.cells.map aQ) (by omega) (eV _) (by simpa using hc) _ ?_;have e:(n.cells.map aQ)[i]'(by simpa using hc)=aQ n.cells[i]:=by simp
    rw[e];refine rq rfl rfl (fk _) ?_;have k7:Kp [] s (St.new s (.cells (aQ n.cells[i]) 109 false)):=(Kp.refl _ s).new _;have g7:(St.new s (.cells (aQ n.cells[i]) 109 false)).mem.get s.next=some (.cells [.str n.cells[i].key, .str n.cells[i].value,I n.cells[i].dL,I n.cells[i].size] 109 false):=aq _ _;have n7:(St.new s (.cells (aQ n.cells[i]) 109 false)).next=s.next+1:=rfl;generalize St.new s (.cells (aQ n.cells[i]) 109 false)=s7 at*;have aeN:=acc.keep k7 (by simp) (by simp);have rD:=hk.next;rw[aBj hc]at QU;obtain⟨v,p1,L2,p2,hval,adn,rfl,rfl⟩:=QU
    have ho:n.cells[i].ok true:=by
     have:=hn.ok.cell _ (aBq hc)
     rwa [fp]at this
    refine aoi g7 ?_;refine Qb (v:=v) g7 ?_;simp only[ag];cases hb:xu fr to (n.cells[i].key,v)with
    |false=>
     rw[aBk,aBb rfl,ik i (by omega),af];rw[aCe,hb,aAZ (by decide)]at Mg;exact next (fu-1) _ _ (by omega) ⟨i+1,A',F',x',L2,p2,by omega,rfl,hk.trans k7 (by simp),aeN,qN,adn,Mg,by simp at rC;omega⟩
    |true=>
     rw[aBm,aAZ (by decide)];rw[aCe,hb,aBb rfl]at Mg
     have hX':∀q∈b::F',q∉π.all/\q≠τ:=by
      intro q hq;rcases aAX.1 hq with rfl|hq
      ·exact hX _ (by simp)
      ·rcases qN q hq with h|h
       ·exact hX _ (by simp[h])
       ·exact⟨fun hh=>by have:=ht.pg.lt q hh;omega,fun e=>by have:=ht.lt;omega⟩
     have ts:Tg τ π s7 G:=(t3.vo hk hX).still k7;rw[aO (n:=4) g7 rfl,af];refine(DY ts ho hval).mono ?_;rintro _ s8 ⟨rfl,k8⟩;have n8:=k8.next;have Qf:=aeN.keep k8 (by simp) (by simp);have g8:=(k8.keep s.next (by omega) (by simp)).trans g7;rw[aD,af,aJ,aD,af,e2,af,ag,aAZ (by decide),bG];have ks:Kp [] s8 (St.skip s8):=(Kp.refl [] s8).skip;have XH:cT s8:=k8.fresh ts.fr;have iq:(St.skip s8).mem.get s8.next=none:=XH _ (aAU _);have nsk:(St.skip s8).next=s8.next+1:=rfl;have Gt:=Qf.keep ks (by simp) (by simp);have gk:(St.skip s8).mem.get s.next=_:=g8;generalize St.skip s8=sk at*;have mP:bJ [.str [], .str []] [(0,1, .str n.cells[i].key),(1,1, .str v)] sk= .ok (.agg (mC (n.cells[i].key,v))) sk:=rfl;have awD:A'.length<=50000000:=by omega
     have gkb:=Gt.get;rw[bA,af,az,gkb,ar];simp only[aAQ,au];rw[ah,af,az,gk,ar];simp only[aAT,aAQ,au];rw[mP,af];refine DI 32 Gt.own (by omega) (fun q hq=>⟨(Gt.F q hq).1,by have:=(Qf.F q hq).1;omega⟩) (by omega) iq rfl rfl rfl rfl (by rw[iy];omega) ?_;intro v' dd F2 o2 qj zx;have QC:=qj.next;have arR:=Qf.lt
     have amJ:b∉s8.next::F':=by
      intro hh;rcases aAX.1 hh with h|h
      ·omega
      ·exact(Qf.F b h).2 rfl
     have anF:=(qj.keep b Gt.lt amJ).trans Gt.get;obtain⟨RY,NX⟩:=o2.cq;have kg:bt [x'] 0 [v']=[v']:=rfl;have ank:(St.set sk s8.next (.cells (CV.agg (mC (n.cells[i].key,v))).cK 41 false)).mem.get b=some (.cells [x'] 37 false):=(ak _ _ _ _ (by omega)).trans Gt.get;have aeb:(St.set sk s8.next (.cells (CV.agg (mC (n.cells[i].key,v))).cK 41 false)).mem.get s.next=_:=(ak _ _ _ _ (by omega)).trans gk;rw[bA,af,aH,anF,aS,NX,kg,az,ank,ar,az,aeb,ar];refine⟨⟨rfl,by simp[RY],by simp⟩,⟨⟨rfl,trivial⟩,⟨rfl,trivial⟩,trivial⟩,⟨trivial,trivial⟩, ?_⟩;rw[ik i (by omega),af]
     have Dw:∀q∈F2,(q∈F\/s3.next<=q)/\q<dd.next/\q≠b:=fun q hq=>by
      obtain⟨a1,a2⟩:=zx q hq;refine⟨?_,a2, ?_⟩
      ·rcases a1 with h|h
       ·exact qN q h
       ·right;omega
      ·rcases a1 with h|h
       ·exact(Qf.F q h).2
       ·intro e;omega
     have ajK:Kp (b::F) s3 dd:=(((hk.trans k7 (by simp)).trans k8 (by simp)).trans ks (by simp)).trans qj fun q hq=>by
      rcases aAX.1 hq with rfl|hq
      ·right;omega
      ·exact(qN q hq).imp (fun h=>by simp[h]) id
     refine next (fu-1) _ _ (by omega) ⟨i+1,A'++[(n.cells[i].key,v)],F2,v',L2,p2,by omega,rfl,ajK.set _ (.inl (by simp)) (by have:=Gt.lt;omega),⟨ao _ _ _,by have:=Gt.lt;simp;omega, ?_,fun q hq=>⟨(Dw q hq).2.1,(Dw q hq).2.2⟩⟩,fun q hq=>(Dw q hq).1,adn, ?_, ?_⟩
     ·have e:iY A'++(CV.agg (mC (n.cells[i].key,v))).cK=iY (A'++[(n.cells[i].key,v)]):=by rw[Az];rfl
      rw[e]at o2;exact o2.mono fun q hq=>ak _ _ _ _ (Dw q hq).2.2
     ·rw[<-Mg];simp
     ·simp at rC⊢;omega
   ·rw[aAW hc,aAZ (by decide)];have H0:n.cells.drop i=[]:=aBC (by omega);rw[H0]at QU;obtain⟨rfl,_⟩:=(show Li=[]/\pi=[]from QU);simp only[List.filter_nil,aBQ]at Mg;refine⟨rfl,(K3.mono (by simp)).trans hk fun q hq=> .inl hq,x',F',by rw[<-Mg];exact acc,fun q hq=>(qN q hq).imp id fun h=>by omega⟩
  |succ h=>
   obtain⟨fp,Dn⟩:=(show Ov (Sub G h) n lo hi Ls q from jT);rw[fp,aAZ (by decide)];have e40:aj .eql (some .int) true (I dep) (.int .i64 40) s3= .ok (.bool false) s3:=by rw[av,cB,aAW (by omega)]
   rw[e40,af,ag,aAZ (by decide)];have rD:=hn.ok.iQ;rw[fp,aAZ (by decide)]at rD;have zp:=c23.len n.kids.length (by simp) (by omega) s3;rw[db];simp only[aK,aL];rw[fl,ah,af,az,g3,ar];simp only[aAT,aAS,aAQ,au];rw[zp,af]
   refine bM (fun fu vs s=>∃i A' F' x' Li pi,fu+i=n.kids.length/\vs=[.ptr τ 0,I dep, .str fr, .str to, .ptr b 0, .ptr s1.next 0,vk,I n.kids.length,I i]/\Kp (b::F) s3 s/\Acc s b A' F' x'/\(∀q∈F',q∈F\/s3.next<=q)/\
    ((i=n.kids.length/\Li=[])\/∃loi,bW (Sub G h) (n.kids.drop i) (n.eY.drop i) loi hi Li pi/\∀c,0<i->n.cells[i-1]?=some c->c.key=loi)/\A'++Li.filter (xu fr to)=A++Ls.filter (xu fr to)/\A'.length+Li.length<=50000000) ?_ (n:=n.kids.length)
    ⟨0,A,F,ax,Ls,q,rfl,rfl,Kp.refl _ _,aeO,fun q hq=> .inl hq, .inr ⟨lo,by rw[aBx,aBx];exact Dn,fun c h0=>absurd h0 (Nat.lt_irrefl 0)⟩,rfl,hlen⟩
   rintro fu vs s k ⟨i,A',F',x',Li,pi,fw,rfl,hk,acc,qN,BG,Mg,rC⟩ next;simp only[aK,aL];rw[dM,af,ag];have lO:=hk.next
   by_cases hc:i<n.kids.length
   ·rw[aBc hc,aBb rfl];rcases BG with⟨he,_⟩|⟨loi,xh,alj⟩
    ·omega
    have ci:=Rb.mono hk;have di:=c23.mono hk;have gi:=(hk.keep s1.next (by omega) (fun hh=>by have:=hbF _ hh;omega)).trans g3;refine di.idx (i:=i) (by simpa using hc) _ ?_;have e9:(bU n.kids)[i]'(by simpa using hc)=I n.kids[i]:=by simp[bU]
    rw[e9]
    have alX:∃FC L1 p1 L2 p2,Sub G h n.kids[i] loi FC L1 p1/\Li=L1++L2/\(∀c,n.cells[i]?=some c->FC=some c.key)/\((i+1=n.kids.length/\L2=[])\/∃aaU,bW (Sub G h) (n.kids.drop (i+1)) (n.eY.drop (i+1)) aaU hi L2 p2/\∀c,0<i+1->n.cells[i+1-1]?=some c->c.key=aaU):=by
     rw[aBj hc]at xh
     by_cases hl:i<n.eY.length
     ·rw[aBj hl]at xh;obtain⟨L1,p1,L2,p2,a,b',rfl,rfl⟩:=bW.cons.1 xh
      have abR:∀c,n.cells[i]?=some c->c.key=n.eY[i]:=fun c mW=>by
       obtain⟨h1,h2⟩:=aBg.1 mW;simp[aZ.eY,h2]
      exact⟨_,L1,p1,L2,p2,a,rfl,fun c mW=>by rw[abR c mW], .inr ⟨_,b',fun c _ mW=>abR c (by simpa using mW)⟩⟩
     ·rw[aBC (show n.eY.length<=i by omega)]at xh;obtain⟨he,hS⟩:=bW.one.1 xh;rw[jO]at hl;exact⟨_,Li,pi,[],[],hS,by simp,fun c mW=>(by rw[aBL (by omega)]at mW;cases mW), .inl ⟨by omega,rfl⟩⟩
    obtain⟨FC,L1,p1,L2,p2,hS,rfl,alL,Us⟩:=alX;have hfc:=hS.facts;refine Oi gi ci oF (by omega) (fun hsk=> ?_) (fun hsk=> ?_)
    ·rw[ag,aBb rfl,ik i (by omega),af]
     have iq:L1.filter (xu fr to)=[]:=l6 fun x hx=>by
      obtain⟨b1,b2⟩:=hfc.Wy x hx;unfold xu;rcases hsk with⟨c,mW,hle⟩|⟨h0,h2,c,mW,hle⟩
      ·rw[alL c mW]at b2;have b2:dW x.1 c.key:=b2;have:=b2.jN hle;rw[aBc this];rfl
      ·have b3:ju to x.1:=by
        have:=alj c h0 mW;rw[this]at hle;exact hle.trans b1
       have:decide (dW x.1 to)=false:=aAW b3;rw[aAW h2,this];simp
     rw[aCK,iq,aBw]at Mg;exact next (fu-1) _ _ (by omega) ⟨i+1,A',F',x',L2,p2,by omega,rfl,hk,acc,qN,Us,Mg,by simp at rC;omega⟩
    ·rw[ag,aAZ (by decide),ik dep (by omega),af]
     have hX':∀q∈b::F',q∉π.all/\q≠τ:=by
      intro q hq;rcases aAX.1 hq with rfl|hq
      ·exact hX _ (by simp)
      ·rcases qN q hq with h|h
       ·exact hX _ (by simp[h])
       ·exact⟨fun hh=>by have:=ht.pg.lt q hh;omega,fun e=>by have:=ht.lt;omega⟩
     have ts:Tg τ π s G:=t3.vo hk hX;refine(ih h (by omega) h rfl ts hS (by omega) acc hX' (by simp at rC;omega)).mono ?_;rintro _ fe ⟨rfl,zd,x2,F2,aoD,zx⟩;rw[e2,af,ag,aAZ (by decide),ik i (by omega),af];refine next (fu-1) _ _ (by omega) ⟨i+1,A'++L1.filter (xu fr to),F2,x2,L2,p2,by omega,rfl,hk.trans zd fun q hq=> ?_,aoD,fun q hq=> ?_,Us, ?_, ?_⟩
     ·rcases aAX.1 hq with rfl|hq
      ·left;simp
      ·exact(qN q hq).imp (fun h=>by simp[h]) id
     ·rcases zx q hq with h|h
      ·exact qN q h
      ·right;omega
     ·rw[<-Mg,aCK,aBE]
     ·have:=List.length_filter_le (xu fr to) L1;simp at rC⊢;omega
   ·rw[aAW hc,aAZ (by decide)]
    have hLi:Li=[]:=by
     rcases BG with⟨_,h⟩|⟨loi,xh,_⟩
     ·exact h
     ·have:=xh.len;rw[aBo,aBo]at this;omega
    subst hLi;simp only[List.filter_nil,aBQ]at Mg;refine⟨rfl,(K3.mono (by simp)).trans hk fun q hq=> .inl hq,x',F',by rw[<-Mg];exact acc,fun q hq=>(qN q hq).imp id fun h=>by omega⟩
theorem eQ.short {G:GM}{cs:List da}{L:List bB}{ps:List Nat}(h:eQ G cs L ps):L.length=cs.length:=h.len
theorem Sub.short {G:GM}:∀{h page:Nat} {lo:bZ} {hi:Option bZ} {L:List bB} {ps:List Nat},Sub G h page lo hi L ps->L.length<=512*ps.length:=by
 intro h
 induction h with
 |zero=>
  rintro page lo hi L ps ⟨n,q,hn,⟨_,_,hc,_⟩,rfl⟩;have:=hc.len;have h1:=dZ n.leaf n.cells;have h2:=hn.size;rw[bS]at h2;simp;omega
 |succ h ih=>
  rintro page lo hi L ps ⟨n,q,hn,⟨_,hk⟩,rfl⟩
  have key:∀(ks:List Nat) (ss:List bZ) lo L q,bW (Sub G h) ks ss lo hi L q->L.length<=512*q.length:=by
   intro ks
   induction ks with
   |nil=>intro ss lo L q hk;cases ss<;>exact hk.elim
   |cons k ks ih2=>
    intro ss lo L q hk;cases ss with
    |nil=>rw[bW.one]at hk;exact ih hk.2
    |cons s ss=>
     rw[bW.cons]at hk;obtain⟨L1,p1,L2,p2,a,b,rfl,rfl⟩:=hk;have h1:=ih a;have h2:=ih2 _ _ _ _ b;simp;omega
  have:=key _ _ _ _ _ hk;simp;omega
end
section
variable {τ:Nat} {π:PI} {st st':St} {G:GM} {fr to:bZ}
theorem Nw {L:List bB}(ht:fv G L)(h0:G.root=0):L=[]:=by
 rcases ht.tree with h|⟨hh,ps,_,hs⟩
 ·exact h.2
 ·obtain⟨n,q,hn,_⟩:=hs;have:=hn.bL.1;omega
theorem NC (h:Tg τ π st G){L:List bB}(ht:fv G L)(fr to:bZ):R 14 [.ptr τ 0, .str fr, .str to] st fun y st'=>∃x,y= .tuple [x,I 0]/\Made 2 41 (iY (L.filter (xu fr to))) st x st':=by
 refine bO ?_;rw[w14];rw[cX,af,ag,aAZ (by decide)];refine h.get' ?_;refine(HA h.pg).same ?_;have e0:aj .eql (some .int) true (I G.root) (.int .i64 0) st= .ok (.bool (decide (G.root=0))) st:=by rw[av,cB];congr 2;simp only[aBu];omega
 rw[e0,af,ag]
 by_cases h0:G.root=0
 ·rw[aBc h0,aBb rfl,Nw ht h0];exact⟨.ae,rfl,[],Kp.refl _ _, .inl ⟨rfl,rfl,rfl⟩,by simp⟩
 ·rw[aAW h0,aAZ (by decide),cM,aT];have k2:Kp [] st (St.new st (.cells [.ae] 37 false)):=(Kp.refl [] st).new _;have g2:(St.new st (.cells [.ae] 37 false)).mem.get st.next=some (.cells [.ae] 37 false):=aq _ _;have n2:(St.new st (.cells [.ae] 37 false)).next=st.next+1:=rfl;generalize St.new st (.cells [.ae] 37 false)=s2 at*;have t2:=h.still k2;refine t2.get' ?_;refine(HA t2.pg).same ?_
  obtain⟨hh,ps,iL,hs⟩:∃h ps,ps.Nodup/\Sub G h G.root [] none L ps:=by
   rcases ht.tree with h|h
   ·exact absurd h.1 h0
   ·exact h
  have JG:=hs.deep iL ht.ok;have OF:=hs.short;have h2:=EG iL hs.aE ht.ok.one;have h3:=ht.ok.jF;have h4:=ht.ok.size;have Pe:Acc s2 st.next [] [] .ae:=⟨g2,by omega, .inl ⟨rfl,rfl,rfl⟩,by simp⟩;refine(GY hh hh rfl (dep:=0) t2 hs (by omega) Pe (fun q hq=> ?_) (by simp;omega)).mono ?_
  ·have hq:q=st.next:=by simpa using hq
   subst hq;exact⟨fun hh=>by have:=h.pg.lt _ hh;omega,fun e=>by have:=h.lt;omega⟩
  ·rintro _ s4 ⟨rfl,k4,x,F,acc,hF⟩;have e2:aj .neq (some .int) true (I 0) (.int .i64 0) s4= .ok (.bool false) s4:=rfl;rw[e2,af,ag,aAZ (by decide),az,acc.get,ar];refine⟨x,rfl,F,k2.trans k4 (by simp), ?_,fun q hq=>⟨?_,(acc.F q hq).1⟩⟩
   ·have:=acc.own
    rwa [aBw]at this
   ·rcases hF q hq with h|h
    ·cases h
    ·omega
theorem M8 (h:Tg τ π st G):R 17 [.ptr τ 0] st fun v st'=>v=I G.ck/\st'=st:=by
 refine bO ?_;rw[w17];rw[cX,af,ag,aAZ (by decide)];refine h.get' ?_;refine(NK h.pg).same ?_;exact⟨rfl,rfl⟩
theorem IN (h:Pg π st G)(hf:cT st):R 24 [.ptr π.p 0] st fun v st'=>v= .ptr st.next 0/\Kp [] st st'/\Tg st.next π st' G:=by
 refine bO ?_;rw[w24];have mP:bJ [.bz] [(0,1, .ptr π.p 0)] st= .ok (.agg [.ptr π.p 0]) st:=rfl;rw[cX,af,ag,aAZ (by decide),mP,af,cr,aU];refine⟨rfl,rfl,(Kp.refl [] st).new _, ?_⟩;have k:Kp [] st (St.new st (.cells [.ptr π.p 0] 116 false)):=(Kp.refl [] st).new _;exact⟨h.still k,by simp,fun hh=>by have:=h.lt _ hh;omega,⟨116,false,aq _ _⟩,k.fresh hf⟩
end
section
variable {τ:Nat} {π:PI} {st st':St} {G:GM}
def YJ (τ:Nat)(π:PI)(G:GM)(page:Nat)(n:aZ)(LL:List bB)(st:St)(y:CV)(st':St):Prop:=y=I 0/\Kp π.W st st'/\Tg τ π st' (G.put page (.node n))/\fv (G.put page (.node n)) LL
theorem MY {rest:List cE}{f:cE}{n:aZ}{h:Nat}{x v:CV}{LL:List bB}(ht:Tg τ π st G)(hg:xJ G h f.page rest n LL)(iR:n.leaf=true\/n.cells≠[])(uu:n.size<=512)
 (hst:dN st π.W x (rest.reverse++[f])) (hv:IsNode st π.W v n) (vu:rest.length<=16):R 104 [.ptr τ 0,x,v] st (YJ τ π G f.page n LL st):=by
 have hsz:n.size<=640:=by omega
 have mu:=ht.LR;have yc:=hv;obtain⟨vc,vk,rfl,Me,JC⟩:=hv
 have oF:n.cells.length<=640:=by
  have:=dZ n.leaf n.cells;rw[bS]at hsz;omega
 refine bO ?_;rw[aad];rw[cr,aU];refine⟨rfl, ?_⟩;have k1:Kp [] st (St.new st (.cells [.bool n.leaf,vc,vk] 105 false)):=(Kp.refl [] st).new _;have g1:(St.new st (.cells [.bool n.leaf,vc,vk] 105 false)).mem.get st.next=some (.cells [.bool n.leaf,vc,vk] 105 false):=aq _ _;have n1:(St.new st (.cells [.bool n.leaf,vc,vk] 105 false)).next=st.next+1:=rfl;generalize St.new st (.cells [.bool n.leaf,vc,vk] 105 false)=s1 at*;have gh:=hst.mono (k1.mono (by simp));have tH:(rest.reverse++[f]).length=rest.length+1:=by simp
 have e3:∀s,aj .sub none true (I ((rest.length+1:Nat):Int)) (.int .i64 1) s= .ok (I rest.length) s:=fun s=>by
  have:=tV (rest.length+1) (by omega) (by omega) s none
  rwa [aCc]at this
 obtain⟨yk,yj,c1,c2,gw⟩:=gh.row (i:=rest.length) (by simp);have hf:(rest.reverse++[f])[rest.length]'(by simp)=f:=by simp
 rw[hf]at c1 c2 gw;have hlen:=fun s=>hst.len s;rw[tH]at hlen;simp only[hlen,af,e3];refine gw _ ?_;refine jY c1.bu.2.1 c2.bu.2.1 ?_;have k3:Kp [] s1 (St.new s1 (.cells [I f.page,I f.at_, .bool f.n.leaf,yk,yj] 107 false)):=(Kp.refl [] s1).new _;have g3:(St.new s1 (.cells [I f.page,I f.at_, .bool f.n.leaf,yk,yj] 107 false)).mem.get s1.next=some (.cells [I f.page,I f.at_, .bool f.n.leaf,yk,yj] 107 false):=aq _ _;have n3:(St.new s1 (.cells [I f.page,I f.at_, .bool f.n.leaf,yk,yj] 107 false)).next=s1.next+1:=rfl;generalize St.new s1 (.cells [I f.page,I f.at_, .bool f.n.leaf,yk,yj] 107 false)=s3 at*;have jf:Kp [] st s3:=k1.trans k3 (by simp);have nH:=(k3.keep st.next (by omega) (by simp)).trans g1;have YZ:=gh.mono (k3.mono (by simp));obtain⟨dx,VZ,Hd⟩:=YZ.xV (by simp) (m:=rest.length) (by simp) s3
 have xf:(rest.reverse++[f]).take rest.length=rest.reverse:=by
  rw[aCm (by simp)]
 rw[xf]at Hd;have t3:=ht.still jf;simp only[VZ,af];refine fx nH ?_;refine(xR t3.fr ((yc.mono (jf.mono (by simp))).ef (by simp)) hg.HM (by omega)).mono ?_;rintro _ s4 ⟨rfl,k4⟩;have qK:Kp [] st s4:=jf.trans k4 (by simp);have n4:=k4.next;have JL:=(k4.keep st.next (by omega) (by simp)).trans nH;have Q0:=(k4.keep s1.next (by omega) (by simp)).trans g3;have t4:=ht.still qK;have v4:IsNode s4 π.W (.agg [.bool n.leaf,vc,vk]) n:=yc.mono (qK.mono (by simp));have TV:=Hd.mono (k4.mono (by simp));have e4:aj .leq none true (I n.size) (.int .i64 512) s4= .ok (.bool (decide (n.size<=512))) s4:=by rw[av,nt];congr 2;simp only[aBu];omega
 simp only[e4,af,ag];obtain⟨lo,hi,Ll,Lr,L,ps,q,vD,jT,iL,QZ⟩:=hg.ctx;rw[aBc uu,aBb rfl];simp only[fl,ah,af,az,Q0,ar,aAT,aAQ,au];refine fx JL ?_;refine(lr t4 hg.bL (v4.ef (by simp)) hg.HM uu).mono ?_;rintro _ s5 ⟨rfl,k5,t5⟩;refine⟨rfl,(qK.mono (by simp)).trans k5 fun q hq=> .inl hq,t5, ?_⟩;rw[<-QZ];exact vD.write hg.ok hg.bL hg.HM uu iR jT iL
theorem zI {f:cE}{n:aZ}{h:Nat}{x v:CV}{LL:List bB}(ht:Tg τ π st G)(hg:xJ G h f.page [] n LL)(fp:n.leaf=true)(gT:n.cells≠[])(uu:n.size<=512)
 (hst:dN st π.W x [f]) (hv:IsNode st π.W v n):R 52 [.ptr τ 0,x,v] st (YJ τ π G f.page n LL st):=by
 have hsz:n.size<=640:=by omega
 obtain⟨rest,BC⟩:∃r:List cE,r=[]:=⟨[],rfl⟩;have hst:dN st π.W x (rest.reverse++[f]):=by rw[BC];exact hst
 have vu:rest.length<=16:=by rw[BC];simp
 have mu:=ht.LR;have rH:∀q,st.next<=q->q∉π.W:=fun q hq hh=>by have:=mu q hh;omega
 have yc:=hv;obtain⟨vc,vk,rfl,Me,JC⟩:=hv
 have oF:n.cells.length<=640:=by
  have:=dZ n.leaf n.cells;rw[bS]at hsz;omega
 refine bO ?_;rw[w52];rw[cr,aU];refine⟨rfl, ?_⟩;have k1:Kp [] st (St.new st (.cells [.bool n.leaf,vc,vk] 105 false)):=(Kp.refl [] st).new _;have g1:(St.new st (.cells [.bool n.leaf,vc,vk] 105 false)).mem.get st.next=some (.cells [.bool n.leaf,vc,vk] 105 false):=aq _ _;have n1:(St.new st (.cells [.bool n.leaf,vc,vk] 105 false)).next=st.next+1:=rfl;generalize St.new st (.cells [.bool n.leaf,vc,vk] 105 false)=s1 at*;have gh:=hst.mono (k1.mono (by simp));have tH:(rest.reverse++[f]).length=rest.length+1:=by simp
 have e3:∀s,aj .sub none true (I ((rest.length+1:Nat):Int)) (.int .i64 1) s= .ok (I rest.length) s:=fun s=>by
  have:=tV (rest.length+1) (by omega) (by omega) s none
  rwa [aCc]at this
 obtain⟨yk,yj,c1,c2,gw⟩:=gh.row (i:=rest.length) (by simp);have hf:(rest.reverse++[f])[rest.length]'(by simp)=f:=by simp
 rw[hf]at c1 c2 gw;have hlen:=fun s=>hst.len s;rw[tH]at hlen;simp only[hlen,af,e3];refine gw _ ?_;refine jY c1.bu.2.1 c2.bu.2.1 ?_;have k3:Kp [] s1 (St.new s1 (.cells [I f.page,I f.at_, .bool f.n.leaf,yk,yj] 107 false)):=(Kp.refl [] s1).new _;have g3:(St.new s1 (.cells [I f.page,I f.at_, .bool f.n.leaf,yk,yj] 107 false)).mem.get s1.next=some (.cells [I f.page,I f.at_, .bool f.n.leaf,yk,yj] 107 false):=aq _ _;have n3:(St.new s1 (.cells [I f.page,I f.at_, .bool f.n.leaf,yk,yj] 107 false)).next=s1.next+1:=rfl;generalize St.new s1 (.cells [I f.page,I f.at_, .bool f.n.leaf,yk,yj] 107 false)=s3 at*;have jf:Kp [] st s3:=k1.trans k3 (by simp);have nH:=(k3.keep st.next (by omega) (by simp)).trans g1;have YZ:=gh.mono (k3.mono (by simp));have t3:=ht.still jf;have v3:IsNode s3 π.W (.agg [.bool n.leaf,vc,vk]) n:=yc.mono (jf.mono (by simp));have e4:aj .eql (some .int) true (I ((rest.length+1:Nat):Int)) (.int .i64 1) s3= .ok (.bool (decide (rest.length=0))) s3:=by rw[av,cB];congr 2;simp only[aBu];omega
 have e5:∀s,aj .neq (some .int) true (I 0) (.int .i64 0) s= .ok (.bool false) s:=fun s=>rfl;simp only[hlen,af,e4,ag];have SI:∀s,Kp [] st s->bo .slice vc s= .ok (I n.cells.length) s:=fun s hs=>(Me.mono (hs.mono (by simp))).len n.cells.length (br _) (by omega) s
 have FQ:∀s,Kp [] st s->R 104 [.ptr τ 0,x, .agg [.bool n.leaf,vc,vk]] s fun y s'=>YJ τ π G f.page n LL st y s':=by
  intro s hs;refine(MY (rest:=rest) (ht.still hs) (by rw[BC];exact hg) (.inl fp) uu (hst.mono (hs.mono (by simp))) (yc.mono (hs.mono (by simp))) vu).mono ?_;rintro y s' ⟨rfl,k',t',o'⟩;exact⟨rfl,(hs.mono (by simp)).trans k' fun q hq=> .inl hq,t',o'⟩
 subst BC;rw[aBb (show decide (([]:List cE).length=0)=true from rfl)];have ez:∀s,aj .eql (some .int) true (I n.cells.length) (.int .i64 0) s= .ok (.bool (decide (n.cells.length=0))) s:=fun s=>by rw[av,cB];congr 2;simp only[aBu];omega
 have h0:¬n.cells.length=0:=fun h=>gT (aBn.1 h);simp only[fl,ah,af,az,nH,ar,aAT,aAQ,au];rw[fp]at nH FQ;simp only[fp,aG,aBr,iU,bh,ah,af,az,nH,ar,aAT,aAS,aAQ,au,SI s3 jf,ez,aF,ag,du,aBm,aAR,aBf,cc];rw[aAW h0,aAZ (by decide)];rw[aO (n:=3) nH rfl,af];exact FQ s3 jf
end
theorem yr {l:List da}(h:∀c∈l,c.ok true)(hl:l.length<=3):(cR l).size<=512:=by
 have h1:∀l:List da,(∀c∈l,c.ok true)->(cJ true l).length<=l.length*115:=by
  intro l
  induction l with
  |nil=>intro _;simp[cJ]
  |cons c r ih=>
   intro h;have a:=(hU (h c (by simp))).2.1;have b:=ih fun d hd=>h d (by simp[hd]);have e:cJ true (c::r)=gW true c++cJ true r:=by simp[cJ]
   rw[e,aAY,aBt];omega
 have h2:=h1 l h;have h3:(uv l.length).length=1:=ey (by omega);rw[bS];unfold cR;simp only[h3,aBr];omega
section
variable {τ:Nat} {π:PI} {st st':St} {G:GM}
def Qk (τ:Nat)(π:PI)(G:GM)(key v:List UInt8)(L:List bB)(st:St)(y:CV)(st':St):Prop:=
 y=I 0/\Kp π.W st st'/\∃G2 c pc G',TG G G2 c v pc/\c.key=key/\c.ok true/\Tg τ π st' G'/\fv G' (lC L key v)/\
  ((G.root=0/\G'=((G2.alloc).put G2.dG (.node (cR [c]))).gD G2.dG)\/∃f,jI G key f [] L/\G'=G2.put f.page (.node (cR (f.n.cells.take f.at_++([c]++f.n.cells.drop (f.at_+0))))))
def TC (τ:Nat)(π:PI)(G:GM)(key v:List UInt8)(L:List bB)(st:St)(vs:List CV)(s:St):Prop:=
 ∃x,vs=[.ptr τ 0, .str key, .str v,x]/\Kp π.W st s/\Tg τ π s G/\
  ((G.root=0/\x= .ae)\/∃f rest k,jI G key f rest L/\qx G G key f rest L k/\rest.length<=16/\dN s π.W x (rest.reverse++[f])/\rest=[]/\k=0)
theorem IK (h:Tg τ π st G){L:List bB}(ht:fv G L)(key v:List UInt8)(Ie:key.length<=48)(hv8:v.length<=8192)(tI:24+eJ v.length<=G.ck)(kh:l5 L key=none)(Fp:∀f rest,jI G key f rest L->rest=[]/\f.n.cells.length<=2):R 11 [.ptr τ 0, .str key, .str v] st (Qk τ π G key v L st):=by
 refine bO ?_;rw[w11];have fP:∀b,st.next<=b->b∉π.all/\b≠τ:=fun b hb=>⟨fun hh=>by have:=h.pg.lt b hh;omega,fun e=>by have:=h.lt;omega⟩;have mu:=h.LR;have rH:∀q,st.next<=q->q∉π.W:=fun q hq hh=>by have:=mu q hh;omega
 have e0:aj .gtr none true (I key.length) (.int .i64 48) st= .ok (.bool (decide (48<key.length))) st:=by rw[av,dj];congr 2;simp only[aBu];omega
 have e1:aj .gtr none true (I v.length) (.int .i64 8192) st= .ok (.bool (decide (8192<v.length))) st:=by rw[av,dj];congr 2;simp only[aBu];omega
 have PN:∀K:CV->Prop,K (.bool (decide (48<key.length\/8192<v.length)))->us (bg (al false (.bool (decide (48<key.length)))) st (.ok (.str v) st)) (fun x4=>us (bg (al false (.bool (decide (48<key.length)))) st (bo .str x4 st)) fun x5=>us (bg (al false (.bool (decide (48<key.length)))) st (aj .gtr none true x5 (.int .i64 8192) st)) fun x6=>us (bk (.bool (decide (48<key.length))) (.bool true) x6 st) K):=fun K hK=>by
  by_cases JK:48<key.length
  ·rw[aBc (.inl JK)]at hK;simp only[aBc JK,aG,aAR,aBf,aBm,cc,af,aF,aBr];exact hK
  ·simp only[aAW JK,aG,aAR,aBf,aBk,bh,af,aF,fh,e1]
   simpa[JK]using hK
 rw[cX,af,ag,aAZ (by decide),fh,af,e0,af];refine PN _ ?_;rw[ag]
 by_cases vy:48<key.length\/8192<v.length
 ·omega
 rw[aAW vy,aAZ (by decide),fh,af];refine(xY (n:=v.length) (by omega)).same ?_;have hpN:eJ v.length<=1000:=by unfold eJ;split<;>omega
 refine(Dy h _ hpN).same ?_;rw[ag]
 by_cases iR:G.ck<24+eJ v.length
 ·omega
 rw[aAW iR,aAZ (by decide)];refine(xX h ht key).mono ?_;rintro _ s3 ⟨k3,x,rfl,hx⟩;have t3:=h.still k3;have e2:∀s,aj .neq (some .int) true (I 0) (.int .i64 0) s= .ok (.bool false) s:=fun s=>rfl;rw[aD,af,aJ,aD,af,e2,af,ag,aAZ (by decide)];refine jU (TC τ π G key v L st) ?_ ?_
 ·intro nQ Fz;rcases hx with⟨pB,rfl⟩|⟨f,rest,hp,vu,hst⟩
  ·have e3:aj .gtr none true (.int .i64 0) (.int .i64 0) s3= .ok (.bool false) s3:=rfl;rw[rk,af,e3,af,ag,aAZ (by decide)];exact Fz _ _ ⟨_,rfl,k3.mono (by simp),t3, .inl ⟨pB,rfl⟩⟩
  ·obtain⟨oF,pD,fp,nR,wz⟩:=hp.size;have HS:=hst π.W mu;have tH:(rest.reverse++[f]).length=rest.length+1:=by simp
   have hlen:=HS.len s3;rw[tH]at hlen;have e3:aj .gtr none true (I ((rest.length+1:Nat):Int)) (.int .i64 0) s3= .ok (.bool true) s3:=by rw[av,dj,aBc (by omega)]
   have e4:=tV (rest.length+1) (by omega) (by omega) s3 none;rw[aCc]at e4;obtain⟨vc,vk,c1,c2,gw⟩:=HS.row (i:=rest.length) (by simp);have hf:(rest.reverse++[f])[rest.length]'(by simp)=f:=by simp
   rw[hf]at c1 c2 gw;rw[hlen,af,e3,af,ag,aBb rfl,af,e4,af];refine gw _ ?_;refine jY c1.bu.2.1 c2.bu.2.1 ?_;have QE:Kp [] s3 (St.new s3 (.cells [I f.page,I f.at_, .bool f.n.leaf,vc,vk] 107 false)):=(Kp.refl [] s3).new _;have Lp:(St.new s3 (.cells [I f.page,I f.at_, .bool f.n.leaf,vc,vk] 107 false)).mem.get s3.next=some (.cells [I f.page,I f.at_, .bool f.n.leaf,vc,vk] 107 false):=aq _ _;generalize St.new s3 (.cells [I f.page,I f.at_, .bool f.n.leaf,vc,vk] 107 false)=ix at*;have t24:=t3.still QE;have ZU:=c1.mono (QE.mono (by simp));have ZV:Kp [] st ix:=k3.trans QE (by simp);have Km:=HS.mono (QE.mono (by simp));simp only[fl,ah,af,az,Lp,ar,aAT,Nat.reduceAdd,aAS,aAQ,au,ZU.len f.n.cells.length (br _) (by omega) ix,dM]
   by_cases hlt:f.at_<f.n.cells.length
   ·rw[aBc hlt];obtain⟨b,p,l,t,g,q1,q2,q3,q4,q5⟩:=ZU.cellAt (L:=f.n.cells.map aQ) (by omega) (eV _) (i:=f.at_) (by simpa using hlt);have q6:=q5 0 (.str f.n.cells[f.at_].key) (by simp[aQ]);rw[aBJ]at q6;simp only[aG,aBr,bh,af,iU,gM,ah,az,Lp,ar,aAT,aBJ,Nat.reduceAdd,aAS,aAQ,au,q1,q2,q6,eT,ph,aF,ag]
    by_cases hk:f.n.cells[f.at_].key=key
    ·exfalso;obtain⟨lo,hi,Ll,Lr,ps,Lt,pt,Ld,pd,hA⟩:=hp.yY;obtain⟨w,po,hv,UB,jx,tI,qM⟩:=hA.Ow ht.ok (aAV hlt) hk;rw[kh]at qM;cases qM
    ·rw[aAW hk,aAZ (by decide)];rcases vn hp ht.ok with⟨c,hc,rG⟩|jx
     ·rw[aAV hlt]at hc;cases hc;exact absurd rG hk
     ·exact Fz _ _ ⟨_,rfl,ZV.mono (by simp),t24, .inr ⟨f,rest,0,hp,jx,vu,Km,(Fp f rest hp).1,rfl⟩⟩
   ·rw[aAW hlt];simp only[aG,aAR,aBf,aBr,cc,af,iU,gM,aF,ag];rcases vn hp ht.ok with⟨c,hc,rG⟩|jx
    ·obtain⟨h1,_⟩:=aBg.1 hc;exact absurd h1 hlt
    ·exact Fz _ _ ⟨_,rfl,ZV.mono (by simp),t24, .inr ⟨f,rest,0,hp,jx,vu,Km,(Fp f rest hp).1,rfl⟩⟩
 ·rintro _ s4 ⟨x,rfl,K4,t4,BG⟩;simp only[aK,aL];refine(Eb t4 Ie hv8 (by omega)).mono ?_;rintro _ s5 ⟨k5,c,G2,pc,rfl,rG,vU,oG,t5⟩;have n5:=k5.next;have n4:=K4.next;have K5:Kp π.W st s5:=K4.trans k5 fun q hq=> .inl hq;rw[aD,af,aJ,aD,af];refine rq rfl rfl (fk c) ?_;have k7:Kp [] s5 (St.new s5 (.cells (aQ c) 109 false)):=(Kp.refl [] s5).new _;have g7:(St.new s5 (.cells (aQ c) 109 false)).mem.get s5.next=some (.cells (aQ c) 109 false):=aq _ _;have n7:(St.new s5 (.cells (aQ c) 109 false)).next=s5.next+1:=rfl;generalize St.new s5 (.cells (aQ c) 109 false)=s7 at*;have t7:=t5.still k7;have K7:Kp π.W st s7:=K5.trans k7 (by simp);rw[e2,af,ag,aAZ (by decide)];rcases BG with⟨pB,rfl⟩|⟨f,rest,k,hp,jx,vu,hst,Xc,alB⟩
  ·have hL0:L=[]:=by
    rcases ht.tree with h|⟨hh,ps,_,hs⟩
    ·exact h.2
    ·obtain⟨n,q,hn,_⟩:=hs;have:=hn.bL.1;omega
   subst hL0;have e3:aj .eql (some .int) true (.int .i64 0) (.int .i64 0) s7= .ok (.bool true) s7:=rfl;rw[rk,af,e3,af,ag,aBb rfl,aO (n:=4) g7 rfl,af,rT (k:=4) rfl rfl rfl,aT,aU];have k8:Kp [] s7 (St.new s7 (.cells (aQ c) 109 false)):=(Kp.refl [] s7).new _;have g8:(St.new s7 (.cells (aQ c) 109 false)).mem.get s7.next=some (.cells (aQ c) 109 false):=aq _ _;have n8:(St.new s7 (.cells (aQ c) 109 false)).next=s7.next+1:=rfl;generalize St.new s7 (.cells (aQ c) 109 false)=s8 at*;have t8:=t7.still k8;have mP:bJ [.bool false, .ae, .ae] [(0,1, .bool true),(1,1, .slice s7.next 0 1 1 0)] s8= .ok (.agg [.bool true, .slice s7.next 0 1 1 0, .ae]) s8:=rfl;rw[mP,af]
   have Fe:IsNode s8 π.W (.agg [.bool true, .slice s7.next 0 1 1 0, .ae]) (cR [c]):=
    ⟨_,_,rfl, .inr ⟨s7.next,0,1,1,0,rfl,rfl,⟨aAU _, .inl rfl⟩, .inr ⟨rH _ (by omega),by omega,_,_,_,g8,by simp[aQ],by simp[cR,bj,aQ]⟩⟩, .inl ⟨rfl,rfl⟩⟩
   have Ii:=oG.free;obtain⟨l1,l2⟩:=EZ vU;have xm:=JY oG.ok (show 0<G2.ck by omega) l1 l2 (.inl rfl);refine(xQ t8 (by omega) Fe l1 l2).mono ?_;rintro _ s9 ⟨rfl,k9,t9⟩;rw[aD,af,aJ,aD,af,e2,af,ag,aAZ (by decide)];refine t9.get' ?_;refine(pe t9.pg _ (.inr xm.is.bL)).mono ?_;rintro _ dd ⟨rfl,qj,VZ⟩;refine⟨rfl,(((K7.trans k8 (by simp)).trans k9 fun q hq=> .inl hq).trans qj fun q hq=> .inl hq),G2,c,pc,_,oG,rG,vU,t9.of qj VZ, ?_, .inl ⟨pB,rfl⟩⟩;have:=zC oG vU xm
   rwa [rG]at this
  ·obtain⟨oF,pD,fp,nR,wz⟩:=hp.size;have Nd:=hst.mono (k5.trans k7 (by simp));have tH:(rest.reverse++[f]).length=rest.length+1:=by simp
   have hlen:=Nd.len s7;rw[tH]at hlen;have e3:aj .eql (some .int) true (I ((rest.length+1:Nat):Int)) (.int .i64 0) s7= .ok (.bool false) s7:=by rw[av,cB,aAW (by omega)]
   have e4:=tV (rest.length+1) (by omega) (by omega) s7 none;rw[aCc]at e4;obtain⟨vc,vk,c1,c2,gw⟩:=Nd.row (i:=rest.length) (by simp);have hf:(rest.reverse++[f])[rest.length]'(by simp)=f:=by simp
   rw[hf]at c1 c2 gw
   have vz:f.n.kids=[]:=by
    have:=pD.iQ;rw[fp,aBb rfl]at this;exact aBn.1 this
   rw[hlen,af,e3,af,ag,aAZ (by decide),af,e4,af];rw[fp]at gw;refine gw _ ?_;refine jY c1.bu.2.1 c2.bu.2.1 ?_;have k8:Kp [] s7 (St.new s7 (.cells [I f.page,I f.at_, .bool true,vc,vk] 107 false)):=(Kp.refl [] s7).new _;have g8:(St.new s7 (.cells [I f.page,I f.at_, .bool true,vc,vk] 107 false)).mem.get s7.next=some (.cells [I f.page,I f.at_, .bool true,vc,vk] 107 false):=aq _ _;have n8:(St.new s7 (.cells [I f.page,I f.at_, .bool true,vc,vk] 107 false)).next=s7.next+1:=rfl;generalize St.new s7 (.cells [I f.page,I f.at_, .bool true,vc,vk] 107 false)=s8 at*;have g78:=(k8.keep s5.next (by omega) (by simp)).trans g7
   have Dr:∀K:CV->Prop,K (.agg [.bool true,vc,vk])->JM 3 2 (.ptr s7.next 0) s8 K:=fun K hK=>by
    unfold JM;rw[ah,af,gq (n:=3) g8 (by simp),af];exact hK
   refine Dr _ ?_;refine qb c1.bu.2.1 c2.bu.2.1 ?_;have k9:Kp [] s8 (St.new s8 (.cells [.bool true,vc,vk] 105 false)):=(Kp.refl [] s8).new _;have g9:(St.new s8 (.cells [.bool true,vc,vk] 105 false)).mem.get s8.next=some (.cells [.bool true,vc,vk] 105 false):=aq _ _;have n9:(St.new s8 (.cells [.bool true,vc,vk] 105 false)).next=s8.next+1:=rfl;generalize St.new s8 (.cells [.bool true,vc,vk] 105 false)=s9 at*;have g89:=(k9.keep s7.next (by omega) (by simp)).trans g8;have g79:=(k9.keep s5.next (by omega) (by simp)).trans g78;have k79:Kp [] s7 s9:=k8.trans k9 (by simp);rw[fl,ah,af,az,g9,ar];simp only[aAT,aAS,aAQ,au];refine(sO ((c1.ef (Y:=[]) (by simp)).mono (k79.mono (by simp))) (dK _) (by rw[br];omega)).mono ?_;rintro xc fZ ⟨F1,wu,o1,Iv,_⟩;have n15:=wu.next;have g15:=(wu.keep s8.next (by omega) (by simp)).trans g9;have Yl:=(wu.keep s7.next (by omega) (by simp)).trans g89;have Ym:=(wu.keep s5.next (by omega) (by simp)).trans g79;obtain⟨RY,NX⟩:=o1.cq;have pC:bt [.bool true,vc,vk] 1 [xc]=[.bool true,xc,vk]:=rfl;rw[Lim.fst,ah,af,aH,g15,aS,NX,aAT,pC];refine⟨⟨rfl,by simp[RY],by simp⟩, ?_⟩;have wv:Kp [] s7 (St.set fZ s8.next (.cells [.bool true,xc,vk] 105 false)):=(k79.trans wu (by simp)).set _ (.inr (by omega)) (by omega);have GU:(St.set fZ s8.next (.cells [.bool true,xc,vk] 105 false)).mem.get s8.next=some (.cells [.bool true,xc,vk] 105 false):=ao _ _ _;have Pu:(St.set fZ s8.next (.cells [.bool true,xc,vk] 105 false)).mem.get s7.next=_:=(ak _ _ _ _ (by omega)).trans Yl;have Ip:(St.set fZ s8.next (.cells [.bool true,xc,vk] 105 false)).mem.get s5.next=_:=(ak _ _ _ _ (by omega)).trans Ym;have n16:(St.set fZ s8.next (.cells [.bool true,xc,vk] 105 false)).next=fZ.next:=rfl;have oT:∀b∈F1,s8.next<b/\b<fZ.next:=fun b hb=>by have:=Iv b hb;omega
   have V9:Own (St.set fZ s8.next (.cells [.bool true,xc,vk] 105 false)) xc 4 109 (bj f.n.cells) F1:=o1.mono fun b hb=>by have:=oT b hb;rw[ak _ _ _ _ (by omega)]
   generalize St.set fZ s8.next (.cells [.bool true,xc,vk] 105 false)=cD at*;have K16:Kp π.W st cD:=K7.trans wv (by simp);have t16:=t7.still wv;have aiz:=Nd.mono (wv.mono (by simp));have aim:Sl cD π.W vk 1 (bU []):=by rw[<-vz];exact c2.mono (wv.mono (by simp))
   refine jU (fun vs s=>∃VJ VG,vs=[.ptr τ 0,x, .ptr s8.next 0]/\Kp π.W st s/\Tg τ π s G2/\dN s π.W x (rest.reverse++[f])/\s.mem.get s8.next=some (.cells [.bool true,VJ,VG] 105 false)/\IsNode s π.W (.agg [.bool true,VJ,VG]) (cR (f.n.cells.take f.at_++([c]++f.n.cells.drop (f.at_+k))))) ?_ ?_
   ·intro Za OZ;have Nj:Sl cD [] xc 4 (f.n.cells.map aQ).flatten:=V9.sl fun b hb=>⟨by simp,by have:=oT b hb;omega⟩;simp only[fl,ah,af,az,GU,Pu,ar,aAT,Nat.reduceAdd,aAS,aAQ,au,Nj.len f.n.cells.length (br _) (by omega) cD,dM]
    have O0:k=0->R 51 [xc,I f.at_, .slice cD.next 0 1 1 0] (St.new cD (.cells (aQ c) 109 false)) fun mj fm=>Lim.fst 1 1 (.ptr s8.next 0) mj fm fun Ag=>Za [.ptr τ 0,x, .ptr s8.next 0] Ag:=by
     intro JC;have kA:Kp [] cD (St.new cD (.cells (aQ c) 109 false)):=(Kp.refl [] cD).new _;have gA:(St.new cD (.cells (aQ c) 109 false)).mem.get cD.next=some (.cells (aQ c) 109 false):=aq _ _;have nA:(St.new cD (.cells (aQ c) 109 false)).next=cD.next+1:=rfl;generalize St.new cD (.cells (aQ c) 109 false)=sA at*;have oA:=V9.keep kA fun b hb=>⟨by have:=oT b hb;omega,by simp⟩;refine(zg oA (br _) (by omega) (fun b hb=>by have:=oT b hb;omega) gA (fun hh=>by have:=oT _ hh;omega) rfl (dK _) (fk _) wz).mono ?_;rintro mj fm ⟨F2,o2,KT,Yr⟩;have n21:=KT.next;have OG:s8.next∉F1:=fun hh=>by have:=oT _ hh;omega
     have g21:=((KT.keep s8.next (by omega) OG).trans (kA.keep s8.next (by omega) (by simp))).trans GU;obtain⟨oe1,oe2⟩:=o2.cq;have jR:bt [.bool true,xc,vk] 1 [mj]=[.bool true,mj,vk]:=rfl;rw[Lim.fst,ah,af,aH,g21,aS,oe2,aAT,jR];refine⟨⟨rfl,by simp[oe1],by simp⟩, ?_⟩
     have qF:∀b∈F2,s8.next<b/\b<fm.next:=fun b hb=>by
      obtain⟨p1,p2⟩:=Yr b hb;refine⟨?_,p2⟩;rcases p1 with h|h
      ·have:=(oT b h).1;omega
      ·omega
     have zG:(bj f.n.cells).take (f.at_*4)++(aQ c++(bj f.n.cells).drop (f.at_*4))=bj (cR (f.n.cells.take f.at_++([c]++f.n.cells.drop (f.at_+k)))).cells:=by
      rw[jg _ _ wz,jh _ _ wz,JC];show _=bj (f.n.cells.take f.at_++c::f.n.cells.drop f.at_);rw[gj]
      congr 1
     rw[zG]at o2;have o22:Own (St.set fm s8.next (.cells [.bool true,mj,vk] 105 false)) mj 4 109 (bj (cR (f.n.cells.take f.at_++([c]++f.n.cells.drop (f.at_+k)))).cells) F2:=o2.mono fun b hb=>by have:=qF b hb;rw[ak _ _ _ _ (by omega)]
     have CY:Kp [] s7 (St.set fm s8.next (.cells [.bool true,mj,vk] 105 false)):=((wv.trans kA (by simp)).trans KT fun q hq=> .inr (by have:=oT q hq;omega)).set _ (.inr (by omega)) (by omega);have abj:Kp (s8.next::F1) cD (St.set fm s8.next (.cells [.bool true,mj,vk] 105 false)):=((kA.mono (by simp)).trans KT fun q hq=> .inl (by simp[hq])).set _ (.inl (by simp)) (by omega);have Ti:(St.set fm s8.next (.cells [.bool true,mj,vk] 105 false)).mem.get s8.next=some (.cells [.bool true,mj,vk] 105 false):=ao _ _ _;have n22:(St.set fm s8.next (.cells [.bool true,mj,vk] 105 false)).next=fm.next:=rfl;generalize St.set fm s8.next (.cells [.bool true,mj,vk] 105 false)=Ag at*;have VH:Sl Ag π.W vk 1 (bU []):=by rw[<-vz];exact c2.mono (CY.mono (by simp))
     exact OZ _ _ ⟨mj,vk,rfl,K7.trans CY (by simp),t7.still CY,Nd.mono (CY.mono (by simp)),Ti,mj,vk,rfl,o22.sl fun b hb=>⟨rH b (by have:=qF b hb;omega),by have:=qF b hb;omega⟩,VH⟩
    by_cases hlt:f.at_<f.n.cells.length
    ·rw[aBc hlt];obtain⟨b,p,l,t,g,q1,q2,q3,q4,q5⟩:=Nj.cellAt (by omega) (eV _) (i:=f.at_) (by simpa using hlt);have q6:=q5 0 (.str f.n.cells[f.at_].key) (by simp[aQ]);rw[aBJ]at q6;simp only[aG,aBr,bh,af,iU,gM,ah,az,GU,Pu,ar,aAT,aBJ,Nat.reduceAdd,aAS,aAQ,au,q1,q2,q6,eT,ph,aF,ag]
     by_cases hk:f.n.cells[f.at_].key=key
     ·rw[aBc hk,aBb rfl,aO (n:=4) Ip rfl,af]
      have oV:k=1:=by
       rcases jx.found with⟨h,_⟩|⟨_,_,h⟩
       ·exact h
       ·exact absurd hk (h _ (aAV hlt))
      obtain⟨bc,rfl,xG,Yi⟩:=kF V9 (by omega) (br _) (by omega);have hbc:=oT bc (by simp[xG])
      have UM:cU 4 (.slice bc 0 f.n.cells.length f.n.cells.length 4) (I f.at_) cD= .ok (.ptr bc (f.at_*4)) cD:=by
       have:=gu (size:=4) (off:=0) (cap:=f.n.cells.length) (grow:=4) hlt (.inr (aAU _)) cD (b:=bc)
       rwa [aAT]at this
      have OK:bt (bj f.n.cells) (f.at_*4) (aQ c)=bj (cR (f.n.cells.take f.at_++([c]++f.n.cells.drop (f.at_+k)))).cells:=by
       unfold bj;rw[sJ (eV _) _ (by simpa using hlt) _ rfl,oV];unfold cR;rw[aCJ,aBb (by simpa using hlt)];simp[aCE,aCt]
      unfold Db;rw[UM,af,aH,Yi,aS,aU,OK];refine⟨⟨rfl,rfl,by rw[br];omega⟩, ?_⟩;have CZ:Kp [] s7 (St.set cD bc (.cells (bj (cR (f.n.cells.take f.at_++([c]++f.n.cells.drop (f.at_+k)))).cells) 109 true)):=wv.set _ (.inr (by omega)) (by omega);have Yh:(St.set cD bc (.cells (bj (cR (f.n.cells.take f.at_++([c]++f.n.cells.drop (f.at_+k)))).cells) 109 true)).mem.get bc=some (.cells (bj (cR (f.n.cells.take f.at_++([c]++f.n.cells.drop (f.at_+k)))).cells) 109 true):=ao _ _ _;have Lq:(St.set cD bc (.cells (bj (cR (f.n.cells.take f.at_++([c]++f.n.cells.drop (f.at_+k)))).cells) 109 true)).mem.get s8.next=_:=(ak _ _ _ _ (by omega)).trans GU;have n17:(St.set cD bc (.cells (bj (cR (f.n.cells.take f.at_++([c]++f.n.cells.drop (f.at_+k)))).cells) 109 true)).next=cD.next:=rfl;generalize St.set cD bc (.cells (bj (cR (f.n.cells.take f.at_++([c]++f.n.cells.drop (f.at_+k)))).cells) 109 true)=kx at*;have PQ:(cR (f.n.cells.take f.at_++([c]++f.n.cells.drop (f.at_+k)))).cells.length=f.n.cells.length:=by unfold cR;simp;omega
      have VI:Sl kx π.W vk 1 (bU []):=by rw[<-vz];exact c2.mono (CZ.mono (by simp))
      exact OZ _ _ ⟨_,vk,rfl,K7.trans CZ (by simp),t7.still CZ,Nd.mono (CZ.mono (by simp)),Lq,_,vk,rfl, .inr ⟨bc,0,_,_,4,rfl,by rw[br,PQ],⟨aAU _, .inr rfl⟩, .inr ⟨rH _ (by omega),by omega,_,_,_,Yh,by rw[br,PQ];omega,by rw[aBx,aBa (by rw[br,PQ];omega)]⟩⟩,VI⟩
     ·rw[aAW hk,aAZ (by decide),aO (n:=4) Ip rfl,af,rT (k:=4) rfl rfl rfl,aT,aU];refine O0 ?_;rcases jx.found with⟨_,c',mW,O8⟩|⟨h,_⟩
      ·rw[aAV hlt]at mW;cases mW;exact absurd O8 hk
      ·exact h
    ·rw[aAW hlt];simp only[aG,aAR,aBf,aBr,cc,af,iU,gM,aF,ag];rw[aO (n:=4) Ip rfl,af,rT (k:=4) rfl rfl rfl,aT,aU];refine O0 ?_;rcases jx.found with⟨_,c',mW,O8⟩|⟨h,_⟩
     ·obtain⟨h1,_⟩:=aBg.1 mW;exact absurd h1 hlt
     ·exact h
   ·rintro _ kx ⟨VJ,VG,rfl,K17,t17,VM,Lq,HK⟩;simp only[aK,aL];obtain⟨gg,gs⟩:=jx.put oG rG vU;refine fx (n:=cR (f.n.cells.take f.at_++([c]++f.n.cells.drop (f.at_+k)))) Lq ?_;have vC:=(Fp f rest hp).2;subst Xc;subst alB
    have hs5:(cR (f.n.cells.take f.at_++([c]++f.n.cells.drop (f.at_+0)))).size<=512:=by
     refine yr (fun d hd=> ?_) (by simp only[aAY,aBh,aBo,aBt,aCu];omega);rcases aBe.1 hd with hd|hd
     ·have:=pD.cell d (aBD hd);rwa [fp]at this
     ·rcases aBe.1 hd with hd|hd
      ·have:d=c:=by simpa using hd
       rw[this];exact vU
      ·have:=pD.cell d (aBG hd);rwa [fp]at this
    refine(zI t17 gg rfl (by unfold cR;simp) hs5 VM HK).mono ?_;rintro _ cC ⟨rfl,L7,t18,o18⟩;exact⟨rfl,K17.trans L7 fun q hq=> .inl hq,G2,c,pc,_,oG,rG,vU,t18,o18, .inr ⟨f,hp,rfl⟩⟩
end
section
variable {τ:Nat} {π:PI} {st st':St} {G:GM}
def Qr (τ:Nat)(π:PI)(G:GM)(key:List UInt8)(L:List bB)(st:St)(y:CV)(st':St):Prop:=
 y= .tuple [.bool true,I 0]/\Kp π.W st st'/\∃w po f,l5 L key=some w/\jI G key f [] L/\∃c,f.n.cells[f.at_]?=some c/\zV G c w po/\(fV G po).ck=G.ck+po.length/\
  Tg τ π st' ((fV G po).put f.page (.node (cR (f.n.cells.take f.at_++f.n.cells.drop (f.at_+1)))))/\fv ((fV G po).put f.page (.node (cR (f.n.cells.take f.at_++f.n.cells.drop (f.at_+1))))) (AS L key)
theorem RC (h:Tg τ π st G){L:List bB}(ht:fv G L)(key:bZ)(Ie:key.length<=48)(tI:24<=G.ck)(Fp:∀f rest,jI G key f rest L->rest=[]/\f.n.cells.length=2)(vt:G.root≠0)(FD:(l5 L key).isSome=true):R 41 [.ptr τ 0, .str key] st (Qr τ π G key L st):=by
 refine bO ?_;rw[w41];have fP:∀b,st.next<=b->b∉π.all/\b≠τ:=fun b hb=>⟨fun hh=>by have:=h.pg.lt b hh;omega,fun e=>by have:=h.lt;omega⟩;have mu:=h.LR;have rH:∀q,st.next<=q->q∉π.W:=fun q hq hh=>by have:=mu q hh;omega
 have e0:aj .gtr none true (I key.length) (.int .i64 48) st= .ok (.bool (decide (48<key.length))) st:=by rw[av,dj];congr 2;simp only[aBu];omega
 rw[cX,af,ag,aAZ (by decide),fh,af,e0,af,ag]
 by_cases vy:48<key.length
 ·omega
 rw[aAW vy,aAZ (by decide)];have hfk:=Dy h 0 (by omega);refine hfk.same ?_;rw[ag]
 by_cases iR:G.ck<24+0
 ·omega
 rw[aAW iR,aAZ (by decide)];refine(xX h ht key).mono ?_;rintro _ s2 ⟨k2,x,rfl,hx⟩;have t2:=h.still k2;have e2:∀s,aj .neq (some .int) true (I 0) (.int .i64 0) s= .ok (.bool false) s:=fun s=>rfl;rw[aD,af,aJ,aD,af,e2,af];simp only[aG,aAR,aBf,aBk,bh,af]
 have aao:∀s,l5 L key=none->AS L key=L->Qr τ π G key L st (.tuple [.bool false, .int .i64 0]) s:=fun s h1 h2=>by
  rw[h1]at FD;cases FD
 rcases hx with⟨pB,rfl⟩|⟨f,rest,hp,vu,hst⟩
 ·exact absurd pB vt
 ·obtain⟨oF,pD,fp,nR,wz⟩:=hp.size;have WM:=hst π.W mu;have tH:(rest.reverse++[f]).length=rest.length+1:=by simp
  have hlen:=WM.len s2;rw[tH]at hlen;have e3:aj .eql (some .int) true (I ((rest.length+1:Nat):Int)) (.int .i64 0) s2= .ok (.bool false) s2:=by rw[av,cB,aAW (by omega)]
  have e4:=tV (rest.length+1) (by omega) (by omega) s2 none;rw[aCc]at e4;obtain⟨vc,vk,c1,c2,gw⟩:=WM.row (i:=rest.length) (by simp);have hf:(rest.reverse++[f])[rest.length]'(by simp)=f:=by simp
  rw[hf]at c1 c2 gw
  have vz:f.n.kids=[]:=by
   have:=pD.iQ;rw[fp,aBb rfl]at this;exact aBn.1 this
  simp only[hlen,af,e3,aF,aAR,aBf,ag,e4];rw[fp]at gw;refine gw _ ?_;refine jY c1.bu.2.1 c2.bu.2.1 ?_;have k4:Kp [] s2 (St.new s2 (.cells [I f.page,I f.at_, .bool true,vc,vk] 107 false)):=(Kp.refl [] s2).new _;have g4:(St.new s2 (.cells [I f.page,I f.at_, .bool true,vc,vk] 107 false)).mem.get s2.next=some (.cells [I f.page,I f.at_, .bool true,vc,vk] 107 false):=aq _ _;have n4:(St.new s2 (.cells [I f.page,I f.at_, .bool true,vc,vk] 107 false)).next=s2.next+1:=rfl;generalize St.new s2 (.cells [I f.page,I f.at_, .bool true,vc,vk] 107 false)=s4 at*;have k2n:=k2.next;have t4:=t2.still k4;have c4:=c1.mono (k4.mono (by simp));have K4:Kp [] st s4:=k2.trans k4 (by simp);have st4:=WM.mono (k4.mono (by simp));obtain⟨lo,hi,Ll,Lr,ps,Lt,pt,Ld,pd,hA⟩:=hp.yY;have e5:aj .eql (some .int) false (I f.at_) (I f.n.cells.length) s4= .ok (.bool (decide (f.at_=f.n.cells.length))) s4:=by rw[av,cB];congr 2;simp only[aBu];omega
  simp only[fl,ah,af,az,g4,ar,aAT,Nat.reduceAdd,aAS,aAQ,au,c4.len f.n.cells.length (br _) (by omega) s4,e5]
  by_cases Dt:f.at_=f.n.cells.length
  ·obtain⟨_,qJ,hde⟩:=hA.E5 (fun c hc=>by rw[Dt,aBL (aAU _)]at hc;cases hc);rw[aBc Dt];simp only[aG,aAR,aBf,aBm,cc,af,iU,gM,aF,aBr,ag];exact aao s4 qJ hde
  ·have hlt:f.at_<f.n.cells.length:=by omega
   rw[aAW Dt];obtain⟨b,p,l,t,g,q1,q2,q3,q4,q5⟩:=c4.cellAt (L:=f.n.cells.map aQ) (by omega) (eV _) (i:=f.at_) (by simpa using hlt);have q6:=q5 0 (.str f.n.cells[f.at_].key) (by simp[aQ]);rw[aBJ]at q6;simp only[aG,aAR,aBf,aBk,bh,af,iU,gM,ah,az,g4,ar,aAT,aBJ,Nat.reduceAdd,aAS,aAQ,au,q1,q2,q6,eT,nq,aF,ag]
   by_cases hk:f.n.cells[f.at_].key=key
   ·obtain⟨w,po,hv,UB,jx,tI,qM⟩:=hA.Ow ht.ok (aAV hlt) hk;rw[aBc hk,aBm,aAZ (by decide)];refine c4.jG (L:=f.n.cells.map aQ) (by omega) (eV _) (by simpa using hlt) _ ?_;have e:(f.n.cells.map aQ)[f.at_]'(by simpa using hlt)=aQ f.n.cells[f.at_]:=by simp
    rw[e];have vU:=pD.cell _ (aBq hlt);rw[fp]at vU;refine(BJ t4 vU hv UB).mono ?_;rintro _ s5 ⟨rfl,k5,t5⟩;have n5:=k5.next;have g5:=(k5.keep s2.next (by omega) (rH _ (by omega))).trans g4;have K5:Kp π.W st s5:=(K4.mono (by simp)).trans k5 fun q hq=> .inl hq;rw[e2,af,ag,aAZ (by decide)]
    have Dr:∀K:CV->Prop,K (.agg [.bool true,vc,vk])->JM 3 2 (.ptr s2.next 0) s5 K:=fun K hK=>by
     unfold JM;rw[ah,af,gq (n:=3) g5 (by simp),af];exact hK
    refine Dr _ ?_;refine qb c1.bu.2.1 c2.bu.2.1 ?_;have c5:=(c4.mono k5);have d5:=((c2.mono (k4.mono (by simp))).mono k5);have k7:Kp [] s5 (St.new s5 (.cells [.bool true,vc,vk] 105 false)):=(Kp.refl [] s5).new _;have g7:(St.new s5 (.cells [.bool true,vc,vk] 105 false)).mem.get s5.next=some (.cells [.bool true,vc,vk] 105 false):=aq _ _;have n7:(St.new s5 (.cells [.bool true,vc,vk] 105 false)).next=s5.next+1:=rfl;generalize St.new s5 (.cells [.bool true,vc,vk] 105 false)=s7 at*;have g47:=(k7.keep s2.next (by omega) (by simp)).trans g5;rw[bG,ah,af,az,g7,ar];simp only[aAT,aAS,aAQ,au];refine(sO ((c5.ef (Y:=[]) (by simp)).mono (k7.mono (by simp))) (dK _) (by rw[br];omega)).mono ?_;rintro xc s8 ⟨F1,wu,o1,Iv,_⟩;have n8:=wu.next;have g8:=(wu.keep s5.next (by omega) (by simp)).trans g7;have g48:=(wu.keep s2.next (by omega) (by simp)).trans g47;have oT:∀b∈F1,s5.next<b/\b<s8.next:=fun b hb=>by have:=Iv b hb;omega
    simp only[ah,af,az,g48,g47,ar,aAT,aAS,aAQ,au,ik f.at_ (by omega),aCV,and_true];refine(F8 (n:=f.n.cells.length) o1 (br _) (by omega) (fun b hb=>by have:=oT b hb;omega) (dK _) hlt).mono ?_;rintro og s9 ⟨o9,k9,n9⟩;have g9:=(k9.keep s5.next (by omega) (fun hh=>by have:=oT _ hh;omega)).trans g8
    have ec:(bj f.n.cells).take (f.at_*4)++(bj f.n.cells).drop ((f.at_+1)*4)=bj (cR (f.n.cells.take f.at_++f.n.cells.drop (f.at_+1))).cells:=by
     rw[jg _ _ (by omega),jh _ _ (by omega),<-gj];rfl
    rw[ec]at o9
    have aar:=o9 (π.W++[s5.next]) fun b hb hh=>by
     have:=oT b hb;simp at hh;rcases hh with hh|hh
     ·exact rH b (by omega) hh
     ·omega
    have vk9:Sl s9 (π.W++[s5.next]) vk 1 (bU []):=by
     have e:bU []=bU f.n.kids:=by rw[vz]
     rw[e]
     have d7:=d5.ef (Y:=π.W++(s5.next::F1)) (by
      intro b hb;simp at hb;rcases hb with h|h|h
      ·exact .inl h
      ·right;omega
      ·right;have:=oT b h;omega)
     have te:∀b∈π.W++[s5.next],b∈π.W++(s5.next::F1):=fun b hb=>by
      rcases aBe.1 hb with h|h
      ·exact aDl _ h
      ·have h2:b=s5.next:=aCg.1 h;rw[h2];exact List.mem_append_right _ aBW
     have d9:=((d7.mono (k7.mono (by simp))).mono (wu.mono (by simp))).mono (k9.mono (G:=π.W++(s5.next::F1)) (by intro b hb;left;simp[hb]));exact d9.ef fun b hb=> .inl (te b hb)
    obtain⟨z1,z2,z3⟩:=aar.bu;have pC:bt [.bool true,vc,vk] 1 [og]=[.bool true,og,vk]:=rfl;rw[aH,g9,aS,z3,pC];refine⟨⟨rfl,by simp[z2],by simp⟩, ?_⟩;have Wk:Kp [s5.next] s9 (St.set s9 s5.next (.cells [.bool true,og,vk] 105 false)):=(Kp.refl _ s9).set _ (.inl (by simp)) (by omega);have Ra:(St.set s9 s5.next (.cells [.bool true,og,vk] 105 false)).mem.get s5.next=some (.cells [.bool (cR (f.n.cells.take f.at_++f.n.cells.drop (f.at_+1))).leaf,og,vk] 105 false):=ao _ _ _;generalize St.set s9 s5.next (.cells [.bool true,og,vk] 105 false)=dd at*;have Wn:Kp [] s5 dd:=((k7.trans wu (by simp)).trans k9 fun q hq=> .inr (by have:=oT q hq;omega)).trans Wk (by intro q hq;right;simp at hq;omega)
    have Wc:IsNode dd π.W (.agg [.bool (cR (f.n.cells.take f.at_++f.n.cells.drop (f.at_+1))).leaf,og,vk]) (cR (f.n.cells.take f.at_++f.n.cells.drop (f.at_+1))):=
     ⟨og,vk,rfl,(aar.mono (Wk.mono (by intro q hq;left;exact List.mem_append_right _ hq))).ef (fun q hq=> .inl (aDl _ hq)),(vk9.mono (Wk.mono (by intro q hq;left;exact List.mem_append_right _ hq))).ef (fun q hq=> .inl (aDl _ hq))⟩
    have t10:=t5.still Wn;have Hd:=(st4.mono k5).mono (Wn.mono (by simp));refine fx Ra ?_;obtain⟨gg,gs⟩:=jx.del;obtain⟨pB,QV⟩:=Fp f rest hp;subst pB
    have hs5:(cR (f.n.cells.take f.at_++f.n.cells.drop (f.at_+1))).size<=512:=by
     refine yr (fun d hd=> ?_) (by simp only[aAY,aBh,aBo];omega);rcases aBe.1 hd with hd|hd
     ·have:=pD.cell d (aBD hd);rwa [fp]at this
     ·have:=pD.cell d (aBG hd);rwa [fp]at this
    have akU:(cR (f.n.cells.take f.at_++f.n.cells.drop (f.at_+1))).cells≠[]:=by
     intro hh;have:=congrArg List.length hh;unfold cR at this;simp only[aAY,aBh,aBo,aCu]at this;omega
    refine(zI t10 gg rfl akU hs5 Hd Wc).mono ?_;rintro _ dm ⟨rfl,pJ,t11,o11⟩;rw[e2,af,ag,aAZ (by decide)];exact⟨rfl,(K5.trans Wn (by simp)).trans pJ fun q hq=> .inl hq,w,po,f,qM,hp,f.n.cells[f.at_],aAV hlt,hv,tI,t11,o11⟩
   ·obtain⟨_,qJ,hde⟩:=hA.E5 (fun c hc=>by rw[aAV hlt]at hc;cases hc;exact hk);rw[aAW hk,aBk,aBb rfl];exact aao s4 qJ hde
end
