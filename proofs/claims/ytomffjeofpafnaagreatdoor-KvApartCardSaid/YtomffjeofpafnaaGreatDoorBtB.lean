import Derived.Test.YtomffjeofpafnaaGreatDoorBtA
namespace Lim
open Go
noncomputable section
set_option linter.defProp false
set_option maxRecDepth 100000
section
variable {τ:Nat} {π:PI} {st st':St} {G:GM}
def DZ {d:List UInt8}{lo hi:Nat}(h1:lo<=hi)(h2:hi<=d.length)(s:St):ix (.str d) (some (I lo)) (some (I hi)) s=.ok (.str ((d.drop lo).take (hi-lo))) s:=by
 unfold ix;dsimp only;rw[qt,aEW ⟨h1,h2⟩]
structure Wf (G G':GM)(c:dh)(v:List UInt8)(pc:List Nat):Prop where
 ok:uY G'
 val:Dl G' c v pc
 nd:pc.Nodup
 new:∀x∈pc,¬G.bW x
 kept:∀qs,(∀x∈qs,G.bW x)->Kept G G' qs
 root:G'.root=G.root
 free:G'.cF+cq v.length=G.cF
 aH:G'.aH=G.aH
 frl:G'.fr.length<=G.fr.length
def Dj (G:GM):G.alloc.fr.length<=G.fr.length:=by
 unfold GM.alloc
 split
 .exact aEQ _
 .rename_i h;rw[h];simp
structure abz (τ:Nat)(π:PI)(st:St)(G:GM)(v:List UInt8)(x8:Nat)(j:Nat)(s:St)(G':GM)(MQ:List Nat)(qU:Nat):Prop where
 tg:Tg τ π s G'
 g8:s.m.g x8=some (.cells [I qU] 3 false)
 chain:pC G' MQ qU (v.drop (j*480))
 len:MQ.length+j=(v.length+479)/480
 nd:MQ.Nodup
 new:∀x∈MQ,¬G.bW x
 kept:∀qs,(∀x∈qs,G.bW x)->Kept G G' qs
 root:G'.root=G.root
 free:G'.cF+MQ.length=G.cF
 aH:G'.aH=G.aH
 kp:Kp (x8::π.W) st s
 frl:G'.fr.length<=G.fr.length
def FE (h:Tg τ π st G){key v:List UInt8}(hk:key.length<=48)(hv:v.length<=8192)(hf:cq v.length<=G.cF):R 47 [.ptr τ 0,.str key,.str v] st λx st'=>Kp π.W st st'/\∃c G' pc,x=.tuple [.agg (aU c),I 0]/\c.key=key/\c.ok true/\Wf G G' c v pc/\Tg τ π st' G':=by
 refine bP ?_;rw[w47];rw[bV,FT];refine⟨rfl,?_⟩;have k1:Kp [] st (St.new st (.cells [.ptr τ 0] 27 false)):=(Kp.refl [] st).new _;have g1:(St.new st (.cells [.ptr τ 0] 27 false)).m.g st.nx=some (.cells [.ptr τ 0] 27 false):=ao _ _;have n1:(St.new st (.cells [.ptr τ 0] 27 false)).nx=st.nx+1:=rfl;generalize St.new st (.cells [.ptr τ 0] 27 false)=s1 at*;have k2:Kp [] s1 (St.new s1 (.cells [.str [],.str [],.int .i64 0,.int .i64 0] 109 false)):=(Kp.refl [] s1).new _;have g2:(St.new s1 (.cells [.str [],.str [],.int .i64 0,.int .i64 0] 109 false)).m.g s1.nx=some (.cells [.str [],.str [],.int .i64 0,.int .i64 0] 109 false):=ao _ _;have n2:(St.new s1 (.cells [.str [],.str [],.int .i64 0,.int .i64 0] 109 false)).nx=s1.nx+1:=rfl;rw[cH,aS];generalize St.new s1 (.cells [.str [],.str [],.int .i64 0,.int .i64 0] 109 false)=s2 at*;have rj:=(k2.keep st.nx qE uG).trans g1;have nK:=k1.trans k2 uG;have t2:=h.still nK;rw[fg,af];refine(zk (n:=v.length) qE).same ?_
 by_cases NA:v.length<=64
 .have e0:cq v.length=0:=by unfold cq;rw[aEW NA]
  have e1:ai .eql (some .int) true (I (cq v.length)) (.int .i64 0) s2=.ok (.bool true) s2:=by rw[e0];rfl
  have nD:bk [.str [],.str [],.int .i64 0,.int .i64 0] [(0,1,.str key),(1,1,.str v)] s2=.ok (.agg (aU ⟨key,v,0,0⟩)) s2:=rfl;have kP:bD [.str [],.str [],.int .i64 0,.int .i64 0] 0 (aU ⟨key,v,0,0⟩)=aU ⟨key,v,0,0⟩:=ep _ _ rfl;rw[e1,af,ag,aEW rfl,nD,af,aJ,g2,aW,aT,kP];refine⟨⟨rfl,rfl,uG⟩,?_⟩;rw[aK (n:=4) (ar _ _ _) rfl,af];have k3:Kp [s1.nx] s2 (St.set s2 s1.nx (.cells (aU ⟨key,v,0,0⟩) 109 false)):=(Kp.refl _ s2).set _ (.inl uG) qE;refine⟨(nK.mono uG).set _ (.inr qE) qE,⟨key,v,0,0⟩,G,[],rfl,rfl,⟨hk,λh=>(by cases h),λ_ _=>⟨rfl,NA⟩,λ_ h=>absurd rfl h⟩,⟨h.pg.XZ,.inl ⟨rfl,rfl,rfl⟩,uG,uG,λqs _ q _=>⟨id,rfl⟩,rfl,by rw[e0];rfl,rfl,aEQ _⟩,t2.wI k3 λb hb=>?_⟩;simp at hb;subst hb;exact⟨λhh=>acE,λe=>Wr⟩
 .have e0:cq v.length=(v.length+479)/480:=by unfold cq;rw[aET NA]
  have e1:ai .eql (some .int) true (I (cq v.length)) (.int .i64 0) s2=.ok (.bool false) s2:=Ft
  rw[e1,af,ag,aET u7]
  have QS:∀K:CV->St->Prop,(upon (du 3 [.int .i64 0] s2) λx8 s5=>upon (aR 1 x8 (.int .i64 0) s5) λ_ s6=>K x8 s6)=K (.ptr s2.nx 0) (St.new s2 (.cells [I ((0:Nat):Int)] 3 false)):=by
   intro K;have kP:bD [.int .i64 0] 0 [.int .i64 0]=[I ((0:Nat):Int)]:=rfl;rw[cH,aS,aJ,ao,aW,jc,DM,kP];simp
  rw[QS];have k3:Kp [] s2 (St.new s2 (.cells [I ((0:Nat):Int)] 3 false)):=(Kp.refl [] s2).new _;have g3:(St.new s2 (.cells [I ((0:Nat):Int)] 3 false)).m.g s2.nx=some (.cells [I ((0:Nat):Int)] 3 false):=ao _ _;have n3:(St.new s2 (.cells [I ((0:Nat):Int)] 3 false)).nx=s2.nx+1:=rfl;generalize St.new s2 (.cells [I ((0:Nat):Int)] 3 false)=s3 at*;have jN:=nK.trans k3 uG;have nE:=(k3.keep st.nx qE uG).trans rj;have Hu:=(k3.keep s1.nx qE uG).trans g2;have t3:=t2.still k3;have mV:=h.Oc;have eU:∀b,st.nx<=b->b∉π.all/\b≠τ:=λb hb=>⟨λhh=>Ym,λe=>Wr⟩;have hnW:∀b,st.nx<=b->b∉π.W:=λb hb hh=>by have:=mV b hh;omega
  rw[lB,af,cV];have es1:ai .sub none true (I (cq v.length)) (.int .i64 1) s3=.ok (I ((cq v.length:Int)-1)) s3:=acP
  rw[es1,af];simp only[aL,aM];rw[e0]
  refine bN (λfu vs s=>vs=[.str key,.str v,.ptr s1.nx 0,.ptr s2.nx 0,.func (.func 96) [] [.ptr st.nx 0,.ptr s2.nx 0],I ((fu:Int)-1)]/\∃G' MQ qU,abz τ π s3 G v s2.nx fu s G' MQ qU) ?_ (n:=(v.length+479)/480)
   ⟨rfl,G,[],0,⟨t3,g3,⟨rfl,aFu qE⟩,uG,uG,uG,λqs _ q _=>⟨id,rfl⟩,rfl,rfl,rfl,Kp.refl _ _,aEQ _⟩⟩
  rintro fu vs s k ⟨rfl,G',MQ,qU,hI⟩ next;have JM:=hI.kp.nx;have gx1:=(hI.kp.keep st.nx qE (by simp only[aEP,aGk];exact⟨qE,hnW _ (aEQ _)⟩)).trans nE;have gx2:=(hI.kp.keep s1.nx qE (by simp only[aEP,aGk];exact⟨qE,hnW _ qE⟩)).trans Hu;have hlen:=hI.len;simp only[aL,aM]
  by_cases hc:0<fu
  .obtain⟨j,rfl⟩:∃j,fu=j+1:=⟨fu-1,qE⟩;have ei:(((j+1:Nat):Int)-1)=((j:Nat):Int):=by omega
   rw[ei];have aui:j*480<v.length:=qE
   have a1:ai .geq none true (I j) (.int .i64 0) s=.ok (.bool true) s:=by rw[az,sG,aEV qE]
   have a2:ai .mul none true (I j) (.int .i64 480) s=.ok (I ((j*480:Nat):Int)) s:=O3
   have a3:ai .mul none true (I ((j+1:Nat):Int)) (.int .i64 480) s=.ok (I (((j+1)*480:Nat):Int)) s:=O3
   have a4:Cz false (I v.length) (I (((j+1)*480:Nat):Int)) s=.ok (I ((min v.length ((j+1)*480):Nat):Int)) s:=by
    have e:Cz false (I v.length) (I (((j+1)*480:Nat):Int)) s=.ok (I (if (((j+1)*480:Nat):Int)<(v.length:Int)then (((j+1)*480:Nat):Int)else (v.length:Int))) s:=rfl;rw[e];congr 2;split<;>omega
   have a5:=DZ (d:=v) (lo:=j*480) (hi:=min v.length ((j+1)*480)) qE qE s
   have Vw:(v.drop (j*480)).take (min v.length ((j+1)*480)-j*480)=(v.drop (j*480)).take 480:=by
    by_cases hm:(j+1)*480<=v.length
    .rw[Nat.min_eq_right hm];congr 1;omega
    .rw[aFG qE,aEX Pc,aEX Pc]
   rw[Vw]at a5;rw[a1,af,ag,aEW rfl];simp only[a2,af,fg,gH j qE,a3,a4,a5,dM,aFt,aFS]
   have wP:0<G'.cF:=by
    have:=hI.free;rw[e0]at hf;omega
   have BT:qU<=qZ:=by
    have hC:=hI.chain;cases MQ with
    |nil=>obtain⟨rfl,_⟩:=hC;exact aHt _
    |cons p pr=>obtain⟨rfl,_,hu,_⟩:=hC;exact sn hI.tg.pg.XZ hu
   have ha:=ru hI.tg.pg.XZ wP;refine(Y2 hI.tg wP gx1 hI.g8 qE qE (eU _ (aEQ _)).1 (eU _ qE).1 (eU _ qE).2 qE (d:=(v.drop (j*480)).take 480) O0 BT).mono ?_;rintro _ s9 ⟨rfl,k9,t9,g9⟩;have e5:ai .neq (some .int) true (I 0) (.int .i64 0) s9=.ok (.bool false) s9:=rfl;have e6:ai .sub none true (I j) (.int .i64 1) s9=.ok (I ((j:Int)-1)) s9:=acP
   simp only[e5,af,ag,aEM,aFa,e6];have anX:=hI.chain.aH;have Tv:G'.dL∉MQ:=λhh=>ha.not (anX _ hh);have rY:(v.drop (j*480)).drop 480=v.drop ((j+1)*480):=by rw[aHn];congr 1;omega
   refine next j _ _ qE ⟨rfl,G'.alloc.put G'.dL (.dU qU ((v.drop (j*480)).take 480)),G'.dL::MQ,G'.dL,t9,g9,⟨rfl,?_,(ha.bW _).2 (.inr rfl),qU,ku _ _ _,BT,?_⟩,by rw[aFp];omega,aFd.2 ⟨Tv,hI.nd⟩,?_,?_,ha.root.trans hI.root,?_,ha.aH.trans hI.aH,hI.kp.trans k9 (ael),aGb (Dj G') hI.frl⟩
   .intro e;have:=congrArg List.length e;rw[aFn]at this;simp at this;omega
   .rw[rY];exact hI.chain.kept ((vz ha Tv).trans (lH Tv))
   .intro x hx;rcases aEP.1 hx with rfl|hx
    .intro hu;have:=((hI.kept [G'.dL] (by simpa using hu)) G'.dL uG).1 hu;exact ha.not this
    .exact hI.new x hx
   .intro qs ZO;have h1:=hI.kept qs ZO;have hq:G'.dL∉qs:=λhh=>ha.not ((h1 _ hh).1 (ZO _ hh));exact(h1.trans (vz ha hq)).trans (lH hq)
   .have h1:=ha.free;have h2:=hI.free;rw[aFp];show G'.alloc.cF+_=_;omega
  .have XE:fu=0:=by omega
   subst XE;have a1:ai .geq none true (I (((0:Nat):Int)-1)) (.int .i64 0) s=.ok (.bool false) s:=rfl;have nD:bk [.str [],.str [],.int .i64 0,.int .i64 0] [(0,1,.str key),(2,1,I qU),(3,1,I v.length)] s=.ok (.agg (aU ⟨key,[],qU,v.length⟩)) s:=rfl;have kP:bD [.str [],.str [],.int .i64 0,.int .i64 0] 0 (aU ⟨key,[],qU,v.length⟩)=aU ⟨key,[],qU,v.length⟩:=ep _ _ rfl;rw[a1,af,ag,aET u7,aB,hI.g8,aq,aEL,ay,fg,af,nD,af,aJ,gx2,aW,aT,kP];refine⟨⟨rfl,rfl,uG⟩,?_⟩;rw[aK (n:=4) (ar _ _ _) rfl,af];have k9:Kp [s1.nx] s (St.set s s1.nx (.cells (aU ⟨key,[],qU,v.length⟩) 109 false)):=(Kp.refl _ s).set _ (.inl uG) qE;have hC:=hI.chain;rw[Nat.zero_mul,aFr]at hC
   have ZR:qU≠0/\qU<=qZ:=by
    cases MQ with
    |nil=>obtain⟨_,h2⟩:=hC;rw[h2]at NA;simp at NA
    |cons p pr=>obtain⟨rfl,_,hu,_⟩:=hC;exact⟨by have:=hu.1;omega,sn hI.tg.pg.XZ hu⟩
   refine⟨((jN.mono uG).trans hI.kp λq hq=>?_).trans k9 (by intro q hq;simp at hq;right;omega),⟨key,[],qU,v.length⟩,G',MQ,rfl,rfl,⟨hk,λh=>(by cases h),λ_ h=>absurd h ZR.1,λ_ _=>⟨rfl,ZR.2,by show 1<=v.length;omega,by show v.length<=2147483647;omega⟩⟩,⟨hI.tg.pg.XZ,.inr ⟨ZR.1,rfl,qE,hv,hC⟩,hI.nd,hI.new,hI.kept,hI.root,by rw[e0,<-hI.free];omega,hI.aH,hI.frl⟩,hI.tg.wI k9 λb hb=>?_⟩
   .rcases aEP.1 hq with rfl|hq
    .right;omega
    .exact .inl hq
   .simp at hb;subst hb;exact eU _ qE
end
section
variable {X:List Nat}{x:CV}{l:List cK}{L:List bq}
section
variable {τ:Nat} {π:PI} {st st':St} {G:GM}
def eu.len (h:eu st X x l)(s:St):bo .slice x s=.ok (I l.length) s:=by
 obtain⟨rows,a,b⟩:=h;rw[a.len rows.length (fJ b.w) qE s,b.len]
def eu.row (h:eu st X x l){i:Nat}(hi:i<l.length):∃vc vk,Sl st X vc 4 (bC l[i].n.cells)/\Sl st X vk 1 (cJ l[i].n.kids)/\∀Q:CV->Prop,Q (.agg [I l[i].page,I l[i].at_,.bool l[i].n.leaf,vc,vk])->Lim.hO 5 5 x (I i) st Q:=by
 obtain⟨rows,a,b⟩:=h;obtain⟨fk,vc,vk,e,c,d⟩:=b.at hi;refine⟨vc,vk,c,d,λQ hQ=>?_⟩;refine a.hO qE b.w fk Q ?_;rw[e];exact hQ
def mm.size {key:cn}{f:cK}{rest:List cK}(h:mm G key f rest L):f.n.cells.length<=512/\f.n.ok/\f.n.leaf=true/\f.at_=f.n.find key/\f.at_<=f.n.cells.length:=by
 obtain⟨lo,hi,Ll,Lr,Lm,ps,q,h1,h2,h3,h4,h5,h6,h7,h8⟩:=h;have:=eC f.n.leaf f.n.cells;have hs:=h2.size;rw[ck]at hs;exact⟨qE,h2.ok,h3.leaf,h8,by rw[h8];exact aGZ⟩
def kJ {s:St}{p a:Nat}{leaf:Bool}{vc vk:CV}{K:CV->St->Prop}(h1:cE vc=true)(h2:cE vk=true)(hK:K (.ptr s.nx 0) (St.new s (.cells [I p,I a,.bool leaf,vc,vk] 107 false))):
 upon (du 107 [.int .i64 0,.int .i64 0,.bool false,.ae,.ae] s) λx s2=>upon (aR 5 x (.agg [I p,I a,.bool leaf,vc,vk]) s2) λ_ s3=>K x s3:=mH rfl rfl (by simp[h1,h2]) hK
def aaL (h:Tg τ π st G)(ht:fA G L)(key:cn):R 13 [.ptr τ 0,.str key] st λx st'=>Kp [] st st'/\x=if 48<key.length then .tuple [.str [],.bool false,I 1]else .tuple [.str ((fE L key).getD []),.bool (fE L key).isSome,I 0]:=by
 refine bP ?_;rw[w13];have e0:ai .gtr none true (I key.length) (.int .i64 48) st=.ok (.bool (decide (48<key.length))) st:=zz
 rw[cD,af,ag,aET u7,fg,af,e0,af,ag]
 by_cases LS:48<key.length
 .rw[aEV LS,aEW rfl,aEW LS];exact⟨Kp.refl _ _,rfl⟩
 .rw[aEO LS,aET u7,aET LS];refine(zj h ht key).mono ?_;rintro _ s1 ⟨k1,x,rfl,hx⟩;have t1:=h.still k1;have e1:ai .neq (some .int) true (I 0) (.int .i64 0) s1=.ok (.bool false) s1:=rfl;simp only[aE,aN,af,e1,aG,aEM,aFa,aFf,bh];rcases hx with⟨rM,rfl⟩|⟨f,rest,hp,vO,hst⟩
  .have hL:L=[]:=by
    rcases ht.tree with h|⟨hh,ps,_,hs⟩
    .exact h.2
    .obtain⟨n,q,hn,_⟩:=hs;have:=hn.bW.1;omega
   subst hL;have e2:ai .eql (some .int) true (.int .i64 0) (.int .i64 0) s1=.ok (.bool true) s1:=rfl;simp only[pY,af,e2,aF,aEM,aFa,ag,aFm];exact⟨k1,rfl⟩
  .obtain⟨oO,uu,fL,lL,yU⟩:=hp.size;have QS:=hst [] uG;have uT:(rest.reverse++[f]).length=rest.length+1:=by simp
   have hlen:=QS.len s1;rw[uT]at hlen;have e2:ai .eql (some .int) true (I ((rest.length+1:Nat):Int)) (.int .i64 0) s1=.ok (.bool false) s1:=Ft
   have e3:=vd (rest.length+1) qE qE s1 none;rw[aFY]at e3;obtain⟨vc,vk,c1,c2,gG⟩:=QS.row (i:=rest.length) uG;have hf:(rest.reverse++[f])[rest.length]'(by simp)=f:=uG
   rw[hf]at c1 c2 gG;simp only[hlen,af,e2,aF,aEM,aFa,ag,e3];refine gG _ ?_;refine kJ c1.bE.2.1 c2.bE.2.1 ?_;have k3:Kp [] s1 (St.new s1 (.cells [I f.page,I f.at_,.bool f.n.leaf,vc,vk] 107 false)):=(Kp.refl [] s1).new _;have g3:(St.new s1 (.cells [I f.page,I f.at_,.bool f.n.leaf,vc,vk] 107 false)).m.g s1.nx=some (.cells [I f.page,I f.at_,.bool f.n.leaf,vc,vk] 107 false):=ao _ _;generalize St.new s1 (.cells [I f.page,I f.at_,.bool f.n.leaf,vc,vk] 107 false)=s3 at*;have t3:=t1.still k3;have c13:=c1.mono k3;have jN:=k1.trans k3 uG;obtain⟨lo,hi,Ll,Lr,ps,Lt,pt,Ld,pd,hA⟩:=hp.Ap;have e4:ai .eql (some .int) false (I f.at_) (I f.n.cells.length) s3=.ok (.bool (decide (f.at_=f.n.cells.length))) s3:=OX
   simp only[fl,ah,af,aB,g3,aq,aER,Nat.reduceAdd,aEN,aEL,ay,c13.len f.n.cells.length (bB _) qE s3,e4]
   by_cases EJ:f.at_=f.n.cells.length
   .obtain⟨_,qy,_⟩:=hA.GN (λc hc=>by rw[EJ,aFQ (aEQ _)]at hc;cases hc);rw[aEV EJ,qy];simp only[aG,aEM,aFa,aFh,bS,af,gQ,hJ,aF,aFm,ag];exact⟨jN,rfl⟩
   .have hlt:f.at_<f.n.cells.length:=by omega
    rw[aEO EJ];obtain⟨b,p,l,t,g,q1,q2,q3,q4,q5⟩:=c13.cellAt (L:=f.n.cells.map aU) qE (fp _) (i:=f.at_) OZ;have q6:=q5 0 (.str f.n.cells[f.at_].key) TT;rw[aFC]at q6;simp only[aG,aEM,aFa,aFf,bh,af,gQ,hJ,ah,aB,g3,aq,aER,aFC,Nat.reduceAdd,aEN,aEL,ay,q1,q2,q6,eA,nX,aF,ag]
    by_cases hk:f.n.cells[f.at_].key=key
    .obtain⟨w,po,xi,Bp,v1,v2,v3,v4,v5,v6⟩:=hA.found (aES hlt) hk;rw[aEV hk,aFh,aET u7];refine c13.hO (L:=f.n.cells.map aU) qE (fp _) OZ _ ?_;have e:(f.n.cells.map aU)[f.at_]'(by simpa using hlt)=aU f.n.cells[f.at_]:=by simp
     rw[e];have vH:=uu.cell _ (aFj hlt);rw[fL]at vH;refine(Fz t3 vH v1).mono ?_;rintro _ s4 ⟨rfl,k4⟩;have e5:ai .eql (some .int) true (I 0) (.int .i64 0) s4=.ok (.bool true) s4:=rfl;simp only[aE,aN,af,e5];rw[v6];exact⟨jN.trans k4 uG,rfl⟩
    .obtain⟨_,qy,_⟩:=hA.GN (λc hc=>by rw[aES hlt]at hc;cases hc;exact hk);rw[aEO hk,aFf,aEW rfl,qy];exact⟨jN,rfl⟩
end
end
section
variable {X:List Nat}{v:CV}{n:bp}{m:Nat}{l:List cK}{x:CV}{s:St}{vc vk:CV}
section
variable {τ:Nat} {π:PI} {st st':St} {G:GM}
def Sl.zh {k n:Nat}{L:List CV}(hs:Sl st X v k L)(hk:0<k)(hn:L.length=n*k)(h0:0<n)(hm:m<=n)(s:St):∃v',iU k v none (I m) (I m) s=.ok v' s/\Sl st X v' k (L.take (m*k)):=by
 rcases hs with⟨rfl,rfl⟩|⟨b,off,len,cap,grow,rfl,g2,g3,g4⟩
 .have:=Nat.mul_pos h0 hk;simp at hn;omega
 .have:len=n:=aFU hk (by rw[<-g2,hn]);subst this;have Vh:=aFH k hm
  have e:iU k (.slice b off len cap grow) none (I m) (I m) s=(if m=0 then .ok (.slice b off 0 0 0) s else .ok (.slice b off m m 0) s):=by
   unfold iU;dsimp only;rw[ua,aEW qE];dsimp only;rw[tZ,aEW (aEQ _)];simp only[dI,aP,aFO,aFs,aFw];rw[aEW (.inr qE)];have e1:Nat.sub m 0=m:=rfl;have e2:Nat.add off (Nat.mul 0 k)=off:=uG
   rw[e1,e2]
   by_cases No:m=0
   .rw[aEW No,aEW No,No]
   .rw[aET No,aET No]
  rw[e]
  by_cases No:m=0
  .subst No;exact⟨_,by rw[aEW rfl],.inr ⟨b,off,0,0,0,rfl,uG,⟨aEQ _,.inl rfl⟩,.inl rfl⟩⟩
  .rw[aET No];refine⟨_,rfl,.inr ⟨b,off,m,m,0,rfl,O0,⟨aEQ _,.inl rfl⟩,?_⟩⟩;rcases g4 with g4|⟨g5,g6,c,t,g,g7,g8,g9⟩
   .omega
   .exact .inr ⟨g5,g6,c,t,g,g7,qE,by rw[<-g9,aGf,aFG Vh]⟩
def dJ.take {rs:List (List CV)}(h:dJ st X rs l)(i:Nat):dJ st X (rs.take i) (l.take i):=by
 induction rs generalizing l i with
 |nil=>cases l with|nil=>simp[dJ]|cons s l=>exact h.elim
 |cons r rs ih=>cases l with
  |nil=>exact h.elim
  |cons s l=>cases i with
   |zero=>trivial
   |succ i=>exact⟨h.1,ih h.2 i⟩
def eu.zh (h:eu st X x l)(h0:0<l.length)(hm:m<=l.length)(s:St):∃x',iU 5 x none (I m) (I m) s=.ok x' s/\eu st X x' (l.take m):=by
 obtain⟨rows,a,b⟩:=h;have hl:=b.len;obtain⟨v',p1,p2⟩:=a.zh qE (fJ b.w) qE (m:=m) qE s;rw[qm b.w m qE]at p2;exact⟨v',p1,_,p2,b.take m⟩
def eu.hi (h:eu st X x l)(hm:m<=l.length)(s:St):∃x',aQ 5 x none (some (I m)) s=.ok x' s/\eu st X x' (l.take m):=by
 obtain⟨rows,a,b⟩:=h;have hl:=b.len;obtain⟨v',p1,p2⟩:=a.hi qE (fJ b.w) (h:=m) qE s;rw[qm b.w m qE]at p2;exact⟨v',p1,_,p2,b.take m⟩
def qV {leaf:Bool}{K:CV->St->Prop}(h1:cE vc=true)(h2:cE vk=true)(hK:K (.ptr s.nx 0) (St.new s (.cells [.bool leaf,vc,vk] 105 false))):
 upon (du 105 [.bool false,.ae,.ae] s) λx s2=>upon (aR 3 x (.agg [.bool leaf,vc,vk]) s2) λ_ s3=>K x s3:=mH rfl rfl (by simp[h1,h2]) hK
def Dm (τ:Nat)(π:PI)(G:GM)(LL:List bq)(st:St)(y:CV)(st':St):Prop:=y=I 0/\Kp π.W st st'/\∃G',Tg τ π st' G'/\fA G' LL/\G'.aH=G.aH
def fH {b:Nat}{K:CV->Prop}(hg:s.m.g b=some (.cells [.bool n.leaf,vc,vk] 105 false))(hK:K (.agg [.bool n.leaf,vc,vk])):us (aI 3 (.ptr b 0) s) K:=by
 rw[aK (n:=3) hg rfl,af];exact hK
def Yu:∀(m:Nat) (rest:List cK),rest.length=m->∀{st:St} {G:GM} {f:cK} {n:bp} {h:Nat} {x v:CV} {LL:List bq},Tg τ π st G->za G h f.page rest n LL->(n.leaf=true\/n.cells≠[])->n.size<=640->rest.length+2<=G.cF->
 eu st π.W x (rest.reverse++[f])->IsNode st π.W v n->rest.length<=16->R 104 [.ptr τ 0,x,v] st (Dm τ π G LL st):=by
 intro m
 induction m using Nat.strongRecOn with
 |_ m ih=>
  intro rest hm st G f n h x v LL ht hg jh hsz j0 hst hv vO;have mV:=ht.Oc;have zo:=hv;obtain⟨vc,vk,rfl,J9,LM⟩:=hv
  have oO:n.cells.length<=640:=by
   have:=eC n.leaf n.cells;rw[ck]at hsz;omega
  refine bP ?_;rw[adl];rw[bV,aT];refine⟨rfl,?_⟩;have k1:Kp [] st (St.new st (.cells [.bool n.leaf,vc,vk] 105 false)):=(Kp.refl [] st).new _;have g1:(St.new st (.cells [.bool n.leaf,vc,vk] 105 false)).m.g st.nx=some (.cells [.bool n.leaf,vc,vk] 105 false):=ao _ _;have n1:(St.new st (.cells [.bool n.leaf,vc,vk] 105 false)).nx=st.nx+1:=rfl;generalize St.new st (.cells [.bool n.leaf,vc,vk] 105 false)=s1 at*;have gD:=hst.mono (k1.mono uG);have uT:(rest.reverse++[f]).length=rest.length+1:=uG
  have e3:=λs=>by
   have:=vd (rest.length+1) qE qE s none
   rwa [aFY]at this
  obtain⟨zy,zx,c1,c2,gG⟩:=gD.row (i:=rest.length) uG;have hf:(rest.reverse++[f])[rest.length]'(by simp)=f:=uG
  rw[hf]at c1 c2 gG;have hlen:=λs=>hst.len s;rw[uT]at hlen;simp only[hlen,af,e3];refine gG _ ?_;refine kJ c1.bE.2.1 c2.bE.2.1 ?_;have k3:Kp [] s1 (St.new s1 (.cells [I f.page,I f.at_,.bool f.n.leaf,zy,zx] 107 false)):=(Kp.refl [] s1).new _;have g3:(St.new s1 (.cells [I f.page,I f.at_,.bool f.n.leaf,zy,zx] 107 false)).m.g s1.nx=some (.cells [I f.page,I f.at_,.bool f.n.leaf,zy,zx] 107 false):=ao _ _;have n3:(St.new s1 (.cells [I f.page,I f.at_,.bool f.n.leaf,zy,zx] 107 false)).nx=s1.nx+1:=rfl;generalize St.new s1 (.cells [I f.page,I f.at_,.bool f.n.leaf,zy,zx] 107 false)=s3 at*;have jN:=k1.trans k3 uG;have nE:=(k3.keep st.nx qE uG).trans g1;have st3:=gD.mono (k3.mono uG);obtain⟨dd,YJ,I3⟩:=st3.zh uG (m:=rest.length) uG s3
  have yv:(rest.reverse++[f]).take rest.length=rest.reverse:=by
   rw[aGj uG]
  rw[yv]at I3;have t3:=ht.still jN;simp only[YJ,af];refine fH nE ?_;refine(zf t3.fr ((zo.mono (jN.mono uG)).dW uG) hg.JE qE).mono ?_;rintro _ s4 ⟨rfl,k4⟩;have rQ:=jN.trans k4 uG;have n4:=k4.nx;have Iz:=(k4.keep st.nx qE uG).trans nE;have OB:=(k4.keep s1.nx qE uG).trans g3;have t4:=ht.still rQ;have v4:=zo.mono (rQ.mono uG);have Wv:=I3.mono (k4.mono uG);have e4:ai .leq none true (I n.size) (.int .i64 512) s4=.ok (.bool (decide (n.size<=512))) s4:=IN
  simp only[e4,af,ag];obtain⟨lo,hi,Ll,Lr,L,ps,q,wQ,kD,ja,TI⟩:=hg.ctx
  by_cases vI:n.size<=512
  .rw[aEV vI,aEW rfl];simp only[fl,ah,af,aB,OB,aq,aER,aEL,ay];refine fH Iz ?_;refine(lW t4 hg.bW (v4.dW uG) hg.JE vI).mono ?_;rintro _ s5 ⟨rfl,k5,t5⟩;refine⟨rfl,(rQ.mono uG).trans k5 ael,_,t5,?_,rfl⟩;rw[<-TI];exact wQ.write hg.ok hg.bW hg.JE vI jh kD ja
  .rw[aEO vI,aET u7];obtain⟨i,Hi,H⟩:=Sw hg.JE qE qE
   have Rr:cG n<n.cells.length:=by
    have:=H.lt;unfold cG;cases fL:n.leaf with
    |false=>simp;omega
    |true=>
     rw[aEW rfl];have hA:=H.neA;rcases H.eqs with⟨_,e,_⟩|⟨h,_⟩
     .rw[e]at hA
      have:0<i:=by
       rcases Nat.eq_zero_or_pos i with h0|h0
       .exact absurd (by show n.cells.take i=[];rw[h0,aGM]) hA
       .exact h0
      omega
     .rw[fL]at h;cases h
   refine fH Iz ?_;refine(Ta t4.fr (v4.dW uG) hg.JE qE Rr).mono ?_;rintro _ s6 ⟨xa,xb,rfl,k6,hxa,hxb⟩;generalize apP:xS n=cu at*;obtain⟨a,sp,b⟩:=cu;simp only at H hxa hxb;have n6:=k6.nx;have EG:=rQ.trans k6 uG;have agN:∀q∈π.W,q<s4.nx:=λq hq=>by have:=mV q hq;have:=rQ.nx;omega
   have sV:∀q,st.nx<=q->q∉π.W:=λq hq hh=>aak
   obtain⟨ca,ka,rfl,ya1,ya2⟩:=hxa π.W agN;obtain⟨cb,kb,rfl,yb1,yb2⟩:=hxb π.W agN;obtain⟨za1,za2,za3⟩:=ya1.bE;obtain⟨zb1,zb2,zb3⟩:=ya2.bE;obtain⟨zc1,zc2,zc3⟩:=yb1.bE;obtain⟨zd1,zd2,zd3⟩:=yb2.bE;have yy:(St.new s6 (.cells [.bool false,.ae,.ae] 105 false)).nx=s6.nx+1:=rfl;simp only[aE,aN,af];rw[cH,aS,cH,aS,yy];have kA:Kp [] s6 (St.new (St.new s6 (.cells [.bool false,.ae,.ae] 105 false)) (.cells [.bool false,.ae,.ae] 105 false)):=((Kp.refl [] s6).new _).new _;have gA1:(St.new (St.new s6 (.cells [.bool false,.ae,.ae] 105 false)) (.cells [.bool false,.ae,.ae] 105 false)).m.g s6.nx=some (.cells [.bool false,.ae,.ae] 105 false):=(bg _ _ _ uG).trans (ao _ _);have gA2:(St.new (St.new s6 (.cells [.bool false,.ae,.ae] 105 false)) (.cells [.bool false,.ae,.ae] 105 false)).m.g (s6.nx+1)=some (.cells [.bool false,.ae,.ae] 105 false):=ao (St.new s6 (.cells [.bool false,.ae,.ae] 105 false)) _;have nA:(St.new (St.new s6 (.cells [.bool false,.ae,.ae] 105 false)) (.cells [.bool false,.ae,.ae] 105 false)).nx=s6.nx+2:=rfl;generalize St.new (St.new s6 (.cells [.bool false,.ae,.ae] 105 false)) (.cells [.bool false,.ae,.ae] 105 false)=s8 at*;have kP:∀a b c:CV,bD [.bool false,.ae,.ae] 0 [a,b,c]=[a,b,c]:=λa b c=>rfl;rw[aJ,gA1,aW,aT,kP];refine⟨⟨rfl,by simp[za2,zb2],uG⟩,?_⟩;rw[aJ,al _ _ _ _ qE,gA2,aW,aT,kP];refine⟨⟨rfl,by simp[zc2,zd2],uG⟩,?_⟩;have kB:Kp [] s6 (St.set (St.set s8 s6.nx (.cells [.bool a.leaf,ca,ka] 105 false)) (s6.nx+1) (.cells [.bool b.leaf,cb,kb] 105 false)):=(kA.set _ (.inr (aEQ _)) qE).set _ (.inr qE) vR;have gB1:(St.set (St.set s8 s6.nx (.cells [.bool a.leaf,ca,ka] 105 false)) (s6.nx+1) (.cells [.bool b.leaf,cb,kb] 105 false)).m.g s6.nx=some (.cells [.bool a.leaf,ca,ka] 105 false):=(al _ _ _ _ qE).trans (ar _ _ _)
   have gB2:(St.set (St.set s8 s6.nx (.cells [.bool a.leaf,ca,ka] 105 false)) (s6.nx+1) (.cells [.bool b.leaf,cb,kb] 105 false)).m.g (s6.nx+1)=some (.cells [.bool b.leaf,cb,kb] 105 false):=ar _ _ _;have nB:(St.set (St.set s8 s6.nx (.cells [.bool a.leaf,ca,ka] 105 false)) (s6.nx+1) (.cells [.bool b.leaf,cb,kb] 105 false)).nx=s6.nx+2:=nA;generalize St.set (St.set s8 s6.nx (.cells [.bool a.leaf,ca,ka] 105 false)) (s6.nx+1) (.cells [.bool b.leaf,cb,kb] 105 false)=s10 at*;have pG:=EG.trans kB uG;have aes:=k6.trans kB uG;have Kf:=(aes.keep s1.nx qE uG).trans OB;have t10:=ht.still pG;have amF:IsNode s10 π.W (.agg [.bool a.leaf,ca,ka]) a:=⟨ca,ka,rfl,ya1.mono (kB.mono uG),ya2.mono (kB.mono uG)⟩;have amD:IsNode s10 π.W (.agg [.bool b.leaf,cb,kb]) b:=⟨cb,kb,rfl,yb1.mono (kB.mono uG),yb2.mono (kB.mono uG)⟩;simp only[fl,ah,af,aB,Kf,aq,aER,aEL,ay];refine fH gB1 ?_;refine(lW t10 hg.bW (amF.dW uG) H.Ol H.szA).mono ?_;rintro _ dq ⟨rfl,qx,t11⟩;have UR:=qx.nx;have e5:∀s,ai .neq (some .int) true (I 0) (.int .i64 0) s=.ok (.bool false) s:=λs=>rfl;have arn:=(qx.keep (s6.nx+1) qE (sV _ (by have:=EG.nx;omega))).trans gB2;simp only[e5,af,ag,aEM,aFa];refine fH arn ?_;have aag:0<(G.put f.page (.node a)).cF:=by rw[zX];omega
   have yC:=Mh (hg.ok.put f.page (.node a)) aag H.okB H.szB (.inr H.neB);refine(ze t11 aag (amD.mono qx) H.okB H.szB).mono ?_;rintro _ bO ⟨rfl,qg,t12⟩;generalize hr:(G.put f.page (.node a)).dL=r at*;generalize hG2:(G.put f.page (.node a)).alloc.put r (.node b)=G2 at*;have Om:=qg.nx;have xN:=((pG.mono uG).trans qx ael).trans qg ael;have WV:=qx.trans qg ael;have arz:=(WV.keep s1.nx (by have:=pG.nx;omega) (sV _ qE)).trans Kf;have adD:=(Wv.mono (aes.mono uG)).mono WV;have afN:=adD.len bO;rw[List.length_reverse]at afN;have hrm:=sn yC.ok yC.is.bW;have e6:ai .eql (some .int) true (I rest.length) (.int .i64 0) bO=.ok (.bool (decide (rest.length=0))) bO:=OX
   simp only[aE,aN,af,e5,ag,aEM,aFa,afN,e6];have BQ:sp.length<=48:=by rw[H.key];exact(hg.JE.cell _ (aFj ..)).key
   cases rest with
   |nil=>
    obtain⟨_,rfl,rfl,rfl,rfl,rfl⟩:=(show f.page=G.root/\lo=[]/\hi=none/\Ll=[]/\Lr=[]/\ps=[]from wQ);rw[aEW (show decide (([]:List cK).length=0)=true from rfl)];have nD:bk [.str [],.str [],.int .i64 0,.int .i64 0] [(0,1,.str sp)] bO=.ok (.agg (aU (fW sp))) bO:=rfl;rw[nD,af,oz (k:=4) rfl rfl rfl,aS];have oM:Kp [] bO (St.new bO (.cells (CV.agg (aU (fW sp))).cN 109 false)):=(Kp.refl [] bO).new _;have aaV:(St.new bO (.cells (CV.agg (aU (fW sp))).cN 109 false)).m.g bO.nx=some (.cells (aU (fW sp)) 109 false):=ao _ _;have n13:(St.new bO (.cells (CV.agg (aU (fW sp))).cN 109 false)).nx=bO.nx+1:=rfl;generalize St.new bO (.cells (CV.agg (aU (fW sp))).cN 109 false)=ey at*;have ary:=(oM.keep s1.nx qE uG).trans arz;have Oz:bM 3 2 (cM 2 [.int .i64 0]) [(0,1,I f.page),(1,1,I r)] ey=.ok (.slice ey.nx 0 2 2 0) (St.new ey (.cells [I f.page,I r] 3 false)):=rfl;simp only[ary,aq,aEL,ay,Oz,aS];have wJ:Kp [] ey (St.new ey (.cells [I f.page,I r] 3 false)):=(Kp.refl [] ey).new _;have arF:(St.new ey (.cells [I f.page,I r] 3 false)).m.g ey.nx=some (.cells [I f.page,I r] 3 false):=ao _ _;have n14:(St.new ey (.cells [I f.page,I r] 3 false)).nx=ey.nx+1:=rfl;generalize St.new ey (.cells [I f.page,I r] 3 false)=eT at*;have arG:=(wJ.keep bO.nx qE uG).trans aaV;have Nv:bk [.bool false,.ae,.ae] [(1,1,.slice bO.nx 0 1 1 0),(2,1,.slice ey.nx 0 2 2 0)] eT=.ok (.agg [.bool false,.slice bO.nx 0 1 1 0,.slice ey.nx 0 2 2 0]) eT:=rfl;rw[Nv,af];have afU:=xN.nx;have t14:=(t12.still oM).still wJ
    have AG:IsNode eT π.W (.agg [.bool false,.slice bO.nx 0 1 1 0,.slice ey.nx 0 2 2 0]) ⟨false,[fW sp],[f.page,r]⟩:=
     ⟨_,_,rfl,.inr ⟨bO.nx,0,1,1,0,rfl,rfl,⟨aEQ _,.inl rfl⟩,.inr ⟨sV _ qE,qE,_,_,_,arG,TT,rfl⟩⟩,.inr ⟨ey.nx,0,2,2,0,rfl,rfl,⟨aEQ _,.inl rfl⟩,.inr ⟨sV _ qE,qE,_,_,_,arF,uG,rfl⟩⟩⟩
    have hpm:=sn hg.ok hg.bW;have uu:bp.ok ⟨false,[fW sp],[f.page,r]⟩:=⟨λc hc=>by simp at hc;subst hc;exact tE BQ,by unfold iS;simp,rfl,λk hk=>by simp at hk;rcases hk with rfl|rfl<;>assumption⟩
    have afq:bp.size ⟨false,[fW sp],[f.page,r]⟩<=512:=by
     rw[ck];have h1:=(iD (tE BQ)).2.2 rfl;have h2:=(kh f.page hpm).2;have h3:=(kh r hrm).2;have h4:(uv ([fW sp]:List dh).length).length=1:=eM uG;simp only[h4,aEM,aFa];have h5:(cT false [fW sp]).length=(iq false (fW sp)).length:=by simp[cT]
     have h6:(eY [f.page,r]).length=(uv f.page).length+(uv r).length:=acV
     rw[h5,h6];omega
    have JY:0<G2.cF:=by have:=yC.free;rw[zX]at this;simp at j0;omega
    have aaH:=Mh yC.ok JY uu afq (.inr uG);refine(ze t14 JY AG uu afq).mono ?_;rintro _ gY ⟨rfl,nz,t15⟩;simp only[aE,aN,af,e5,ag,aEM,aFa];refine t15.get' ?_;refine(pW t15.pg _ (.inr aaH.is.bW)).mono ?_;rintro _ bU ⟨rfl,zn,p16⟩;refine⟨rfl,?_,_,t15.of zn p16,?_,?_⟩
    .exact((((xN.trans oM uG).trans wJ uG).trans nz ael).trans zn ael)
    .rw[<-TI];simp only[aFt,aFN]at ja⊢;exact I4 hg.ok hg.bW hg.JE H kD ja yC aaH
    .have h1:=aaH.aH;have h2:=yC.aH;exact h1.trans h2
   |cons sm fX=>
    rw[aEO uG,aET u7];obtain⟨m1,m2,m3,m4,m5,la,fk,yZ,yY,L',pF,q',m6,m7,m8,m9⟩:=MA wQ hg.ok hg.bW hg.JE H kD ja yC;have aCB:=wQ;obtain⟨_,_,_,_,_,_,_,_,_,_,Nh,_,_,_⟩:=wQ
    have aeZ:sm.n.cells.length<=512:=by
     have:=eC sm.n.leaf sm.n.cells;have:=Nh.size;rw[ck]at this;omega
    have Zz:=Nh.ok.jw;rw[m2,aET u7]at Zz
    have e7:ai .sub none true (I (sm::fX).length) (.int .i64 1) bO=.ok (I fX.length) bO:=by
     have:=vd (sm::fX).length (by simp at vO⊢;omega) uG bO none
     simpa using this
    have Wu:eu bO π.W dd (fX.reverse++[sm]):=by simpa using adD
    obtain⟨qD,ni,d1,d2,GV⟩:=Wu.row (i:=fX.length) uG;have Rt:(fX.reverse++[sm])[fX.length]'(by simp)=sm:=uG
    rw[Rt,m2]at GV;rw[Rt]at d1 d2;rw[e7,af];refine GV _ ?_;refine kJ d1.bE.2.1 d2.bE.2.1 ?_;have Oq:Kp [] bO (St.new bO (.cells [I sm.page,I sm.at_,.bool false,qD,ni] 107 false)):=(Kp.refl [] bO).new _;have VJ:(St.new bO (.cells [I sm.page,I sm.at_,.bool false,qD,ni] 107 false)).m.g bO.nx=some (.cells [I sm.page,I sm.at_,.bool false,qD,ni] 107 false):=ao _ _;have n18:(St.new bO (.cells [I sm.page,I sm.at_,.bool false,qD,ni] 107 false)).nx=bO.nx+1:=rfl;generalize St.new bO (.cells [I sm.page,I sm.at_,.bool false,qD,ni] 107 false)=dp at*
    have EH:∀K:CV->Prop,K (.agg [.bool false,qD,ni])->LW 3 2 (.ptr bO.nx 0) dp K:=λK hK=>by
     unfold LW;rw[ah,af,gF (n:=3) VJ uG,af];exact hK
    refine EH _ ?_;refine qV d1.bE.2.1 d2.bE.2.1 ?_;have QH:Kp [] dp (St.new dp (.cells [.bool false,qD,ni] 105 false)):=(Kp.refl [] dp).new _;have g20:(St.new dp (.cells [.bool false,qD,ni] 105 false)).m.g dp.nx=some (.cells [.bool false,qD,ni] 105 false):=ao _ _;have n20:(St.new dp (.cells [.bool false,qD,ni] 105 false)).nx=dp.nx+1:=rfl;generalize St.new dp (.cells [.bool false,qD,ni] 105 false)=iN at*;have ahE:=(QH.keep bO.nx qE uG).trans VJ;have Aw:=Oq.trans QH uG;have agj:=Aw.fresh t12.fr;rw[bG];have JI:=(Kp.refl [] iN).skip;have jx:(St.skip iN).m.g iN.nx=none:=agj _ (aEQ _);have nsk:(St.skip iN).nx=iN.nx+1:=rfl;have XX:(St.skip iN).m.g dp.nx=some (.cells [.bool false,qD,ni] 105 false):=g20;have ahi:(St.skip iN).m.g bO.nx=some (.cells [I sm.page,I sm.at_,.bool false,qD,ni] 107 false):=ahE;generalize St.skip iN=sk at*;have aex:=Aw.trans JI uG;simp only[ah,af,aB,XX,aq,aER,aEN,aEL,ay];refine(tW ((d1.dW (Y:=[]) uG).mono aex) (dS _) Yk).mono ?_;rintro rW fR ⟨F1,xJ,o1,Ki,_⟩;have n21:=xJ.nx;have ahs:=(xJ.keep bO.nx qE uG).trans ahi;have aaK:=(xJ.keep dp.nx qE uG).trans XX;have aqO:=(xJ.keep iN.nx qE uG).trans jx;have nD:bk [.str [],.str [],.int .i64 0,.int .i64 0] [(0,1,.str sp)] fR=.ok (.agg (aU (fW sp))) fR:=rfl;simp only[ahs,aq,aEN,aEL,ay,nD,af];rw[jH aqO (ER (k:=4) rfl rfl rfl),aS];have k22:Kp [iN.nx] fR (St.set fR iN.nx (.cells (CV.agg (aU (fW sp))).cN 109 false)):=(Kp.refl _ fR).set _ (.inl uG) qE;have VI:(St.set fR iN.nx (.cells (CV.agg (aU (fW sp))).cN 109 false)).m.g iN.nx=some (.cells (aU (fW sp)) 109 false):=ar _ _ _;have o22:Own (St.set fR iN.nx (.cells (CV.agg (aU (fW sp))).cN 109 false)) rW 4 109 (bC sm.n.cells) F1:=o1.mono λb hb=>al _ _ _ _ (by have:=(Ki b hb).1;omega)
    have aqX:(St.set fR iN.nx (.cells (CV.agg (aU (fW sp))).cN 109 false)).m.g dp.nx=_:=(al _ _ _ _ qE).trans aaK;have ahr:(St.set fR iN.nx (.cells (CV.agg (aU (fW sp))).cN 109 false)).m.g bO.nx=_:=(al _ _ _ _ qE).trans ahs;have n22:(St.set fR iN.nx (.cells (CV.agg (aU (fW sp))).cN 109 false)).nx=fR.nx:=rfl;generalize St.set fR iN.nx (.cells (CV.agg (aU (fW sp))).cN 109 false)=tF at*;refine(Ay o22 (bB _) qE (λb hb=>by have:=(Ki b hb).2;omega) VI (λhh=>acS) rfl (dS _) (fx _) m1).mono ?_;rintro mY qM ⟨F2,o2,k23,fF2⟩;have n23:=k23.nx;have QT:dp.nx∉F1:=λhh=>acS
    have afg:bO.nx∉F1:=λhh=>acS
    have aqW:=(k23.keep dp.nx qE QT).trans aqX;have arb:=(k23.keep bO.nx qE afg).trans ahr
    have rI:∀b∈F2,iN.nx<b/\b<qM.nx:=λb hb=>by
     obtain⟨p1,p2⟩:=fF2 b hb;refine⟨?_,p2⟩;rcases p1 with h|h
     .have:=(Ki b h).1;omega
     .omega
    obtain⟨UJ,Qm⟩:=o2.cE;have aoe:bD [.bool false,qD,ni] 1 [mY]=[.bool false,mY,ni]:=rfl
    have A0:(bC sm.n.cells).take (sm.at_*4)++(aU (fW sp)++(bC sm.n.cells).drop (sm.at_*4))=bC (more sm.n sm.at_ sp r).cells:=by
     rw[jQ _ _ m1,jR _ _ m1];show _=bC (sm.n.cells.take sm.at_++fW sp::sm.n.cells.drop sm.at_);rw[gE]
     congr 1
    rw[A0]at o2;simp only[aJ,aqW,aW,Qm,aoe,ahi,ahr,aq,aEN,aEL,ay,aHa,and_true,jx];refine⟨⟨rfl,by simp[UJ],uG⟩,?_⟩;have Tp:Kp [dp.nx] qM (St.set qM dp.nx (.cells [.bool false,mY,ni] 105 false)):=(Kp.refl _ qM).set _ (.inl uG) qE;have ND:(St.set qM dp.nx (.cells [.bool false,mY,ni] 105 false)).m.g dp.nx=some (.cells [.bool false,mY,ni] 105 false):=ar _ _ _;have ara:(St.set qM dp.nx (.cells [.bool false,mY,ni] 105 false)).m.g bO.nx=_:=(al _ _ _ _ qE).trans arb;have n24:(St.set qM dp.nx (.cells [.bool false,mY,ni] 105 false)).nx=qM.nx:=rfl;have o24:Own (St.set qM dp.nx (.cells [.bool false,mY,ni] 105 false)) mY 4 109 (bC (more sm.n sm.at_ sp r).cells) F2:=o2.mono λb hb=>al _ _ _ _ acT;have amR:=((aex.trans xJ uG).trans k22 vR).trans k23 λq hq=>.inr (by have:=(Ki q hq).1;omega);have aep:Kp [] bO (St.set qM dp.nx (.cells [.bool false,mY,ni] 105 false)):=amR.set _ (.inr qE) qE;generalize St.set qM dp.nx (.cells [.bool false,mY,ni] 105 false)=iT at*;have agi:=aep.fresh t12.fr;have aeo:=(Kp.refl [] iT).skip;have ED:(St.skip iT).m.g iT.nx=none:=agi _ (aEQ _);have axT:(St.skip iT).nx=iT.nx+1:=rfl;have ahh:(St.skip iT).m.g dp.nx=_:=ND;have ahg:(St.skip iT).m.g bO.nx=_:=ara;rw[bG];generalize St.skip iT=sl at*;have aew:=aep.trans aeo uG;simp only[ahh,aq,aEN,aEL,ay];refine(A4 ((d2.dW (Y:=[]) uG).mono aew) (jI _) (by rw[qd];omega)).mono ?_;rintro mB jA ⟨F3,kc3,o3,fF3,_⟩;have n25:=kc3.nx;have ahq:=(kc3.keep bO.nx qE uG).trans ahg;have aqV:=(kc3.keep dp.nx qE uG).trans ahh;have aqN:=(kc3.keep iT.nx qE uG).trans ED;simp only[ahq,aq,aEN,aEL,ay,gH sm.at_ qE,af];have apy:gC [(0,1,I r)] (cM 1 [.int .i64 0])=some [I r]:=rfl;rw[jH aqN apy,aS];have WS:Kp [iT.nx] jA (St.set jA iT.nx (.cells [I r] 3 false)):=(Kp.refl _ jA).set _ (.inl uG) qE
    have g26:(St.set jA iT.nx (.cells [I r] 3 false)).m.g iT.nx=some (.cells [I r] 3 false):=ar _ _ _;have o26:Own (St.set jA iT.nx (.cells [I r] 3 false)) mB 1 3 (cJ sm.n.kids) F3:=o3.mono λb hb=>al _ _ _ _ (by have:=(fF3 b hb).1;omega);have aqU:(St.set jA iT.nx (.cells [I r] 3 false)).m.g dp.nx=_:=(al _ _ _ _ qE).trans aqV;have aqZ:(St.set jA iT.nx (.cells [I r] 3 false)).m.g bO.nx=_:=(al _ _ _ _ qE).trans ahq;have n26:(St.set jA iT.nx (.cells [I r] 3 false)).nx=jA.nx:=rfl;have amw:Own (St.set jA iT.nx (.cells [I r] 3 false)) mY 4 109 (bC (more sm.n sm.at_ sp r).cells) F2:=((o24.keep aeo λb hb=>⟨aau,uG⟩).keep kc3 λb hb=>⟨aau,uG⟩).mono λb hb=>al _ _ _ _ aau;generalize St.set jA iT.nx (.cells [I r] 3 false)=zP at*;refine(Nc (n:=sm.n.kids.length) (i:=sm.at_+1) o26 uG qE (λb hb=>by have:=(fF3 b hb).2;omega) g26 (λhh=>by have:=(fF3 _ hh).1;omega) rfl (jI _) rfl qE).mono ?_;rintro rS vi ⟨F4,o4,Zc,fF4⟩;have n27:=Zc.nx;have anA:dp.nx∉F3:=λhh=>by have:=(fF3 _ hh).1;omega
    have aqT:=(Zc.keep dp.nx qE anA).trans aqU
    have lF4:∀b∈F4,iT.nx<b/\b<vi.nx:=λb hb=>by
     obtain⟨p1,p2⟩:=fF4 b hb;refine⟨?_,p2⟩;rcases p1 with h|h
     .have:=(fF3 b h).1;omega
     .omega
    have amv:=amw.keep Zc λb hb=>⟨aau,λhh=>by have:=(fF3 b hh).1;have:=(rI b hb).2;omega⟩;obtain⟨od1,od2⟩:=o4.cE;have aof:bD [.bool false,mY,ni] 2 [rS]=[.bool false,mY,rS]:=rfl
    have ahL:(cJ sm.n.kids).take ((sm.at_+1)*1)++([I r]++(cJ sm.n.kids).drop ((sm.at_+1)*1))=cJ (more sm.n sm.at_ sp r).kids:=by
     rw[aGB,vx,vy];show _=cJ (sm.n.kids.take (sm.at_+1)++r::sm.n.kids.drop (sm.at_+1));rw[ny]
     congr 1
    rw[ahL]at o4;simp only[aqT,aW,od2,aof,ahg,aqZ,aq,aEN,aEL,ay,aHa,and_true,ED];refine⟨⟨rfl,by simp[od1],uG⟩,?_⟩;have amQ:=((aew.trans kc3 uG).trans WS vR).trans Zc λq hq=>.inr (by have:=(fF3 q hq).1;omega);have Y3:Kp [] bO (St.set vi dp.nx (.cells [.bool false,mY,rS] 105 false)):=amQ.set _ (.inr qE) qE;have g28:(St.set vi dp.nx (.cells [.bool false,mY,rS] 105 false)).m.g dp.nx=some (.cells [.bool (more sm.n sm.at_ sp r).leaf,mY,rS] 105 false):=ar _ _ _;have amu:Own (St.set vi dp.nx (.cells [.bool false,mY,rS] 105 false)) mY 4 109 (bC (more sm.n sm.at_ sp r).cells) F2:=amv.mono λb hb=>al _ _ _ _ acT;have amk:Own (St.set vi dp.nx (.cells [.bool false,mY,rS] 105 false)) rS 1 3 (cJ (more sm.n sm.at_ sp r).kids) F4:=o4.mono λb hb=>al _ _ _ _ (by have:=(lF4 b hb).1;omega);have n28:(St.set vi dp.nx (.cells [.bool false,mY,rS] 105 false)).nx=vi.nx:=rfl;generalize St.set vi dp.nx (.cells [.bool false,mY,rS] 105 false)=yg at*;refine fH g28 ?_;have afU:=xN.nx
    have Vc:IsNode yg π.W (.agg [.bool (more sm.n sm.at_ sp r).leaf,mY,rS]) (more sm.n sm.at_ sp r):=
     ⟨mY,rS,rfl,amu.sl λb hb=>⟨sV b acT,aau⟩,amk.sl λb hb=>⟨sV b (by have:=(lF4 b hb).1;omega),by have:=(lF4 b hb).2;omega⟩⟩
    have hGo:za G2 (h+1) sm.page fX (more sm.n sm.at_ sp r) LL:=⟨yC.ok,m5,m3,la,fk,yZ,yY,L',pF,q',m6,m7,m8,m9.trans TI⟩;have JY:=yC.free;rw[zX]at JY;simp only[aFp]at j0 hm vO;refine(ih fX.length qE fX rfl (t12.still Y3) hGo (.inr (by unfold more;simp)) qE qE (Wu.mono (Y3.mono uG)) Vc qE).mono ?_;rintro _ MF ⟨rfl,k29,G',t29,alA,oI⟩;refine⟨rfl,(xN.trans Y3 uG).trans k29 ael,G',t29,alA,?_⟩;have h2:=yC.aH;rw[oI,h2];rfl
def ado {rest:List cK}{f:cK}{h:Nat}{LL:List bq}(ht:Tg τ π st G)(hg:za G h f.page rest n LL)(jh:n.leaf=true\/n.cells≠[])(hsz:n.size<=640)(j0:rest.length+2<=G.cF)
 (hst:eu st π.W x (rest.reverse++[f])) (hv:IsNode st π.W v n) (vO:rest.length<=16):R 104 [.ptr τ 0,x,v] st (Dm τ π G LL st):=Yu rest.length rest rfl ht hg jh hsz j0 hst hv vO
end
end
