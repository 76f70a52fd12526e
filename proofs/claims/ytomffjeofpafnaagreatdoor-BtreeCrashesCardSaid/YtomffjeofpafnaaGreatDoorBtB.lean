import Derived.Test.YtomffjeofpafnaaGreatDoorBtA
namespace Lim
open Go
noncomputable section
set_option linter.defProp false
set_option maxRecDepth 100000
section
variable {τ:Nat} {π:PI} {st st':St} {G:GM}
def Dk {d:List UInt8}{lo hi:Nat}(h1:lo<=hi)(h2:hi<=d.length)(s:St):kR (.str d) (some (I lo)) (some (I hi)) s=.ok (.str ((d.drop lo).take (hi-lo))) s:=by
 unfold kR;dsimp only;rw[pP,aDy ⟨h1,h2⟩]
structure aaa (G G':GM)(c:dh)(v:List UInt8)(pc:List Nat):Prop where
 ok:uX G'
 val:Cw G' c v pc
 nd:pc.Nodup
 new:∀x∈pc,¬G.bS x
 kept:∀qs,(∀x∈qs,G.bS x)->Kept G G' qs
 root:G'.root=G.root
 free:G'.cP+dQ v.length=G.cP
 aE:G'.aE=G.aE
 frl:G'.fr.length<=G.fr.length
def MN (G:GM):G.alloc.fr.length<=G.fr.length:=by
 unfold GM.alloc
 split
 .exact aDt _
 .rename_i h;rw[h];simp
structure Z9 (τ:Nat)(π:PI)(st:St)(G:GM)(v:List UInt8)(x8:Nat)(j:Nat)(s:St)(G':GM)(LG:List Nat)(ql:Nat):Prop where
 tg:Tg τ π s G'
 g8:s.m.g x8=some (.cells [I ql] 3 false)
 chain:oV G' LG ql (v.drop (j*480))
 len:LG.length+j=(v.length+479)/480
 nd:LG.Nodup
 new:∀x∈LG,¬G.bS x
 kept:∀qs,(∀x∈qs,G.bS x)->Kept G G' qs
 root:G'.root=G.root
 free:G'.cP+LG.length=G.cP
 aE:G'.aE=G.aE
 kp:Kp (x8::π.W) st s
 frl:G'.fr.length<=G.fr.length
def NO (h:Tg τ π st G){key v:List UInt8}(hk:key.length<=48)(hv:v.length<=8192)(hf:dQ v.length<=G.cP):R 47 [.ptr τ 0,.str key,.str v] st λx st'=>Kp π.W st st'/\∃c G' pc,x=.tuple [.agg (aZ c),I 0]/\c.key=key/\c.ok true/\aaa G G' c v pc/\Tg τ π st' G':=by
 refine bN ?_;rw[w47];rw[bW,EW];refine⟨rfl,?_⟩;have k1:Kp [] st (St.new st (.cells [.ptr τ 0] 27 false)):=(Kp.refl [] st).new _;have g1:(St.new st (.cells [.ptr τ 0] 27 false)).m.g st.nx=some (.cells [.ptr τ 0] 27 false):=aw _ _;have n1:(St.new st (.cells [.ptr τ 0] 27 false)).nx=st.nx+1:=rfl;generalize St.new st (.cells [.ptr τ 0] 27 false)=s1 at*;have k2:Kp [] s1 (St.new s1 (.cells [.str [],.str [],.int .i64 0,.int .i64 0] 109 false)):=(Kp.refl [] s1).new _;have g2:(St.new s1 (.cells [.str [],.str [],.int .i64 0,.int .i64 0] 109 false)).m.g s1.nx=some (.cells [.str [],.str [],.int .i64 0,.int .i64 0] 109 false):=aw _ _;have n2:(St.new s1 (.cells [.str [],.str [],.int .i64 0,.int .i64 0] 109 false)).nx=s1.nx+1:=rfl;rw[cE,aT];generalize St.new s1 (.cells [.str [],.str [],.int .i64 0,.int .i64 0] 109 false)=s2 at*;have tk:=(k2.keep st.nx pX rq).trans g1;have kW:=k1.trans k2 rq;have t2:=h.still kW;rw[fp,af];refine(Dh (n:=v.length) pX).same ?_
 by_cases Cj:v.length<=64
 .have e0:dQ v.length=0:=by unfold dQ;rw[aDy Cj]
  have e1:ai .eql (some .int) true (I (dQ v.length)) (.int .i64 0) s2=.ok (.bool true) s2:=by rw[e0];rfl
  have mR:bu [.str [],.str [],.int .i64 0,.int .i64 0] [(0,1,.str key),(1,1,.str v)] s2=.ok (.agg (aZ ⟨key,v,0,0⟩)) s2:=rfl;have kq:bo [.str [],.str [],.int .i64 0,.int .i64 0] 0 (aZ ⟨key,v,0,0⟩)=aZ ⟨key,v,0,0⟩:=dZ _ _ rfl;rw[e1,af,ag,aDy rfl,mR,af,aF,g2,aS,aV,kq];refine⟨⟨rfl,rfl,rq⟩,?_⟩;rw[aR (n:=4) (aq _ _ _) rfl,af];have k3:Kp [s1.nx] s2 (St.set s2 s1.nx (.cells (aZ ⟨key,v,0,0⟩) 109 false)):=(Kp.refl _ s2).set _ (.inl rq) pX;refine⟨(kW.mono rq).set _ (.inr pX) pX,⟨key,v,0,0⟩,G,[],rfl,rfl,⟨hk,λh=>(by cases h),λ_ _=>⟨rfl,Cj⟩,λ_ h=>absurd rfl h⟩,⟨h.pg.V5,.inl ⟨rfl,rfl,rfl⟩,rq,rq,λqs _ q _=>⟨id,rfl⟩,rfl,by rw[e0];rfl,rfl,aDt _⟩,t2.vV k3 λb hb=>?_⟩;simp at hb;subst hb;exact⟨λhh=>abr,λe=>WQ⟩
 .have e0:dQ v.length=(v.length+479)/480:=by unfold dQ;rw[aDv Cj]
  have e1:ai .eql (some .int) true (I (dQ v.length)) (.int .i64 0) s2=.ok (.bool false) s2:=R6
  rw[e1,af,ag,aDv wI]
  have Pe:∀K:CV->St->Prop,(upon (dG 3 [.int .i64 0] s2) λx8 s5=>upon (aQ 1 x8 (.int .i64 0) s5) λ_ s6=>K x8 s6)=K (.ptr s2.nx 0) (St.new s2 (.cells [I ((0:Nat):Int)] 3 false)):=by
   intro K;have kq:bo [.int .i64 0] 0 [.int .i64 0]=[I ((0:Nat):Int)]:=rfl;rw[cE,aT,aF,aw,aS,iL,JJ,kq];simp
  rw[Pe];have k3:Kp [] s2 (St.new s2 (.cells [I ((0:Nat):Int)] 3 false)):=(Kp.refl [] s2).new _;have g3:(St.new s2 (.cells [I ((0:Nat):Int)] 3 false)).m.g s2.nx=some (.cells [I ((0:Nat):Int)] 3 false):=aw _ _;have n3:(St.new s2 (.cells [I ((0:Nat):Int)] 3 false)).nx=s2.nx+1:=rfl;generalize St.new s2 (.cells [I ((0:Nat):Int)] 3 false)=s3 at*;have kV:=kW.trans k3 rq;have qZ:=(k3.keep st.nx pX rq).trans tk;have Jk:=(k3.keep s1.nx pX rq).trans g2;have t3:=t2.still k3;have qD:=h.RV;have fk:∀b,st.nx<=b->b∉π.all/\b≠τ:=λb hb=>⟨λhh=>aaH,λe=>WQ⟩;have hnW:∀b,st.nx<=b->b∉π.W:=λb hb hh=>by have:=qD b hh;omega
  rw[mB,af,cK];have es1:ai .sub none true (I (dQ v.length)) (.int .i64 1) s3=.ok (I ((dQ v.length:Int)-1)) s3:=abH
  rw[es1,af];simp only[aH,aI];rw[e0]
  refine bK (λfu vs s=>vs=[.str key,.str v,.ptr s1.nx 0,.ptr s2.nx 0,.func (.func 96) [] [.ptr st.nx 0,.ptr s2.nx 0],I ((fu:Int)-1)]/\∃G' LG ql,Z9 τ π s3 G v s2.nx fu s G' LG ql) ?_ (n:=(v.length+479)/480)
   ⟨rfl,G,[],0,⟨t3,g3,⟨rfl,aEa pX⟩,rq,rq,rq,λqs _ q _=>⟨id,rfl⟩,rfl,rfl,rfl,Kp.refl _ _,aDt _⟩⟩
  rintro fu vs s k ⟨rfl,G',LG,ql,hI⟩ next;have IS:=hI.kp.nx;have gx1:=(hI.kp.keep st.nx pX (by simp only[aDs,aEM];exact⟨pX,hnW _ (aDt _)⟩)).trans qZ;have gx2:=(hI.kp.keep s1.nx pX (by simp only[aDs,aEM];exact⟨pX,hnW _ pX⟩)).trans Jk;have hlen:=hI.len;simp only[aH,aI]
  by_cases hc:0<fu
  .obtain⟨j,rfl⟩:∃j,fu=j+1:=⟨fu-1,pX⟩;have ei:(((j+1:Nat):Int)-1)=((j:Nat):Int):=by omega
   rw[ei];have asQ:j*480<v.length:=pX
   have a1:ai .geq none true (I j) (.int .i64 0) s=.ok (.bool true) s:=by rw[ay,zw,aDz pX]
   have a2:ai .mul none true (I j) (.int .i64 480) s=.ok (I ((j*480:Nat):Int)) s:=Sd
   have a3:ai .mul none true (I ((j+1:Nat):Int)) (.int .i64 480) s=.ok (I (((j+1)*480:Nat):Int)) s:=Sd
   have a4:BJ false (I v.length) (I (((j+1)*480:Nat):Int)) s=.ok (I ((min v.length ((j+1)*480):Nat):Int)) s:=by
    have e:BJ false (I v.length) (I (((j+1)*480:Nat):Int)) s=.ok (I (if (((j+1)*480:Nat):Int)<(v.length:Int)then (((j+1)*480:Nat):Int)else (v.length:Int))) s:=rfl;rw[e];congr 2;split<;>omega
   have a5:=Dk (d:=v) (lo:=j*480) (hi:=min v.length ((j+1)*480)) pX pX s
   have TS:(v.drop (j*480)).take (min v.length ((j+1)*480)-j*480)=(v.drop (j*480)).take 480:=by
    by_cases hm:(j+1)*480<=v.length
    .rw[Nat.min_eq_right hm];congr 1;omega
    .rw[aEi pX,aDA WK,aDA WK]
   rw[TS]at a5;rw[a1,af,ag,aDy rfl];simp only[a2,af,fp,gT j pX,a3,a4,a5,dM,aDV,aEp]
   have Gy:0<G'.cP:=by
    have:=hI.free;rw[e0]at hf;omega
   have Bd:ql<=qt:=by
    have hC:=hI.chain;cases LG with
    |nil=>obtain⟨rfl,_⟩:=hC;exact aFH _
    |cons p pr=>obtain⟨rfl,_,hu,_⟩:=hC;exact rz hI.tg.pg.V5 hu
   have ha:=tB hI.tg.pg.V5 Gy;refine(XH hI.tg Gy gx1 hI.g8 pX pX (fk _ (aDt _)).1 (fk _ pX).1 (fk _ pX).2 pX (d:=(v.drop (j*480)).take 480) Ws Bd).mono ?_;rintro _ s9 ⟨rfl,k9,t9,g9⟩;have e5:ai .neq (some .int) true (I 0) (.int .i64 0) s9=.ok (.bool false) s9:=rfl;have e6:ai .sub none true (I j) (.int .i64 1) s9=.ok (I ((j:Int)-1)) s9:=abH
   simp only[e5,af,ag,aDp,aDE,e6];have amL:=hI.chain.aE;have RD:G'.dV∉LG:=λhh=>ha.not (amL _ hh);have nZ:(v.drop (j*480)).drop 480=v.drop ((j+1)*480):=by rw[aFR];congr 1;omega
   refine next j _ _ pX ⟨rfl,G'.alloc.put G'.dV (.dR ql ((v.drop (j*480)).take 480)),G'.dV::LG,G'.dV,t9,g9,⟨rfl,?_,(ha.bS _).2 (.inr rfl),ql,mz _ _ _,Bd,?_⟩,by rw[aDT];omega,aDG.2 ⟨RD,hI.nd⟩,?_,?_,ha.root.trans hI.root,?_,ha.aE.trans hI.aE,hI.kp.trans k9 (adt),aEB (MN G') hI.frl⟩
   .intro e;have:=congrArg List.length e;rw[aDO]at this;simp at this;omega
   .rw[nZ];exact hI.chain.kept ((uK ha RD).trans (lM RD))
   .intro x hx;rcases aDs.1 hx with rfl|hx
    .intro hu;have:=((hI.kept [G'.dV] (by simpa using hu)) G'.dV rq).1 hu;exact ha.not this
    .exact hI.new x hx
   .intro qs Yu;have h1:=hI.kept qs Yu;have hq:G'.dV∉qs:=λhh=>ha.not ((h1 _ hh).1 (Yu _ hh));exact(h1.trans (uK ha hq)).trans (lM hq)
   .have h1:=ha.free;have h2:=hI.free;rw[aDT];show G'.alloc.cP+_=_;omega
  .have hf0:fu=0:=by omega
   subst hf0;have a1:ai .geq none true (I (((0:Nat):Int)-1)) (.int .i64 0) s=.ok (.bool false) s:=rfl;have mR:bu [.str [],.str [],.int .i64 0,.int .i64 0] [(0,1,.str key),(2,1,I ql),(3,1,I v.length)] s=.ok (.agg (aZ ⟨key,[],ql,v.length⟩)) s:=rfl;have kq:bo [.str [],.str [],.int .i64 0,.int .i64 0] 0 (aZ ⟨key,[],ql,v.length⟩)=aZ ⟨key,[],ql,v.length⟩:=dZ _ _ rfl;rw[a1,af,ag,aDv wI,aC,hI.g8,ar,aDo,az,fp,af,mR,af,aF,gx2,aS,aV,kq];refine⟨⟨rfl,rfl,rq⟩,?_⟩;rw[aR (n:=4) (aq _ _ _) rfl,af];have k9:Kp [s1.nx] s (St.set s s1.nx (.cells (aZ ⟨key,[],ql,v.length⟩) 109 false)):=(Kp.refl _ s).set _ (.inl rq) pX;have hC:=hI.chain;rw[Nat.zero_mul,aDX]at hC
   have Yz:ql≠0/\ql<=qt:=by
    cases LG with
    |nil=>obtain⟨_,h2⟩:=hC;rw[h2]at Cj;simp at Cj
    |cons p pr=>obtain⟨rfl,_,hu,_⟩:=hC;exact⟨by have:=hu.1;omega,rz hI.tg.pg.V5 hu⟩
   refine⟨((kV.mono rq).trans hI.kp λq hq=>?_).trans k9 (by intro q hq;simp at hq;right;omega),⟨key,[],ql,v.length⟩,G',LG,rfl,rfl,⟨hk,λh=>(by cases h),λ_ h=>absurd h Yz.1,λ_ _=>⟨rfl,Yz.2,by show 1<=v.length;omega,by show v.length<=2147483647;omega⟩⟩,⟨hI.tg.pg.V5,.inr ⟨Yz.1,rfl,pX,hv,hC⟩,hI.nd,hI.new,hI.kept,hI.root,by rw[e0,<-hI.free];omega,hI.aE,hI.frl⟩,hI.tg.vV k9 λb hb=>?_⟩
   .rcases aDs.1 hq with rfl|hq
    .right;omega
    .exact .inl hq
   .simp at hb;subst hb;exact fk _ pX
end
section
variable {X:List Nat}{x:CV}{l:List cV}{L:List bt}
section
variable {τ:Nat} {π:PI} {st st':St} {G:GM}
def eZ.len (h:eZ st X x l)(s:St):bj .slice x s=.ok (I l.length) s:=by
 obtain⟨rows,a,b⟩:=h;rw[a.len rows.length (fB b.w) pX s,b.len]
def eZ.row (h:eZ st X x l){i:Nat}(hi:i<l.length):∃vc vk,Sl st X vc 4 (bG l[i].n.cells)/\Sl st X vk 1 (cF l[i].n.kids)/\∀Q:CV->Prop,Q (.agg [I l[i].page,I l[i].at_,.bool l[i].n.leaf,vc,vk])->Lim.iH 5 5 x (I i) st Q:=by
 obtain⟨rows,a,b⟩:=h;obtain⟨ff,vc,vk,e,c,d⟩:=b.at hi;refine⟨vc,vk,c,d,λQ hQ=>?_⟩;refine a.iH pX b.w ff Q ?_;rw[e];exact hQ
def uW.size {key:cn}{f:cV}{rest:List cV}(h:uW G key f rest L):f.n.cells.length<=512/\f.n.ok/\f.n.leaf=true/\f.at_=f.n.find key/\f.at_<=f.n.cells.length:=by
 obtain⟨lo,hi,Ll,Lr,Lm,ps,q,h1,h2,h3,h4,h5,h6,h7,h8⟩:=h;have:=eT f.n.leaf f.n.cells;have hs:=h2.size;rw[cc]at hs;exact⟨pX,h2.ok,h3.leaf,h8,by rw[h8];exact aFC⟩
def oE {s:St}{p a:Nat}{leaf:Bool}{vc vk:CV}{K:CV->St->Prop}(h1:ck vc=true)(h2:ck vk=true)(hK:K (.ptr s.nx 0) (St.new s (.cells [I p,I a,.bool leaf,vc,vk] 107 false))):
 upon (dG 107 [.int .i64 0,.int .i64 0,.bool false,.ae,.ae] s) λx s2=>upon (aQ 5 x (.agg [I p,I a,.bool leaf,vc,vk]) s2) λ_ s3=>K x s3:=ud rfl rfl (by simp[h1,h2]) hK
def ZA (h:Tg τ π st G)(ht:gK G L)(key:cn):R 13 [.ptr τ 0,.str key] st λx st'=>Kp [] st st'/\x=if 48<key.length then .tuple [.str [],.bool false,I 1]else .tuple [.str ((lA L key).getD []),.bool (lA L key).isSome,I 0]:=by
 refine bN ?_;rw[w13];have e0:ai .gtr none true (I key.length) (.int .i64 48) st=.ok (.bool (decide (48<key.length))) st:=AS
 rw[c8,af,ag,aDv wI,fp,af,e0,af,ag]
 by_cases yC:48<key.length
 .rw[aDz yC,aDy rfl,aDy yC];exact⟨Kp.refl _ _,rfl⟩
 .rw[aDr yC,aDv wI,aDv yC];refine(Dg h ht key).mono ?_;rintro _ s1 ⟨k1,x,rfl,hx⟩;have t1:=h.still k1;have e1:ai .neq (some .int) true (I 0) (.int .i64 0) s1=.ok (.bool false) s1:=rfl;simp only[aD,aG,af,e1,aL,aDp,aDE,aDI,bp];rcases hx with⟨tf,rfl⟩|⟨f,rest,hp,zR,hst⟩
  .have hL:L=[]:=by
    rcases ht.tree with h|⟨hh,ps,_,hs⟩
    .exact h.2
    .obtain⟨n,q,hn,_⟩:=hs;have:=hn.bS.1;omega
   subst hL;have e2:ai .eql (some .int) true (.int .i64 0) (.int .i64 0) s1=.ok (.bool true) s1:=rfl;simp only[vF,af,e2,aJ,aDp,aDE,ag,aDQ];exact⟨k1,rfl⟩
  .obtain⟨qC,zT,fY,mM,Je⟩:=hp.size;have Pe:=hst [] rq;have xh:(rest.reverse++[f]).length=rest.length+1:=by simp
   have hlen:=Pe.len s1;rw[xh]at hlen;have e2:ai .eql (some .int) true (I ((rest.length+1:Nat):Int)) (.int .i64 0) s1=.ok (.bool false) s1:=R6
   have e3:=yR (rest.length+1) pX pX s1 none;rw[aEL]at e3;obtain⟨vc,vk,c1,c2,jB⟩:=Pe.row (i:=rest.length) rq;have hf:(rest.reverse++[f])[rest.length]'(by simp)=f:=rq
   rw[hf]at c1 c2 jB;simp only[hlen,af,e2,aJ,aDp,aDE,ag,e3];refine jB _ ?_;refine oE c1.bD.2.1 c2.bD.2.1 ?_;have k3:Kp [] s1 (St.new s1 (.cells [I f.page,I f.at_,.bool f.n.leaf,vc,vk] 107 false)):=(Kp.refl [] s1).new _;have g3:(St.new s1 (.cells [I f.page,I f.at_,.bool f.n.leaf,vc,vk] 107 false)).m.g s1.nx=some (.cells [I f.page,I f.at_,.bool f.n.leaf,vc,vk] 107 false):=aw _ _;generalize St.new s1 (.cells [I f.page,I f.at_,.bool f.n.leaf,vc,vk] 107 false)=s3 at*;have t3:=t1.still k3;have ZX:=c1.mono k3;have kV:=k1.trans k3 rq;obtain⟨lo,hi,Ll,Lr,ps,Lt,pt,Ld,pd,hA⟩:=hp.DH;have e4:ai .eql (some .int) false (I f.at_) (I f.n.cells.length) s3=.ok (.bool (decide (f.at_=f.n.cells.length))) s3:=Sb
   simp only[fl,ah,af,aC,g3,ar,aDx,Nat.reduceAdd,aDq,aDo,az,ZX.len f.n.cells.length (bM _) pX s3,e4]
   by_cases Aa:f.at_=f.n.cells.length
   .obtain⟨_,qY,_⟩:=hA.FW (λc hc=>by rw[Aa,aEl (aDt _)]at hc;cases hc);rw[aDz Aa,qY];simp only[aL,aDp,aDE,aDJ,cH,af,jV,fA,aJ,aDQ,ag];exact⟨kV,rfl⟩
   .have hlt:f.at_<f.n.cells.length:=by omega
    rw[aDr Aa];obtain⟨b,p,l,t,g,q1,q2,q3,q4,q5⟩:=ZX.cellAt (L:=f.n.cells.map aZ) pX (fM _) (i:=f.at_) Wt;have q6:=q5 0 (.str f.n.cells[f.at_].key) aaq;rw[aEb]at q6;simp only[aL,aDp,aDE,aDI,bp,af,jV,fA,ah,aC,g3,ar,aDx,aEb,Nat.reduceAdd,aDq,aDo,az,q1,q2,q6,dY,lH,aJ,ag]
    by_cases hk:f.n.cells[f.at_].key=key
    .obtain⟨w,po,wz,AK,v1,v2,v3,v4,v5,v6⟩:=hA.found (aDu hlt) hk;rw[aDz hk,aDJ,aDv wI];refine ZX.iH (L:=f.n.cells.map aZ) pX (fM _) Wt _ ?_;have e:(f.n.cells.map aZ)[f.at_]'(by simpa using hlt)=aZ f.n.cells[f.at_]:=by simp
     rw[e];have DW:=zT.cell _ (aDL hlt);rw[fY]at DW;refine(EG t3 DW v1).mono ?_;rintro _ s4 ⟨rfl,k4⟩;have e5:ai .eql (some .int) true (I 0) (.int .i64 0) s4=.ok (.bool true) s4:=rfl;simp only[aD,aG,af,e5];rw[v6];exact⟨kV.trans k4 rq,rfl⟩
    .obtain⟨_,qY,_⟩:=hA.FW (λc hc=>by rw[aDu hlt]at hc;cases hc;exact hk);rw[aDr hk,aDI,aDy rfl,qY];exact⟨kV,rfl⟩
end
end
section
variable {X:List Nat}{v:CV}{n:bg}{m:Nat}{l:List cV}{x:CV}{s:St}{vc vk:CV}
section
variable {τ:Nat} {π:PI} {st st':St} {G:GM}
def Sl.Dd {k n:Nat}{L:List CV}(hs:Sl st X v k L)(hk:0<k)(hn:L.length=n*k)(h0:0<n)(hm:m<=n)(s:St):∃v',iD k v none (I m) (I m) s=.ok v' s/\Sl st X v' k (L.take (m*k)):=by
 rcases hs with⟨rfl,rfl⟩|⟨b,off,len,cap,grow,rfl,g2,g3,g4⟩
 .have:=Nat.mul_pos h0 hk;simp at hn;omega
 .have:len=n:=aEx hk (by rw[<-g2,hn]);subst this;have TC:=aEj k hm
  have e:iD k (.slice b off len cap grow) none (I m) (I m) s=(if m=0 then .ok (.slice b off 0 0 0) s else .ok (.slice b off m m 0) s):=by
   unfold iD;dsimp only;rw[tx,aDy pX];dsimp only;rw[tw,aDy (aDt _)];simp only[dH,aO,aEu,aDW,aDZ];rw[aDy (.inr pX)];have e1:Nat.sub m 0=m:=rfl;have e2:Nat.add off (Nat.mul 0 k)=off:=rq
   rw[e1,e2]
   by_cases Gm:m=0
   .rw[aDy Gm,aDy Gm,Gm]
   .rw[aDv Gm,aDv Gm]
  rw[e]
  by_cases Gm:m=0
  .subst Gm;exact⟨_,by rw[aDy rfl],.inr ⟨b,off,0,0,0,rfl,rq,⟨aDt _,.inl rfl⟩,.inl rfl⟩⟩
  .rw[aDv Gm];refine⟨_,rfl,.inr ⟨b,off,m,m,0,rfl,Ws,⟨aDt _,.inl rfl⟩,?_⟩⟩;rcases g4 with g4|⟨g5,g6,c,t,g,g7,g8,g9⟩
   .omega
   .exact .inr ⟨g5,g6,c,t,g,g7,pX,by rw[<-g9,aEH,aEi TC]⟩
def dI.take {rs:List (List CV)}(h:dI st X rs l)(i:Nat):dI st X (rs.take i) (l.take i):=by
 induction rs generalizing l i with
 |nil=>cases l with|nil=>simp[dI]|cons s l=>exact h.elim
 |cons r rs ih=>cases l with
  |nil=>exact h.elim
  |cons s l=>cases i with
   |zero=>trivial
   |succ i=>exact⟨h.1,ih h.2 i⟩
def eZ.Dd (h:eZ st X x l)(h0:0<l.length)(hm:m<=l.length)(s:St):∃x',iD 5 x none (I m) (I m) s=.ok x' s/\eZ st X x' (l.take m):=by
 obtain⟨rows,a,b⟩:=h;have hl:=b.len;obtain⟨v',p1,p2⟩:=a.Dd pX (fB b.w) pX (m:=m) pX s;rw[nD b.w m pX]at p2;exact⟨v',p1,_,p2,b.take m⟩
def eZ.hi (h:eZ st X x l)(hm:m<=l.length)(s:St):∃x',aN 5 x none (some (I m)) s=.ok x' s/\eZ st X x' (l.take m):=by
 obtain⟨rows,a,b⟩:=h;have hl:=b.len;obtain⟨v',p1,p2⟩:=a.hi pX (fB b.w) (h:=m) pX s;rw[nD b.w m pX]at p2;exact⟨v',p1,_,p2,b.take m⟩
def sZ {leaf:Bool}{K:CV->St->Prop}(h1:ck vc=true)(h2:ck vk=true)(hK:K (.ptr s.nx 0) (St.new s (.cells [.bool leaf,vc,vk] 105 false))):
 upon (dG 105 [.bool false,.ae,.ae] s) λx s2=>upon (aQ 3 x (.agg [.bool leaf,vc,vk]) s2) λ_ s3=>K x s3:=ud rfl rfl (by simp[h1,h2]) hK
def Cx (τ:Nat)(π:PI)(G:GM)(LL:List bt)(st:St)(y:CV)(st':St):Prop:=y=I 0/\Kp π.W st st'/\∃G',Tg τ π st' G'/\gK G' LL/\G'.aE=G.aE
def gj {b:Nat}{K:CV->Prop}(hg:s.m.g b=some (.cells [.bool n.leaf,vc,vk] 105 false))(hK:K (.agg [.bool n.leaf,vc,vk])):us (aK 3 (.ptr b 0) s) K:=by
 rw[aR (n:=3) hg rfl,af];exact hK
def WZ:∀(m:Nat) (rest:List cV),rest.length=m->∀{st:St} {G:GM} {f:cV} {n:bg} {h:Nat} {x v:CV} {LL:List bt},Tg τ π st G->Bo G h f.page rest n LL->(n.leaf=true\/n.cells≠[])->n.size<=640->rest.length+2<=G.cP->
 eZ st π.W x (rest.reverse++[f])->IsNode st π.W v n->rest.length<=16->R 104 [.ptr τ 0,x,v] st (Cx τ π G LL st):=by
 intro m
 induction m using Nat.strongRecOn with
 |_ m ih=>
  intro rest hm st G f n h x v LL ht hg ku hsz iw hst hv zR;have qD:=ht.RV;have Es:=hv;obtain⟨vc,vk,rfl,PU,M8⟩:=hv
  have qC:n.cells.length<=640:=by
   have:=eT n.leaf n.cells;rw[cc]at hsz;omega
  refine bN ?_;rw[akj];rw[bW,aV];refine⟨rfl,?_⟩;have k1:Kp [] st (St.new st (.cells [.bool n.leaf,vc,vk] 105 false)):=(Kp.refl [] st).new _;have g1:(St.new st (.cells [.bool n.leaf,vc,vk] 105 false)).m.g st.nx=some (.cells [.bool n.leaf,vc,vk] 105 false):=aw _ _;have n1:(St.new st (.cells [.bool n.leaf,vc,vk] 105 false)).nx=st.nx+1:=rfl;generalize St.new st (.cells [.bool n.leaf,vc,vk] 105 false)=s1 at*;have gF:=hst.mono (k1.mono rq);have xh:(rest.reverse++[f]).length=rest.length+1:=rq
  have e3:=λs=>by
   have:=yR (rest.length+1) pX pX s none
   rwa [aEL]at this
  obtain⟨NC,NB,c1,c2,jB⟩:=gF.row (i:=rest.length) rq;have hf:(rest.reverse++[f])[rest.length]'(by simp)=f:=rq
  rw[hf]at c1 c2 jB;have hlen:=λs=>hst.len s;rw[xh]at hlen;simp only[hlen,af,e3];refine jB _ ?_;refine oE c1.bD.2.1 c2.bD.2.1 ?_;have k3:Kp [] s1 (St.new s1 (.cells [I f.page,I f.at_,.bool f.n.leaf,NC,NB] 107 false)):=(Kp.refl [] s1).new _;have g3:(St.new s1 (.cells [I f.page,I f.at_,.bool f.n.leaf,NC,NB] 107 false)).m.g s1.nx=some (.cells [I f.page,I f.at_,.bool f.n.leaf,NC,NB] 107 false):=aw _ _;have n3:(St.new s1 (.cells [I f.page,I f.at_,.bool f.n.leaf,NC,NB] 107 false)).nx=s1.nx+1:=rfl;generalize St.new s1 (.cells [I f.page,I f.at_,.bool f.n.leaf,NC,NB] 107 false)=s3 at*;have kV:=k1.trans k3 rq;have qZ:=(k3.keep st.nx pX rq).trans g1;have st3:=gF.mono (k3.mono rq);obtain⟨df,p10,Ss⟩:=st3.Dd rq (m:=rest.length) rq s3
  have B0:(rest.reverse++[f]).take rest.length=rest.reverse:=by
   rw[aEP rq]
  rw[B0]at Ss;have t3:=ht.still kV;simp only[p10,af];refine gj qZ ?_;refine(CT t3.fr ((Es.mono (kV.mono rq)).dz rq) hg.MY pX).mono ?_;rintro _ s4 ⟨rfl,k4⟩;have th:=kV.trans k4 rq;have n4:=k4.nx;have Nd:=(k4.keep st.nx pX rq).trans qZ;have ZF:=(k4.keep s1.nx pX rq).trans g3;have t4:=ht.still th;have v4:=Es.mono (th.mono rq);have abX:=Ss.mono (k4.mono rq);have e4:ai .leq none true (I n.size) (.int .i64 512) s4=.ok (.bool (decide (n.size<=512))) s4:=aao
  simp only[e4,af,ag];obtain⟨lo,hi,Ll,Lr,L,ps,q,yk,lz,je,VY⟩:=hg.ctx
  by_cases DY:n.size<=512
  .rw[aDz DY,aDy rfl];simp only[fl,ah,af,aC,ZF,ar,aDx,aDo,az];refine gj Nd ?_;refine(ny t4 hg.bS (v4.dz rq) hg.MY DY).mono ?_;rintro _ s5 ⟨rfl,k5,t5⟩;refine⟨rfl,(th.mono rq).trans k5 adt,_,t5,?_,rfl⟩;rw[<-VY];exact yk.write hg.ok hg.bS hg.MY DY ku lz je
  .rw[aDr DY,aDv wI];obtain⟨i,Gx,H⟩:=QH hg.MY pX pX
   have PJ:cr n<n.cells.length:=by
    have:=H.lt;unfold cr;cases fY:n.leaf with
    |false=>simp;omega
    |true=>
     rw[aDy rfl];have hA:=H.neA;rcases H.eqs with⟨_,e,_⟩|⟨h,_⟩
     .rw[e]at hA
      have:0<i:=by
       rcases Nat.eq_zero_or_pos i with h0|h0
       .exact absurd (by show n.cells.take i=[];rw[h0,aFj]) hA
       .exact h0
      omega
     .rw[fY]at h;cases h
   refine gj Nd ?_;refine(Rl t4.fr (v4.dz rq) hg.MY pX PJ).mono ?_;rintro _ s6 ⟨xa,xb,rfl,k6,hxa,hxb⟩;generalize aox:xt n=cu at*;obtain⟨a,sp,b⟩:=cu;simp only at H hxa hxb;have n6:=k6.nx;have DS:=th.trans k6 rq;have afr:∀q∈π.W,q<s4.nx:=λq hq=>by have:=qD q hq;have:=th.nx;omega
   have u9:∀q,st.nx<=q->q∉π.W:=λq hq hh=>abg
   obtain⟨ca,ka,rfl,ya1,ya2⟩:=hxa π.W afr;obtain⟨cb,kb,rfl,yb1,yb2⟩:=hxb π.W afr;obtain⟨za1,za2,za3⟩:=ya1.bD;obtain⟨zb1,zb2,zb3⟩:=ya2.bD;obtain⟨zc1,zc2,zc3⟩:=yb1.bD;obtain⟨zd1,zd2,zd3⟩:=yb2.bD;have yy:(St.new s6 (.cells [.bool false,.ae,.ae] 105 false)).nx=s6.nx+1:=rfl;simp only[aD,aG,af];rw[cE,aT,cE,aT,yy];have kA:Kp [] s6 (St.new (St.new s6 (.cells [.bool false,.ae,.ae] 105 false)) (.cells [.bool false,.ae,.ae] 105 false)):=((Kp.refl [] s6).new _).new _;have gA1:(St.new (St.new s6 (.cells [.bool false,.ae,.ae] 105 false)) (.cells [.bool false,.ae,.ae] 105 false)).m.g s6.nx=some (.cells [.bool false,.ae,.ae] 105 false):=(ba _ _ _ rq).trans (aw _ _);have gA2:(St.new (St.new s6 (.cells [.bool false,.ae,.ae] 105 false)) (.cells [.bool false,.ae,.ae] 105 false)).m.g (s6.nx+1)=some (.cells [.bool false,.ae,.ae] 105 false):=aw (St.new s6 (.cells [.bool false,.ae,.ae] 105 false)) _;have nA:(St.new (St.new s6 (.cells [.bool false,.ae,.ae] 105 false)) (.cells [.bool false,.ae,.ae] 105 false)).nx=s6.nx+2:=rfl;generalize St.new (St.new s6 (.cells [.bool false,.ae,.ae] 105 false)) (.cells [.bool false,.ae,.ae] 105 false)=s8 at*;have kq:∀a b c:CV,bo [.bool false,.ae,.ae] 0 [a,b,c]=[a,b,c]:=λa b c=>rfl;rw[aF,gA1,aS,aV,kq];refine⟨⟨rfl,by simp[za2,zb2],rq⟩,?_⟩;rw[aF,al _ _ _ _ pX,gA2,aS,aV,kq];refine⟨⟨rfl,by simp[zc2,zd2],rq⟩,?_⟩;have kB:Kp [] s6 (St.set (St.set s8 s6.nx (.cells [.bool a.leaf,ca,ka] 105 false)) (s6.nx+1) (.cells [.bool b.leaf,cb,kb] 105 false)):=(kA.set _ (.inr (aDt _)) pX).set _ (.inr pX) AI;have gB1:(St.set (St.set s8 s6.nx (.cells [.bool a.leaf,ca,ka] 105 false)) (s6.nx+1) (.cells [.bool b.leaf,cb,kb] 105 false)).m.g s6.nx=some (.cells [.bool a.leaf,ca,ka] 105 false):=(al _ _ _ _ pX).trans (aq _ _ _)
   have gB2:(St.set (St.set s8 s6.nx (.cells [.bool a.leaf,ca,ka] 105 false)) (s6.nx+1) (.cells [.bool b.leaf,cb,kb] 105 false)).m.g (s6.nx+1)=some (.cells [.bool b.leaf,cb,kb] 105 false):=aq _ _ _;have nB:(St.set (St.set s8 s6.nx (.cells [.bool a.leaf,ca,ka] 105 false)) (s6.nx+1) (.cells [.bool b.leaf,cb,kb] 105 false)).nx=s6.nx+2:=nA;generalize St.set (St.set s8 s6.nx (.cells [.bool a.leaf,ca,ka] 105 false)) (s6.nx+1) (.cells [.bool b.leaf,cb,kb] 105 false)=dp at*;have oY:=DS.trans kB rq;have acV:=k6.trans kB rq;have Jj:=(acV.keep s1.nx pX rq).trans ZF;have t10:=ht.still oY;have alB:IsNode dp π.W (.agg [.bool a.leaf,ca,ka]) a:=⟨ca,ka,rfl,ya1.mono (kB.mono rq),ya2.mono (kB.mono rq)⟩;have alz:IsNode dp π.W (.agg [.bool b.leaf,cb,kb]) b:=⟨cb,kb,rfl,yb1.mono (kB.mono rq),yb2.mono (kB.mono rq)⟩;simp only[fl,ah,af,aC,Jj,ar,aDx,aDo,az];refine gj gB1 ?_;refine(ny t10 hg.bS (alB.dz rq) H.Xv H.szA).mono ?_;rintro _ c9 ⟨rfl,rh,t11⟩;have MX:=rh.nx;have e5:∀s,ai .neq (some .int) true (I 0) (.int .i64 0) s=.ok (.bool false) s:=λs=>rfl;have apW:=(rh.keep (s6.nx+1) pX (u9 _ (by have:=DS.nx;omega))).trans gB2;simp only[e5,af,ag,aDp,aDE];refine gj apW ?_;have Y2:0<(G.put f.page (.node a)).cP:=by rw[zj];omega
   have Ae:=Q0 (hg.ok.put f.page (.node a)) Y2 H.okB H.szB (.inr H.neB);refine(CK t11 Y2 (alz.mono rh) H.okB H.szB).mono ?_;rintro _ bY ⟨rfl,rm,t12⟩;generalize hr:(G.put f.page (.node a)).dV=r at*;generalize hG2:(G.put f.page (.node a)).alloc.put r (.node b)=G2 at*;have MW:=rm.nx;have DT:=((oY.mono rq).trans rh adt).trans rm adt;have U9:=rh.trans rm adt;have aqf:=(U9.keep s1.nx (by have:=oY.nx;omega) (u9 _ pX)).trans Jj;have abW:=(abX.mono (acV.mono rq)).mono U9;have ael:=abW.len bY;rw[List.length_reverse]at ael;have hrm:=rz Ae.ok Ae.is.bS;have e6:ai .eql (some .int) true (I rest.length) (.int .i64 0) bY=.ok (.bool (decide (rest.length=0))) bY:=Sb
   simp only[aD,aG,af,e5,ag,aDp,aDE,ael,e6];have Bb:sp.length<=48:=by rw[H.key];exact(hg.MY.cell _ (aDL ..)).key
   cases rest with
   |nil=>
    obtain⟨_,rfl,rfl,rfl,rfl,rfl⟩:=(show f.page=G.root/\lo=[]/\hi=none/\Ll=[]/\Lr=[]/\ps=[]from yk);rw[aDy (show decide (([]:List cV).length=0)=true from rfl)];have mR:bu [.str [],.str [],.int .i64 0,.int .i64 0] [(0,1,.str sp)] bY=.ok (.agg (aZ (fN sp))) bY:=rfl;rw[mR,af,Ar (k:=4) rfl rfl rfl,aT];have rl:Kp [] bY (St.new bY (.cells (CV.agg (aZ (fN sp))).cA 109 false)):=(Kp.refl [] bY).new _;have ZJ:(St.new bY (.cells (CV.agg (aZ (fN sp))).cA 109 false)).m.g bY.nx=some (.cells (aZ (fN sp)) 109 false):=aw _ _;have n13:(St.new bY (.cells (CV.agg (aZ (fN sp))).cA 109 false)).nx=bY.nx+1:=rfl;generalize St.new bY (.cells (CV.agg (aZ (fN sp))).cA 109 false)=ey at*;have aqe:=(rl.keep s1.nx pX rq).trans aqf;have Nc:bO 3 2 (cJ 2 [.int .i64 0]) [(0,1,I f.page),(1,1,I r)] ey=.ok (.slice ey.nx 0 2 2 0) (St.new ey (.cells [I f.page,I r] 3 false)):=rfl;simp only[aqe,ar,aDo,az,Nc,aT];have zK:Kp [] ey (St.new ey (.cells [I f.page,I r] 3 false)):=(Kp.refl [] ey).new _;have aql:(St.new ey (.cells [I f.page,I r] 3 false)).m.g ey.nx=some (.cells [I f.page,I r] 3 false):=aw _ _;have n14:(St.new ey (.cells [I f.page,I r] 3 false)).nx=ey.nx+1:=rfl;generalize St.new ey (.cells [I f.page,I r] 3 false)=fj at*;have aqm:=(zK.keep bY.nx pX rq).trans ZJ;have DX:bu [.bool false,.ae,.ae] [(1,1,.slice bY.nx 0 1 1 0),(2,1,.slice ey.nx 0 2 2 0)] fj=.ok (.agg [.bool false,.slice bY.nx 0 1 1 0,.slice ey.nx 0 2 2 0]) fj:=rfl;rw[DX,af];have aet:=DT.nx;have t14:=(t12.still rl).still zK
    have Ge:IsNode fj π.W (.agg [.bool false,.slice bY.nx 0 1 1 0,.slice ey.nx 0 2 2 0]) ⟨false,[fN sp],[f.page,r]⟩:=
     ⟨_,_,rfl,.inr ⟨bY.nx,0,1,1,0,rfl,rfl,⟨aDt _,.inl rfl⟩,.inr ⟨u9 _ pX,pX,_,_,_,aqm,aaq,rfl⟩⟩,.inr ⟨ey.nx,0,2,2,0,rfl,rfl,⟨aDt _,.inl rfl⟩,.inr ⟨u9 _ pX,pX,_,_,_,aql,rq,rfl⟩⟩⟩
    have hpm:=rz hg.ok hg.bS;have zT:bg.ok ⟨false,[fN sp],[f.page,r]⟩:=⟨λc hc=>by simp at hc;subst hc;exact sR Bb,by unfold iC;simp,rfl,λk hk=>by simp at hk;rcases hk with rfl|rfl<;>assumption⟩
    have adR:bg.size ⟨false,[fN sp],[f.page,r]⟩<=512:=by
     rw[cc];have h1:=(iU (sR Bb)).2.2 rfl;have h2:=(jS f.page hpm).2;have h3:=(jS r hrm).2;have h4:(uv ([fN sp]:List dh).length).length=1:=eJ rq;simp only[h4,aDp,aDE];have h5:(cR false [fN sp]).length=(ik false (fN sp)).length:=by simp[cR]
     have h6:(eK [f.page,r]).length=(uv f.page).length+(uv r).length:=acd
     rw[h5,h6];omega
    have Mg:0<G2.cP:=by have:=Ae.free;rw[zj]at this;simp at iw;omega
    have Zv:=Q0 Ae.ok Mg zT adR (.inr rq);refine(CK t14 Mg Ge zT adR).mono ?_;rintro _ iT ⟨rfl,py,t15⟩;simp only[aD,aG,af,e5,ag,aDp,aDE];refine t15.get' ?_;refine(sX t15.pg _ (.inr Zv.is.bS)).mono ?_;rintro _ cO ⟨rfl,FY,p16⟩;refine⟨rfl,?_,_,t15.of FY p16,?_,?_⟩
    .exact((((DT.trans rl rq).trans zK rq).trans py adt).trans FY adt)
    .rw[<-VY];simp only[aDV,aEs]at je⊢;exact HW hg.ok hg.bS hg.MY H lz je Ae Zv
    .have h1:=Zv.aE;have h2:=Ae.aE;exact h1.trans h2
   |cons sm fO=>
    rw[aDr rq,aDv wI];obtain⟨m1,m2,m3,m4,m5,lr,ff,yK,yJ,L',px,q',m6,m7,m8,m9⟩:=Lf yk hg.ok hg.bS hg.MY H lz je Ae;have aBj:=yk;obtain⟨_,_,_,_,_,_,_,_,_,_,Mb,_,_,_⟩:=yk
    have adz:sm.n.cells.length<=512:=by
     have:=eT sm.n.leaf sm.n.cells;have:=Mb.size;rw[cc]at this;omega
    have Ye:=Mb.ok.jA;rw[m2,aDv wI]at Ye
    have e7:ai .sub none true (I (sm::fO).length) (.int .i64 1) bY=.ok (I fO.length) bY:=by
     have:=yR (sm::fO).length (by simp at zR⊢;omega) rq bY none
     simpa using this
    have UN:eZ bY π.W df (fO.reverse++[sm]):=by simpa using abW
    obtain⟨pW,ng,d1,d2,Gd⟩:=UN.row (i:=fO.length) rq;have TP:(fO.reverse++[sm])[fO.length]'(by simp)=sm:=rq
    rw[TP,m2]at Gd;rw[TP]at d1 d2;rw[e7,af];refine Gd _ ?_;refine oE d1.bD.2.1 d2.bD.2.1 ?_;have Rx:Kp [] bY (St.new bY (.cells [I sm.page,I sm.at_,.bool false,pW,ng] 107 false)):=(Kp.refl [] bY).new _;have Uh:(St.new bY (.cells [I sm.page,I sm.at_,.bool false,pW,ng] 107 false)).m.g bY.nx=some (.cells [I sm.page,I sm.at_,.bool false,pW,ng] 107 false):=aw _ _;have n18:(St.new bY (.cells [I sm.page,I sm.at_,.bool false,pW,ng] 107 false)).nx=bY.nx+1:=rfl;generalize St.new bY (.cells [I sm.page,I sm.at_,.bool false,pW,ng] 107 false)=dj at*
    have I9:∀K:CV->Prop,K (.agg [.bool false,pW,ng])->Nf 3 2 (.ptr bY.nx 0) dj K:=λK hK=>by
     unfold Nf;rw[ah,af,gM (n:=3) Uh rq,af];exact hK
    refine I9 _ ?_;refine sZ d1.bD.2.1 d2.bD.2.1 ?_;have IP:Kp [] dj (St.new dj (.cells [.bool false,pW,ng] 105 false)):=(Kp.refl [] dj).new _;have g20:(St.new dj (.cells [.bool false,pW,ng] 105 false)).m.g dj.nx=some (.cells [.bool false,pW,ng] 105 false):=aw _ _;have n20:(St.new dj (.cells [.bool false,pW,ng] 105 false)).nx=dj.nx+1:=rfl;generalize St.new dj (.cells [.bool false,pW,ng] 105 false)=jm at*;have agl:=(IP.keep bY.nx pX rq).trans Uh;have zL:=Rx.trans IP rq;have aeL:=zL.fresh t12.fr;rw[bA];have IM:=(Kp.refl [] jm).skip;have jd:(St.skip jm).m.g jm.nx=none:=aeL _ (aDt _);have nsk:(St.skip jm).nx=jm.nx+1:=rfl;have V3:(St.skip jm).m.g dj.nx=some (.cells [.bool false,pW,ng] 105 false):=g20;have afO:(St.skip jm).m.g bY.nx=some (.cells [I sm.page,I sm.at_,.bool false,pW,ng] 107 false):=agl;generalize St.skip jm=sk at*;have acZ:=zL.trans IM rq;simp only[ah,af,aC,V3,ar,aDx,aDq,aDo,az];refine(wo ((d1.dz (Y:=[]) rq).mono acZ) (eN _) aaJ).mono ?_;rintro qO fD ⟨F1,A8,o1,Mv,_⟩;have n21:=A8.nx;have afY:=(A8.keep bY.nx pX rq).trans afO;have Zz:=(A8.keep dj.nx pX rq).trans V3;have apx:=(A8.keep jm.nx pX rq).trans jd;have mR:bu [.str [],.str [],.int .i64 0,.int .i64 0] [(0,1,.str sp)] fD=.ok (.agg (aZ (fN sp))) fD:=rfl;simp only[afY,ar,aDq,aDo,az,mR,af];rw[jw apx (Ea (k:=4) rfl rfl rfl),aT];have M3:Kp [jm.nx] fD (St.set fD jm.nx (.cells (CV.agg (aZ (fN sp))).cA 109 false)):=(Kp.refl _ fD).set _ (.inl rq) pX;have ZH:(St.set fD jm.nx (.cells (CV.agg (aZ (fN sp))).cA 109 false)).m.g jm.nx=some (.cells (aZ (fN sp)) 109 false):=aq _ _ _;have o22:Own (St.set fD jm.nx (.cells (CV.agg (aZ (fN sp))).cA 109 false)) qO 4 109 (bG sm.n.cells) F1:=o1.mono λb hb=>al _ _ _ _ (by have:=(Mv b hb).1;omega)
    have apG:(St.set fD jm.nx (.cells (CV.agg (aZ (fN sp))).cA 109 false)).m.g dj.nx=_:=(al _ _ _ _ pX).trans Zz;have afX:(St.set fD jm.nx (.cells (CV.agg (aZ (fN sp))).cA 109 false)).m.g bY.nx=_:=(al _ _ _ _ pX).trans afY;have n22:(St.set fD jm.nx (.cells (CV.agg (aZ (fN sp))).cA 109 false)).nx=fD.nx:=rfl;generalize St.set fD jm.nx (.cells (CV.agg (aZ (fN sp))).cA 109 false)=yf at*;refine(FZ o22 (bM _) pX (λb hb=>by have:=(Mv b hb).2;omega) ZH (λhh=>abS) rfl (eN _) (gz _) m1).mono ?_;rintro mN qR ⟨F2,o2,k23,fF2⟩;have n23:=k23.nx;have Yk:dj.nx∉F1:=λhh=>abS
    have adG:bY.nx∉F1:=λhh=>abS
    have apF:=(k23.keep dj.nx pX Yk).trans apG;have apK:=(k23.keep bY.nx pX adG).trans afX
    have tb:∀b∈F2,jm.nx<b/\b<qR.nx:=λb hb=>by
     obtain⟨p1,p2⟩:=fF2 b hb;refine⟨?_,p2⟩;rcases p1 with h|h
     .have:=(Mv b h).1;omega
     .omega
    obtain⟨Xw,SV⟩:=o2.ck;have amR:bo [.bool false,pW,ng] 1 [mN]=[.bool false,mN,ng]:=rfl
    have Jo:(bG sm.n.cells).take (sm.at_*4)++(aZ (fN sp)++(bG sm.n.cells).drop (sm.at_*4))=bG (more sm.n sm.at_ sp r).cells:=by
     rw[la _ _ m1,lb _ _ m1];show _=bG (sm.n.cells.take sm.at_++fN sp::sm.n.cells.drop sm.at_);rw[gX]
     congr 1
    rw[Jo]at o2;simp only[aF,apF,aS,SV,amR,afO,afX,ar,aDq,aDo,az,aFw,and_true,jd];refine⟨⟨rfl,by simp[Xw],rq⟩,?_⟩;have Tj:Kp [dj.nx] qR (St.set qR dj.nx (.cells [.bool false,mN,ng] 105 false)):=(Kp.refl _ qR).set _ (.inl rq) pX;have RP:(St.set qR dj.nx (.cells [.bool false,mN,ng] 105 false)).m.g dj.nx=some (.cells [.bool false,mN,ng] 105 false):=aq _ _ _;have apJ:(St.set qR dj.nx (.cells [.bool false,mN,ng] 105 false)).m.g bY.nx=_:=(al _ _ _ _ pX).trans apK;have n24:(St.set qR dj.nx (.cells [.bool false,mN,ng] 105 false)).nx=qR.nx:=rfl;have o24:Own (St.set qR dj.nx (.cells [.bool false,mN,ng] 105 false)) mN 4 109 (bG (more sm.n sm.at_ sp r).cells) F2:=o2.mono λb hb=>al _ _ _ _ abT;have alI:=((acZ.trans A8 rq).trans M3 AI).trans k23 λq hq=>.inr (by have:=(Mv q hq).1;omega);have acO:Kp [] bY (St.set qR dj.nx (.cells [.bool false,mN,ng] 105 false)):=alI.set _ (.inr pX) pX;generalize St.set qR dj.nx (.cells [.bool false,mN,ng] 105 false)=iS at*;have aeK:=acO.fresh t12.fr;have acN:=(Kp.refl [] iS).skip;have DP:(St.skip iS).m.g iS.nx=none:=aeK _ (aDt _);have awF:(St.skip iS).nx=iS.nx+1:=rfl;have afN:(St.skip iS).m.g dj.nx=_:=RP;have afM:(St.skip iS).m.g bY.nx=_:=apJ;rw[bA];generalize St.skip iS=sl at*;have acY:=acO.trans acN rq;simp only[afN,ar,aDq,aDo,az];refine(Ao ((d2.dz (Y:=[]) rq).mono acY) (jx _) (by rw[pJ];omega)).mono ?_;rintro lW ln ⟨F3,kc3,o3,ZL,_⟩;have n25:=kc3.nx;have afW:=(kc3.keep bY.nx pX rq).trans afM;have apE:=(kc3.keep dj.nx pX rq).trans afN;have apw:=(kc3.keep iS.nx pX rq).trans DP;simp only[afW,ar,aDq,aDo,az,gT sm.at_ pX,af];have aoj:gf [(0,1,I r)] (cJ 1 [.int .i64 0])=some [I r]:=rfl;rw[jw apw aoj,aT];have k26:Kp [iS.nx] ln (St.set ln iS.nx (.cells [I r] 3 false)):=(Kp.refl _ ln).set _ (.inl rq) pX
    have ZG:(St.set ln iS.nx (.cells [I r] 3 false)).m.g iS.nx=some (.cells [I r] 3 false):=aq _ _ _;have o26:Own (St.set ln iS.nx (.cells [I r] 3 false)) lW 1 3 (cF sm.n.kids) F3:=o3.mono λb hb=>al _ _ _ _ (by have:=(ZL b hb).1;omega);have apD:(St.set ln iS.nx (.cells [I r] 3 false)).m.g dj.nx=_:=(al _ _ _ _ pX).trans apE;have apI:(St.set ln iS.nx (.cells [I r] 3 false)).m.g bY.nx=_:=(al _ _ _ _ pX).trans afW;have n26:(St.set ln iS.nx (.cells [I r] 3 false)).nx=ln.nx:=rfl;have alr:Own (St.set ln iS.nx (.cells [I r] 3 false)) mN 4 109 (bG (more sm.n sm.at_ sp r).cells) F2:=((o24.keep acN λb hb=>⟨WV,rq⟩).keep kc3 λb hb=>⟨WV,rq⟩).mono λb hb=>al _ _ _ _ WV;generalize St.set ln iS.nx (.cells [I r] 3 false)=za at*;refine(L5 (n:=sm.n.kids.length) (i:=sm.at_+1) o26 rq pX (λb hb=>by have:=(ZL b hb).2;omega) ZG (λhh=>by have:=(ZL _ hh).1;omega) rfl (jx _) rfl pX).mono ?_;rintro rp ua ⟨F4,o4,XT,fF4⟩;have n27:=XT.nx;have amp:dj.nx∉F3:=λhh=>by have:=(ZL _ hh).1;omega
    have apC:=(XT.keep dj.nx pX amp).trans apD
    have lF4:∀b∈F4,iS.nx<b/\b<ua.nx:=λb hb=>by
     obtain⟨p1,p2⟩:=fF4 b hb;refine⟨?_,p2⟩;rcases p1 with h|h
     .have:=(ZL b h).1;omega
     .omega
    have alq:=alr.keep XT λb hb=>⟨WV,λhh=>by have:=(ZL b hh).1;have:=(tb b hb).2;omega⟩;obtain⟨od1,od2⟩:=o4.ck;have amS:bo [.bool false,mN,ng] 2 [rp]=[.bool false,mN,rp]:=rfl
    have agq:(cF sm.n.kids).take ((sm.at_+1)*1)++([I r]++(cF sm.n.kids).drop ((sm.at_+1)*1))=cF (more sm.n sm.at_ sp r).kids:=by
     rw[aEQ,uI,uJ];show _=cF (sm.n.kids.take (sm.at_+1)++r::sm.n.kids.drop (sm.at_+1));rw[ns]
     congr 1
    rw[agq]at o4;simp only[apC,aS,od2,amS,afM,apI,ar,aDq,aDo,az,aFw,and_true,DP];refine⟨⟨rfl,by simp[od1],rq⟩,?_⟩;have alH:=((acY.trans kc3 rq).trans k26 AI).trans XT λq hq=>.inr (by have:=(ZL q hq).1;omega);have XJ:Kp [] bY (St.set ua dj.nx (.cells [.bool false,mN,rp] 105 false)):=alH.set _ (.inr pX) pX;have g28:(St.set ua dj.nx (.cells [.bool false,mN,rp] 105 false)).m.g dj.nx=some (.cells [.bool (more sm.n sm.at_ sp r).leaf,mN,rp] 105 false):=aq _ _ _;have alp:Own (St.set ua dj.nx (.cells [.bool false,mN,rp] 105 false)) mN 4 109 (bG (more sm.n sm.at_ sp r).cells) F2:=alq.mono λb hb=>al _ _ _ _ abT;have alc:Own (St.set ua dj.nx (.cells [.bool false,mN,rp] 105 false)) rp 1 3 (cF (more sm.n sm.at_ sp r).kids) F4:=o4.mono λb hb=>al _ _ _ _ (by have:=(lF4 b hb).1;omega);have n28:(St.set ua dj.nx (.cells [.bool false,mN,rp] 105 false)).nx=ua.nx:=rfl;generalize St.set ua dj.nx (.cells [.bool false,mN,rp] 105 false)=tL at*;refine gj g28 ?_;have aet:=DT.nx
    have Tw:IsNode tL π.W (.agg [.bool (more sm.n sm.at_ sp r).leaf,mN,rp]) (more sm.n sm.at_ sp r):=
     ⟨mN,rp,rfl,alp.sl λb hb=>⟨u9 b abT,WV⟩,alc.sl λb hb=>⟨u9 b (by have:=(lF4 b hb).1;omega),by have:=(lF4 b hb).2;omega⟩⟩
    have hGo:Bo G2 (h+1) sm.page fO (more sm.n sm.at_ sp r) LL:=⟨Ae.ok,m5,m3,lr,ff,yK,yJ,L',px,q',m6,m7,m8,m9.trans VY⟩;have Mg:=Ae.free;rw[zj]at Mg;simp only[aDT]at iw hm zR;refine(ih fO.length pX fO rfl (t12.still XJ) hGo (.inr (by unfold more;simp)) pX pX (UN.mono (XJ.mono rq)) Tw pX).mono ?_;rintro _ Hy ⟨rfl,k29,G',t29,akx,qz⟩;refine⟨rfl,(DT.trans XJ rq).trans k29 adt,G',t29,akx,?_⟩;have h2:=Ae.aE;rw[qz,h2];rfl
def abK {rest:List cV}{f:cV}{h:Nat}{LL:List bt}(ht:Tg τ π st G)(hg:Bo G h f.page rest n LL)(ku:n.leaf=true\/n.cells≠[])(hsz:n.size<=640)(iw:rest.length+2<=G.cP)
 (hst:eZ st π.W x (rest.reverse++[f])) (hv:IsNode st π.W v n) (zR:rest.length<=16):R 104 [.ptr τ 0,x,v] st (Cx τ π G LL st):=WZ rest.length rest rfl ht hg ku hsz iw hst hv zR
end
end
