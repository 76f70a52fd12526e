import Derived.Test.YtomffjeofpafnaaGreatDoorPagF
import Derived.Test.YtomffjeofpafnaaGreatDoorBtE
namespace Lim
open Go
noncomputable section
set_option linter.defProp false
set_option maxRecDepth 100000
section
variable {l:List eO}{s:St}{M:bZ}{D:bf}{r0:Nat}{sB:St}{pQ:List eO}{bd r:Nat}{F:List Nat}{base last:Nat}{P:Nat->Piece}{Ls:List (List eO)}
def Uw {n:Nat}{s:jU}(h:n∉l.map (·.1)):ig l n s=l++[(n,s)]:=by
 induction l with
 |nil=>rfl
 |cons p r ih=>
  simp only[aFv,aEP,aGk]at h;simp only[ig,aET h.1,aFS];rw[ih h.2]
def Gi (h:(l.map (·.1)).Nodup){e:eO}(he:e∈l):dt l e.1=some e.2:=by
 induction l with
 |nil=>cases he
 |cons p r ih=>
  rw[aFv,aFd]at h;simp only[dt];rcases aEP.1 he with rfl|he
  .rw[aEW rfl]
  .rw[aET (λhh=>h.1 (by rw[<-hh];exact aFX he))];exact ih h.2 he
def uc.YE {G:GM}(h:uc M D G)(idle:List Nat)(hi:∀n,n∈idle↔n∈G.fr)(hn:idle.Nodup):uc {M with idle:=idle} D G:=
 ⟨h.aH,h.used,h.root,h.head,h.free,hi,hn,h.ok,h.fits,h.len,h.cont,h.chain.congr λ_ _=>rfl,h.count,h.rq,h.sJ⟩
structure Mi (π:PI)(r0:Nat)(M:bZ)(G Gk:GM)(T:Nat)(sB s:St)(pQ:List eO)(bd r:Nat)(F:List Nat)(D:bf)(base last:Nat)(P:Nat->Piece)(Ls:List (List eO)):Prop where
 rG:cP s π.p π.a (.ptr r 0) {M with dirty:=pQ} bd π.bn π.bi π.bc
 EU:dz s π.a F D
 ok:kT D Gk base last P Ls π.kept
 len:D.aA.length=π.D.aA.length
 dir:∀n,dt pQ n=dt (eo [] Ls) n
 xQ:∀e∈pQ,e.1<M.aH/\e.2.length=512
 ring:fQ s r π.a ⟨1,D.aA.length/4,base,last,last⟩
 rF:r∉F
 rP:r∉[π.p,bd,π.bn,π.bi,π.bc]
 L5:∀b∈F,b∉[π.p,bd,π.bn,π.bi,π.bc]
 T:last<=T
 bdN:bd=π.bd\/sB.nx<=bd
 rN:r=r0\/sB.nx<=r
 FN:∀b∈F,b∈π.Fd\/sB.nx<=b
 kp:Kp (r0::π.all) sB s
 fresh:eH s
 rep:uc {M with dirty:=pQ} D G
structure Bn (π:PI)(r0:Nat)(M:bZ)(G Gk:GM)(T:Nat)(l:List eO)(sB s:St)(pQ:List eO)(bd r:Nat)(F:List Nat)(D D':bf)(base last:Nat)(P:Nat->Piece)(Ls:List (List eO)):Prop where
 rG:cP s π.p π.a (.ptr r 0) {M with dirty:=pQ} bd π.bn π.bi π.bc
 EU:dz s π.a F D'
 ok:kT D Gk base last P Ls π.kept
 wrote:SR D D' (D.aA.length/4) (wg P (D.aA.length/4) (gf l) last (bt (gf l).length)) (bt (gf l).length)
 len:D.aA.length=π.D.aA.length
 dir:∀n,dt pQ n=dt (eo [] Ls) n
 xQ:∀e∈pQ,e.1<M.aH/\e.2.length=512
 ring:fQ s r π.a ⟨1,D.aA.length/4,base,last+bt (gf l).length,last+bt (gf l).length⟩
 rF:r∉F
 rP:r∉[π.p,bd,π.bn,π.bi,π.bc]
 L5:∀b∈F,b∉[π.p,bd,π.bn,π.bi,π.bc]
 T:last<=T
 room:bt (gf l).length+(last-base)<=D.aA.length/4
 bdN:bd=π.bd\/sB.nx<=bd
 rN:r=r0\/sB.nx<=r
 FN:∀b∈F,b∈π.Fd\/sB.nx<=b
 kp:Kp (r0::π.all) sB s
 fresh:eH s
 rep:uc {M with dirty:=pQ} D G
def PI.xX {π:PI}{b:Nat}(h:b∈π.Fd):b∈π.all:=by unfold PI.all;simp[h]
def we {π:PI}{G Gk:GM}{T:Nat}(h:Mi π r0 M G Gk T sB s pQ bd r F D base last P Ls){rec:CV}(anL:Sl s F rec 1 (aj (gf l)))(hl:(gf l).length<=1000000)(hT:T<=900000000)(uP:bt (gf l).length+(last-base)<=D.aA.length/4):
 R 131 [.ptr r 0,rec] s λx s'=>x=I 0/\∃F' D',Bn π r0 M G Gk T l sB s' pQ bd r F' D D' base last P Ls:=by
 have NA:=h.ok.least;have h65:=h.ok.jL;have uy:=h.ok.laid.le.1;have hlT:=h.T;have hp:bt (gf l).length<=1000000:=qE
 have Tu:(⟨1,D.aA.length/4,base,last,last⟩:RingM).room=(D.aA.length/4:Nat)-((last:Int)-base):=by unfold RingM.room;rw[aET uG]
 refine(N0 h.fresh h.ring h.EU h.rF h.ok.calm.dead anL hl acu abY acA (by show last<=_;omega) (by show _<=D.aA.length/4;omega) uG (by rw[Tu];omega) (by rw[h.ok.waits];simp)).mono ?_;rintro x s' ⟨res,JO,rfl,k1,⟨F',Fh,rT⟩,lR⟩;obtain⟨w1,w2⟩:=Ms (D:=D) (count:=D.aA.length/4) (base:=base) (last:=last) (top:=last) (P:=P) (rec:=gf l) h.ok.calm (by unfold bf.AA;rw[h.ok.waits];simp) qE qE h.ok.qL qE hp _ (aEQ _);rw[JO]at w1 w2;rw[aEW w1]at lR;have hlt:=h.rG.lt;have QU:=h.ring.1;have hn:=h.kp.nx;have Ny:=h.EU.lt;refine⟨by rw[aEW w1],F',res.2,?_,Fh,h.ok,w2,h.len,h.dir,h.xQ,lR,λhh=>?_,h.rP,λb hb hh=>?_,h.T,uP,h.bdN,h.rN,λb hb=>?_,?_,k1.fresh h.fresh,h.rep⟩
 .exact h.rG.keep k1 λb hb hh=>by
   rcases aEP.1 hh with hh|hh
   .exact h.rP (hh▸hb)
   .exact h.L5 b hh hb
 .rcases rT r hh with h1|h1
  .exact h.rF h1
  .omega
 .rcases rT b hb with h1|h1
  .exact h.L5 b h1 hh
  .have:=hlt b hh;omega
 .rcases rT b hb with h1|h1
  .exact h.FN b h1
  .right;omega
 .refine h.kp.trans k1 λq hq=>?_;rcases aEP.1 hq with hq|hq
  .exact h.rN.imp (λe=>by simp[hq,e]) (λe=>qE)
  .exact(h.FN q hq).imp (λe=>by simp[PI.xX e]) id
def DU {π:PI}{G Gk:GM}{T:Nat}(h:Mi π r0 M G Gk T sB s pQ bd r F D base last P Ls)(hT:T<=900000000)(hf:M.first=1+D.aA.length/4)(oI:M.first+M.aH=D.aA.length):
 R 73 [.ptr π.p 0,I last] s λx s'=>x=I 0/\∃oP r' F' D',Mi π r0 M G Gk T sB s' [] oP r' F' D' last last P []:=by
 have NA:=h.ok.least;have h65:=h.ok.jL;have uy:=h.ok.laid.le.1;have hlT:=h.T;have hlt:=h.rG.lt;have QU:=h.ring.1;have hn:=h.kp.nx;have Ny:=h.EU.lt;have TC:(pQ.map (·.1)).Nodup:=iP (by rw[<-kW];exact h.rG.dirty.nd)
 have Iv:pQ.length<=65536:=by
  have:=lC 65536 (pQ.map (·.1)) TC λx hx=>by
   obtain⟨e,he,rfl⟩:=aFq.1 hx;have:=(h.xQ e he).1;omega
  rwa [aFK]at this
 refine(Aa (M:={M with dirty:=pQ}) h.rG h.EU h.ok.calm (by unfold bf.AA;rw[h.ok.waits];simp) (by rw[h.ok.waits];simp) h.fresh h.L5 (by show pQ.length<=_;omega) h.xQ oI hf qE qE h.ok.qL).mono ?_;rintro _ s' ⟨rfl,k1,r',oP,F',D',hP',Fh,nL,Zq,Is,QV,zp,aAF,ij,rT,ux⟩;have XK:∀j,D'.cur j=if j=0 then dD last else if j<1+D.aA.length/4 then D.cur j else (dt pQ (j-(1+D.aA.length/4))).getD (D.cur j):=λj=>by rw[ux];show(if j=0 then _ else if j<M.first then _ else (dt pQ (j-M.first)).getD _)=_;rw[hf]
 have ZQ:=h.ok.settled h.dir nL Zq Is XK;have EC:=(ZQ.opened).2;rw[Is]at EC;rw[EC]at QV;refine⟨rfl,oP,r',F',D',hP',Fh,ZQ,Is.trans h.len,λn=>rfl,uG,by rw[Is];exact QV,λhh=>(rT r' hh).2.1 rfl,?_,λb hb hh=>?_,h.T,.inr qE,.inr qE,λb hb=>?_,?_,k1.fresh h.fresh,?_⟩
 .have h1:=hlt π.p uG;have h2:=hlt π.bn uG;have h3:=hlt π.bi uG;have h4:=hlt π.bc uG;simp only[aEP,aFy,aGt,aGk];exact⟨qE,ij,qE,qE,qE⟩
 .have h1:=rT b hb;simp only[aEP,aFy,aGt]at hh
  have jB:∀x∈[π.p,bd,π.bn,π.bi,π.bc],b=x->False:=λx hx e=>by
   rcases h1.1 with h2|h2
   .exact h.L5 b h2 (e▸hx)
   .have:=hlt x hx;omega
  rcases hh with hh|hh|hh|hh|hh
  .exact jB π.p uG hh
  .exact h1.2.2 hh
  .exact jB π.bn uG hh
  .exact jB π.bi uG hh
  .exact jB π.bc uG hh
 .rcases(rT b hb).1 with h2|h2
  .exact h.FN b h2
  .right;omega
 .refine h.kp.trans k1 λq hq=>?_;rcases aEP.1 hq with hq|hq
  .left;rw[hq];unfold PI.all;simp
  .exact(h.FN q hq).imp (λe=>by simp[PI.xX e]) id
 .refine h.rep.congr (λn hn=>?_) rfl rfl rfl rfl rfl rfl Is;unfold bZ.get;show(match dt M.now n with|some s=>s|none=>match dt [] n with|some s=>s|none=>D'.cur (M.first+n))=match dt M.now n with|some s=>s|none=>match dt pQ n with|some s=>s|none=>D.cur (M.first+n)
  rw[XK,aET qE,aET qE,show M.first+n-(1+D.aA.length/4)=n from qE];cases dt M.now n with
  |some s=>rfl
  |none=>cases dt pQ n<;>rfl
def P5:∀(n:Nat) (l:List Nat),l.Nodup->(∀x∈l,x<n)->l.length<=n:=by
 intro n
 induction n with
 |zero=>
  intro l _ h;cases l with
  |nil=>simp
  |cons a r=>exact absurd (h a uG) qE
 |succ n ih=>
  intro l hn h
  by_cases hm:n∈l
  .have:=ih (l.erase n) (hn.erase n) λx hx=>by
    have h1:=(hn.mem_erase_iff).1 hx;have:=h x h1.2;omega
   rw[List.length_erase_of_mem hm]at this;omega
  .have:=ih l hn λx hx=>by
    have:=h x hx;have:x≠n:=λe=>hm (e▸hx);omega
   omega
section
variable {st st':St} {π:PI} {G Gk:GM} {T:Nat}
def Of (π:PI)(G:GM)(T:Nat)(st:St)(v:CV)(st':St):Prop:=
 (v=I 3/\Kp [] st st'/\π.D.aA.length/8<G.used)\/(v=I 0/\∃π' r,π'.p=π.p/\π'.a=π.a/\Pg π' st' G/\iX π' st' G T/\π.lg=.ptr r 0/\(∃r',π'.lg=.ptr r' 0/\(r'=r\/st.nx<=r'))/\Kp (r::π.all) st st'/\(∀b∈π'.all,b∈π.all\/st.nx<=b)/\π'.D.aA.length=π.D.aA.length)
set_option maxHeartbeats 2000000 in
def Ad (h:Pg π st G)(hk:iX π st Gk T)(j0:eH st)(hT:T<=900000000)(Ey:π.D.aA.length<=8000)(AG:G.root=0\/G.bW G.root)(hGp:G.aH=Gk.aH):R 83 [.ptr π.p 0] st (Of π G (T+10000) st):=by
 obtain⟨M,hP,gL,hd,rY,hF,hM6,hM7,hM8⟩:=h;obtain⟨⟨base,last,P,Ls,r,mU,hlT,BV,lR,Ov,BX⟩,hkf,hke,rO⟩:=hk;rw[BV]at hP;have hMd:∀n,dt M.dirty n=dt (eo [] Ls) n:=by rw[hM6];exact BX
 have NA:=mU.least;have CS:=hP.main;have oO:M.now.length=M.count.length:=by rw[<-gL.count,aFK]
 refine bP ?_;rw[w83];rw[cD,af,ag,aET u7,bG,bF,af,ah,af,aB,CS,aq];simp only[aER,aEN,aEL,ay]
 have hcm:bo .map (.map π.bc) st=.ok (I M.count.length) st:=by
  have:=IsMap.len (.inl hP.count)
  rwa [show(uk M.count).length=M.count.length by unfold uk;simp]at this
 rw[hcm,af,af,ah,af,aB,CS,aq];simp only[aER,aEL,ay];refine(vu hd).same ?_
 have e8:ai .quo none true (I π.D.aA.length) (.int .i64 8) st=.ok (I ((π.D.aA.length/8:Nat):Int)) st:=by
  have e0:ai .quo none true (I π.D.aA.length) (.int .i64 8) st=.ok (I (IntKind.i64.wrap (Int.tdiv π.D.aA.length 8))) st:=rfl;have e1:Int.tdiv (π.D.aA.length:Int) 8=((π.D.aA.length/8:Nat):Int):=rfl;rw[e0,e1,bz qE]
 have egt:ai .gtr none false (I M.count.length) (I ((π.D.aA.length/8:Nat):Int)) st=.ok (.bool (decide (π.D.aA.length/8<M.count.length))) st:=zz
 rw[e8,af,egt,af];refine⟨⟨aer,aer,aer,aer⟩,aer,?_⟩;rw[ag]
 by_cases jh:π.D.aA.length/8<M.count.length
 .rw[aEV jh,aEW rfl];exact .inl ⟨rfl,Kp.refl _ _,by have:=P5 G.used M.count gL.rq λn hn=>(gL.sJ n hn).2;omega⟩
 rw[aEO jh,aET u7]
 have RL:M.m.root=0\/M.bW M.m.root:=by
  rw[gL.root];exact AG.imp id λhu=>(gL.vV _).2 hu
 have Xr:=gL.ok.jL;have ng:=gL.ok.size
 have ZF:M.m.root<2147483648:=by
  rcases RL with h0|h0
  .omega
  .have:=h0.2.1;rw[gL.used]at this;omega
 have ene:ai .neq (some .int) true (I M.m.root) (.int .i64 0) st=.ok (.bool (decide (M.m.root≠0))) st:=by rw[az,fh];congr 2;by_cases h:M.m.root=0<;>simp[h]
 have ZG:∀K:CV->St->Prop,K (.bool false) st->sY 10 0 (.ptr π.p 0) st (λdw=>us (ai .neq (some .int) true dw (.int .i64 0) st) λdj=>us (aZ (ak true dj) st (.ok (.ptr π.p 0) st)) λew=>us (aZ (ak true dj) st (.ok (.ptr π.p 0) st)) λeP=>us (aZ (ak true dj) st (dP eP st)) λeI=>us (aZ (ak true dj) st (an 10 eI st)) λeV=>
  gQ (ak true dj) 0 eV st λeg=>fD (ak true dj) st (λk=>R 101 [ew,eg] st k) λef s2=>us (aZ (ak true dj) s2 (kY .not ef s2)) λeF=>us (aX dj eF (.bool false) s2) λdQ=>K dQ s2):=by
  intro K hK;simp only[sY,bF,ah,af,aB,CS,aq,aER,Nat.reduceAdd,aEN,aEL,ay,ene]
  by_cases h0:M.m.root=0
  .simp only[h0,ne_eq,not_true_eq_false,aGv,aG,aFm,bS,af,gQ,pz,aF,aEM,aFa];exact hK
  .have hu:=RL.resolve_left h0;simp only[h0,ne_eq,not_false_eq_true,aFZ,aG,aFm,bh,af,gQ,bF,ah,aB,CS,aq,aER,Nat.reduceAdd,aEN,aEL,ay,eR];refine(vU hP _).same ?_;simp only[hu,aFZ,cU,aFh,af,aF,aFm];exact hK
 refine ZG (λdQ s2=>aD dQ _ _) ?_;rw[ag,aET u7,bG,bF,af,ah,af,aB,CS,aq];simp only[aER,aEN,aEL,ay];rw[af,ah,af,gF (n:=4) CS uG,af];have aAi:=lC G.used G.fr gL.ok.nd λx hx=>(gL.ok.fr x hx).2
 have hhd:G.fr.headD 0<=65536:=by
  cases hf:G.fr with
  |nil=>simp
  |cons n r=>have:=(gL.ok.fr n (by rw[hf];simp)).2;simp;omega
 have ZX:∀n∈lQ M.m,n<9223372036854775808:=by
  intro n hn;have q1:=gL.used;have q2:=gL.head;have q3:=gL.free;simp only[lQ,aEP,aFy,aGt]at hn;rcases hn with rfl|rfl|rfl|rfl<;>omega
 refine(El (m:=M.m) ZX).mono ?_;rintro _ s3 ⟨rfl,k3⟩;have RK:=hP.keep k3 uG;have hm3:=RK.main;obtain⟨blk,u1,u2,u3⟩:=IsMap.update (.inl RK.now) 0 (.agg (aj (bR M.m)));have u4:=u3 RK.now
 have u5:dy (St.set s3 π.bn blk) π.bn (gP (ig M.now 0 (bR M.m))):=by
  have:=wb M.now 0 (bR M.m);rw[<-this];exact u4
 rw[show dO .int (.map π.bn) (.int .i64 0) (.agg (aj (bR M.m))) s3=.ok .undef (St.set s3 π.bn blk)from u1,aS,aB,hm3,aq];refine⟨⟨⟨rfl,aer⟩,aer,aer⟩,aer,?_⟩;have nd:=hP.nd;simp only[aFd,aEP,aFy,aGt,aGk]at nd;obtain⟨⟨m1,m2,m3,m4⟩,⟨m5,m6,m7⟩,⟨m8,m9⟩,m10,_⟩:=nd;have agy:=RK.lt π.bn uG
 have TG:cP (St.set s3 π.bn blk) π.p π.a (.ptr r 0) {M with now:=ig M.now 0 (bR M.m)} π.bd π.bn π.bi π.bc:=
  ⟨(al _ _ _ _ m2).trans hm3,RK.dirty.mono (al _ _ _ _ m5),u5,RK.idle.mono (al _ _ _ _ (aFL m8)),RK.count.mono (al _ _ _ _ (aFL m9)),hP.nd,RK.lt,hP.lgs⟩
 have k4:Kp [π.bn] st (St.set s3 π.bn blk):=(k3.mono uG).set _ (.inl uG) agy;generalize St.set s3 π.bn blk=s4 at*;have hm4:=TG.main;have aps:=k4.fresh j0
 have XW:0∉M.now.map (·.1):=λhh=>by
  rw[gL.count]at hh;have:=(gL.sJ 0 hh).1;omega
 have hNe:=Uw (s:=bR M.m) XW;generalize hN:ig M.now 0 (bR M.m)=N at*;have hNl:N.length=M.now.length+1:=by rw[hNe];simp
 have Kb:M.aH=π.D.aA.length-1-π.D.aA.length/4:=by
  have a1:=gL.aH;have a2:π.D.aA.length-1-π.D.aA.length/4=Gk.aH:=mU.rep.aH;omega
 have VE:M.first=1+π.D.aA.length/4:=by rw[hM8,hkf]
 have LR:∀n∈N.map (·.1),∃s,dt N n=some s/\n<=100000/\n<M.aH/\s.length=512:=λn hn=>by
  have hg:dt N n=if n=0 then some (bR M.m)else dt M.now n:=by rw[<-hN,pV]
  by_cases h0:n=0
  .rw[aEW h0]at hg;have h1:=gL.ok.one;exact⟨_,hg,qE,by have:=gL.aH;omega,gZ _⟩
  .rw[aET h0]at hg;rw[hNe,aFR,aEY]at hn
   have BU:n∈M.now.map (·.1):=by
    rcases hn with h1|h1
    .exact h1
    .exact absurd O8 h0
   cases hp:dt M.now n with
   |none=>exact absurd BU (l6.1 hp)
   |some s=>
    rw[hp]at hg;rw[gL.count]at BU;have h2:=gL.sJ n BU;have h3:=gL.len n h2.2;have h4:M.get π.D n=s:=by unfold bZ.get;rw[hp]
    rw[h4]at h3;exact⟨s,hg,qE,by have:=gL.aH;omega,h3⟩
 have agn:∀{K:CV->Prop},K (.map π.bn)->fB 5 (.ptr π.p 0) s4 K:=λ{K} hK=>by
  rw[fB,bF,af,ah,af,aB,hm4,aq];exact hK
 rw[cV];refine agn ?_;refine Lo.mono ?_;rintro _ yg ⟨rfl,g28,Na,n28⟩;have aqy:=TG.keep Na uG;refine(Co (L:=N) g28 (.inl aqy.now) (by rw[hNl];omega) (λn hn=>by obtain⟨_,_,h1,_⟩:=LR n hn;omega)).mono ?_;intro x MF G8;have k29:=G8.kp;have Wh:=Na.trans k29 uG;have agR:=TG.keep Wh uG;have agh:=Wh.fresh aps;have hNn:(N.map (·.1)).Nodup:=iP (by rw[<-kW];exact TG.now.nd);have azL:(nR (N.map (·.1))).length=N.length:=by rw[xz,aFK]
 have Vo:=yd hNn;have QQ:=G8.sl [] uG;have Vn:∀n,n∈nR (N.map (·.1))↔n∈N.map (·.1):=λn=>tD;generalize mr:nR (N.map (·.1))=ks at*;rw[QQ.len ks.length uG qE MF,af];simp only[aL,aM];refine Us (M:=M) (N:=N) agR agh (λs hs=>QQ.mono hs) ⟨λn hn=>?_⟩ qE ?_
 .obtain⟨s,q1,q2,_,q4⟩:=LR n ((Vn n).1 hn);exact⟨s,q1,q2,q4⟩
 intro s rec Z7 yS;simp only[aL,aM];have AL:=mL N ks;have hll:(dZ N ks).length=ks.length:=by unfold dZ;simp
 have Rg:∀e∈dZ N ks,e.1<M.aH/\e.2.length=512:=λe he=>by
  unfold dZ at he;obtain⟨n,hn,rfl⟩:=aFq.1 he;obtain⟨s',q1,q2,q3,q4⟩:=LR n ((Vn n).1 hn);simp only[q1,aGi];exact⟨q3,q4⟩
 have Xt:∀n,dt (dZ N ks) n=if n=0 then some (bR M.m)else dt M.now n:=λn=>by
  have hg:dt N n=if n=0 then some (bR M.m)else dt M.now n:=by rw[<-hN,pV]
  rw[<-hg]
  have key:∀js:List Nat,dt (dZ N js) n=if n∈js then some ((dt N n).getD [])else none:=by
   intro js
   induction js with
   |nil=>rfl
   |cons j js ih=>
    show(if n=j then some ((dt N j).getD [])else dt (dZ N js) n)=_
    by_cases hj:n=j
    .subst hj;rw[aEW rfl,aEW uG]
    .rw[aET hj,ih];simp only[aEP,hj,false_or]
  rw[key]
  by_cases hn:n∈ks
  .rw[aEW hn];obtain⟨s',q1,_⟩:=LR n ((Vn n).1 hn);rw[q1];rfl
  .rw[aET hn];exact(l6.2 λhh=>hn ((Vn n).2 hh)).symm
 have atK:=KL _ λe he=>by have:=Rg e he;omega
 have Tv:bt (gf (dZ N ks)).length<=π.D.aA.length/4:=by
  have h1:(dZ N ks).length<=π.D.aA.length/8+1:=qE
  generalize (gf (dZ N ks)).length=X at*;unfold bt
  split<;>omega
 have ZH:(gf (dZ N ks)).length<=1000000:=qE
 generalize hl:dZ N ks=l at*;have yB:=agR.keep Z7 uG;have CR:=yB.main
 have aah:∀{K:CV->Prop},K (.map π.bn)->fB 5 (.ptr π.p 0) s K:=λ{K} hK=>by
  rw[fB,bF,af,ah,af,aB,CR,aq];exact hK
 refine aah ?_;obtain⟨bO,d1,d2,d3⟩:=yB.now.delete 0;rw[show pj .int (.map π.bn) (.int .i64 0) s=.ok .undef bO from d1,aS]
 have d4:dy bO π.bn (gP M.now):=by
  have e:qY (gP N) 0=gP M.now:=by rw[<-hN];exact PH XW
  rw[<-e];exact d3
 have agz:=yB.lt π.bn uG
 have qg:Kp [π.bn] s bO:=by
  rcases d2 with rfl|⟨blk,rfl⟩
  .exact Kp.refl _ _
  .exact(Kp.refl _ s).set _ (.inl uG) agz
 have kk:∀q∈[π.p,π.bd,π.bn,π.bi,π.bc],q≠π.bn->bO.m.g q=s.m.g q:=λq hq ij=>qg.keep q (yB.lt q hq) abR
 have Ka:cP bO π.p π.a (.ptr r 0) {M with dirty:=M.dirty} π.bd π.bn π.bi π.bc:=
  ⟨(kk π.p uG (aFL (aFL m2))).trans CR,yB.dirty.mono (kk π.bd uG m5),d4,yB.idle.mono (kk π.bi uG (aFL m8)),yB.count.mono (kk π.bc uG (aFL m9)),hP.nd,λb hb=>aFg (yB.lt b hb) qg.nx,hP.lgs⟩
 have TL:=((k4.trans Wh uG).trans Z7 uG).trans qg ael;have aqe:∀b∈π.Fd,b∉[π.bn]:=λb hb hh=>hF b hb adN;have Vy:=hd.keep TL aqe;have anQ:r≠π.bn:=λe=>Ov ade;have EA:=lR.keep TL (by simpa using anQ);have agl:=TL.fresh j0;have Om:=qg.nx
 have QX:Mi π r M G Gk T bO bO M.dirty π.bd r π.Fd π.D base last P Ls:=
  ⟨Ka,Vy,mU,rfl,hMd,λe he=>by rw[Kb];exact hke e (by rw[<-hM6];exact he),EA,λhh=>Ov (PI.xX hh),λhh=>Ov (by unfold PI.all;simp at hh⊢;rcases hh with h|h|h|h|h<;>simp[h]),hF,hlT,.inl rfl,.inl rfl,ael,Kp.refl _ _,agl,gL⟩
 obtain⟨Fr,own,RO⟩:=yS;have n29:=Wh.nx;have n4:=k4.nx;have nks:=Z7.nx;have adR:=own.keep qg λb hb=>⟨(RO b hb).2,by have:=(RO b hb).1;have:=hP.lt π.bn uG;simp;omega⟩
 have QW:∀(s':St) (F':List Nat),Kp (r::π.all) bO s'->(∀b∈F',b∈π.Fd\/bO.nx<=b)->Sl s' F' rec 1 (aj (gf l)):=λs' F' CT rT=>by
  have oN:∀b∈Fr,st.nx<=b/\b<bO.nx:=λb hb=>by have:=RO b hb;omega
  have QU:=lR.1
  have eU:∀b∈Fr,b∉r::π.all:=λb hb hh=>by
   have h1:=oN b hb;rcases aEP.1 hh with hh|hh
   .omega
   .have:b<st.nx:=by
     unfold PI.all at hh;simp only[aEP]at hh;rcases hh with hh|hh|hh|hh|hh|hh
     .rw[hh];exact hP.lt _ uG
     .rw[hh];exact hP.lt _ uG
     .rw[hh];exact hP.lt _ uG
     .rw[hh];exact hP.lt _ uG
     .rw[hh];exact hP.lt _ uG
     .exact hd.lt b hh
    omega
  have YK:=adR.keep CT λb hb=>⟨(oN b hb).2,eU b hb⟩;have nk':=CT.nx
  exact YK.sl λb hb=>⟨λhh=>by
   have h1:=oN b hb;rcases rT b hh with h2|h2
   .exact eU b hb (by simp[PI.xX h2])
   .omega,by have:=oN b hb;omega⟩
 have Vi:=Ka.main
 have XD:∀{K:CV->Prop},K (.ptr r 0)->fB 1 (.ptr π.p 0) bO K:=λ{K} hK=>by
  rw[fB,bF,af,ah,af,aB,Vi,aq];exact hK
 refine XD ?_
 have RE:R 131 [.ptr r 0,rec] bO λx s'=>(x=I 0/\∃pQ bd r' F D D' base last P Ls,Bn π r M G Gk T l bO s' pQ bd r' F D D' base last P Ls)\/(x=I 3/\s'=bO):=by
  by_cases uP:bt (gf l).length+(last-base)<=π.D.aA.length/4
  .refine(we QX (QW bO π.Fd (Kp.refl _ _) ael) ZH qE uP).mono ?_;rintro x s' ⟨rfl,F',D',hA⟩;exact .inl ⟨rfl,_,_,_,_,_,_,_,_,_,_,hA⟩
  .have Tu:(⟨1,π.D.aA.length/4,base,last,last⟩:RingM).room=(π.D.aA.length/4:Nat)-((last:Int)-base):=by unfold RingM.room;rw[aET uG]
   have uy:=mU.laid.le.1;refine(HT (X:=[]) EA Vy rY ((QW bO π.Fd (Kp.refl _ _) ael).dW uG) qE (by show π.D.aA.length/4<=_;omega) acA (by show last<=_;omega) Tv uG (by rw[Tu];omega)).mono ?_;rintro x s' ⟨rfl,rfl⟩;exact .inr ⟨rfl,rfl⟩
 refine RE.mono ?_;intro pM ey anh;refine jO (λvs s=>vs=[.ptr π.p 0,I 0]/\∃pQ bd r' F D D' base last P Ls,Bn π r M G Gk T l bO s pQ bd r' F D D' base last P Ls) ?_ ?_
 .intro WL Nq;rcases anh with⟨rfl,hA⟩|⟨rfl,rfl⟩
  .have e3:ai .eql (some .int) true (I 0) (.int .i64 3) ey=.ok (.bool false) ey:=rfl;rw[e3,af,ag,aET u7];exact Nq _ _ ⟨rfl,hA⟩
  .have e3:ai .eql (some .int) true (I 3) (.int .i64 3) ey=.ok (.bool true) ey:=rfl;rw[e3,af,ag,aEW rfl];refine XD ?_;refine(Pm EA).same ?_;refine(DU QX qE VE (by rw[VE,Kb];omega)).mono ?_;rintro _ zP ⟨rfl,oP,r',F',D',hR⟩;have e0:ai .eql (some .int) true (I 0) (.int .i64 0) zP=.ok (.bool true) zP:=rfl;rw[e0,af,ag,aEW rfl];have aov:=hR.rG.main
   have aai:∀{K:CV->Prop},K (.ptr r' 0)->fB 1 (.ptr π.p 0) zP K:=λ{K} hK=>by
    rw[fB,bF,af,ah,af,aB,aov,aq];exact hK
   refine aai ?_;refine(we hR (QW zP F' hR.kp hR.FN) ZH qE (by rw[hR.len];omega)).mono ?_;rintro x vi ⟨rfl,F2,D2,hA⟩;exact Nq _ _ ⟨rfl,_,_,_,_,_,_,_,_,_,_,hA⟩
 .rintro _ eT ⟨rfl,pQ,oP,r',F',D',D2,X6,aek,P',Ls',hA⟩;rw[cV];simp only[aL,aM];have e0:∀s,ai .eql (some .int) true (I 0) (.int .i64 0) s=.ok (.bool true) s:=λs=>rfl;have e2:∀s,ai .neq (some .int) true (I 0) (.int .i64 0) s=.ok (.bool false) s:=λs=>rfl;have Z0:=hA.rG.main;rw[e0,af,ag,aEW rfl]
  have aaj:∀{K:CV->Prop},K (.ptr r' 0)->fB 1 (.ptr π.p 0) eT K:=λ{K} hK=>by
   rw[fB,bF,af,ah,af,aB,Z0,aq];exact hK
  refine aaj ?_;have sQ:=hA.len;have azm:bt (gf l).length<=2000:=qE
  refine(Uk hA.ring hA.EU (by rw[hA.wrote.waits,hA.ok.waits];simp;omega)).mono ?_;rintro _ gY ⟨rfl,nz,F3,Nt,EN⟩;obtain⟨f1,f2,f3,f4,f5⟩:=hA.wrote.calm.flush hA.wrote.AA;have Ny:=hA.EU.lt;have AJ:=hA.rG.lt;have uz:=hA.rG.keep nz λb hb hh=>hA.L5 b hh hb;have Lz:=hA.ring.keep nz hA.rF;have Xo:=hA.ok.abg (l:=l) hA.rep (by show M.first=_;rw[VE,sQ]) (by show M.aH=_;rw[Kb,sQ]) hA.dir (by rw[<-hl,mL];exact Vo) Xt Rg ZH hA.room ZF hA.wrote;rw[aEW f1,e2,af,ag,aET u7,bG];have aoA:=uz.main;have n14:=hA.kp.nx;have n15:=nz.nx;have LH:gY.m.g π.p=some (.cells [.ptr π.a 0,.ptr r' 0,I M.first,I M.aH,.map oP,.map π.bn,I M.kept.root,I M.kept.used,I M.kept.head,I M.kept.free,I M.m.root,I M.m.used,I M.m.head,I M.m.free,.map π.bi,.map π.bc] 158 false):=aoA;have ndA:=hA.rG.nd;simp only[aFd,aEP,aFy,aGt,aGk]at ndA;obtain⟨⟨v1,v2,v3,v4⟩,⟨v5,v6,v7⟩,⟨v8,v9⟩,v10,_⟩:=ndA;have agq:(pQ.map (·.1)).Nodup:=iP (by rw[<-kW];exact uz.dirty.nd)
  have auq:pQ.length<=65536:=by
   have:=lC 65536 (pQ.map (·.1)) agq λx hx=>by
    obtain⟨e,he,rfl⟩:=aFq.1 hx;have:=(hA.xQ e he).1;omega
   rwa [aFK]at this
  have afr:(M.now.map (·.1)).Nodup:=by rw[gL.count];exact gL.rq
  have Rb:∀e∈M.now,e.1<M.aH/\e.2.length=512:=λe he=>by
   have h1:=Gi afr he;have h2:e.1∈M.count:=by rw[<-gL.count];exact aFX he
   have h3:=gL.sJ _ h2;have h4:=gL.len e.1 h3.2;have h5:M.get π.D e.1=e.2:=by unfold bZ.get;rw[h1]
   rw[h5]at h4;exact⟨by have:=gL.aH;omega,h4⟩
  rw[bF,af,ah,af,aB,LH,aq];simp only[aER,aEN,aEL,ay];rw[af,ah,af,aB,LH,aq];simp only[aER,aEN,aEL,ay]
  have apY:∀n∈pQ.map (·.1),n<=1000000:=λn hn=>by
   obtain⟨e,he,TB⟩:=aFq.1 hn;have h1:=(hA.xQ e he).1;rw[<-TB];omega
  have apX:∀n∈M.now.map (·.1),n<=1000000:=λn hn=>by
   obtain⟨e,he,TB⟩:=aFq.1 hn;have h1:=(Rb e he).1;rw[<-TB];omega
  have apU:pQ.length<=1000000:=qE
  have aar:M.now.length<=1000000:=qE
  have apW:=λe he=>(Rb e he).2;have apT:=uz.lt oP uG;have TE:IsMap gY oP (gP pQ):=uz.dirty;have VA:IsMap gY π.bn (gP M.now):=.inl uz.now;refine(VT TE VA v5 apU apY aar apX apW apT).mono ?_;rintro _ bU ⟨zn,n16,hdm⟩;refine⟨⟨aer,aer,aer⟩,aer,?_⟩;have amT:∀q∈[π.p,oP,π.bn,π.bi,π.bc],q≠oP->bU.m.g q=gY.m.g q:=λq hq ij=>zn.keep q (uz.lt q hq) abR;have ZZ:=(amT π.p uG v1).trans LH;rw[bG,bF,af,ah,af,aB,ZZ,aq];simp only[aER,aEN,aEL,ay];rw[af,ah,af,gF (n:=4) ZZ uG,af];refine(El (m:=M.m) ZX).mono ?_;rintro _ jd ⟨rfl,CM⟩;have ags:=hdm.mono (CM.keep oP (by have:=uz.lt oP uG;omega) uG);have aoz:=(CM.keep π.p (by have:=uz.lt π.p uG;omega) uG).trans ZZ;obtain⟨SM,w1,w2,_⟩:=IsMap.update ags 0 (.agg (aj (bR M.m)))
  have w3:IsMap (St.set jd oP SM) oP (gP (ig (nZ pQ M.now) 0 (bR M.m))):=by
   have:=wb (nZ pQ M.now) 0 (bR M.m);rw[<-this];exact w2
  rw[show dO .int (.map oP) (.int .i64 0) (.agg (aj (bR M.m))) jd=.ok .undef (St.set jd oP SM)from w1,aS,aB,aoz,aq];refine⟨⟨⟨rfl,aer⟩,aer,aer⟩,aer,?_⟩;have n17:=CM.nx;have agG:oP<jd.nx:=by have:=uz.lt oP uG;omega
  have Oq:Kp [oP] jd (St.set jd oP SM):=(Kp.refl _ jd).set _ (.inl uG) agG;have Yc:=(zn.trans CM uG).trans Oq ael;have n18:(St.set jd oP SM).nx=jd.nx:=rfl;generalize St.set jd oP SM=dp at*;have amS:∀q∈[π.p,oP,π.bn,π.bi,π.bc],q≠oP->dp.m.g q=gY.m.g q:=λq hq ij=>Yc.keep q (uz.lt q hq) abR;have afC:=(amS π.p uG v1).trans LH
  have agm:∀{K:CV->Prop},K (.agg [I M.m.root,I M.m.used,I M.m.head,I M.m.free])->AV 4 10 (.ptr π.p 0) dp K:=λ{K} hK=>by
   unfold AV;rw[bF,af,ah,af,gF (n:=4) afC uG,af];exact hK
  refine agm ?_;rw[iO,aS,iO,aS];have y1:(St.new dp (.map [] 0)).nx=dp.nx+1:=rfl;have y2:(St.new (St.new dp (.map [] 0)) (.map [] 0)).nx=dp.nx+2:=rfl;rw[y1];have QH:Kp [] dp (St.new (St.new dp (.map [] 0)) (.map [] 0)):=((Kp.refl [] dp).new _).new _;have z1:dy (St.new (St.new dp (.map [] 0)) (.map [] 0)) dp.nx []:=(dy.new dp).mono (by rw[bg _ _ _ uG]);have z2:dy (St.new (St.new dp (.map [] 0)) (.map [] 0)) (dp.nx+1) []:=dy.new (St.new dp (.map [] 0));generalize St.new (St.new dp (.map [] 0)) (.map [] 0)=iN at*;have aoc:π.p<dp.nx:=by have:=uz.lt π.p uG;omega
  have aow:=(QH.keep π.p aoc uG).trans afC;have qk:bD [.ptr π.a 0,.ptr r' 0,I M.first,I M.aH,.map oP,.map π.bn,I M.kept.root,I M.kept.used,I M.kept.head,I M.kept.free,I M.m.root,I M.m.used,I M.m.head,I M.m.free,.map π.bi,.map π.bc] 6 [I M.m.root,I M.m.used,I M.m.head,I M.m.free]=[.ptr π.a 0,.ptr r' 0,I M.first,I M.aH,.map oP,.map π.bn,I M.m.root,I M.m.used,I M.m.head,I M.m.free,I M.m.root,I M.m.used,I M.m.head,I M.m.free,.map π.bi,.map π.bc]:=rfl;have kx:bD [.ptr π.a 0,.ptr r' 0,I M.first,I M.aH,.map oP,.map π.bn,I M.m.root,I M.m.used,I M.m.head,I M.m.free,I M.m.root,I M.m.used,I M.m.head,I M.m.free,.map π.bi,.map π.bc] 5 [.map dp.nx]=[.ptr π.a 0,.ptr r' 0,I M.first,I M.aH,.map oP,.map dp.nx,I M.m.root,I M.m.used,I M.m.head,I M.m.free,I M.m.root,I M.m.used,I M.m.head,I M.m.free,.map π.bi,.map π.bc]:=rfl;have EB:bD [.ptr π.a 0,.ptr r' 0,I M.first,I M.aH,.map oP,.map dp.nx,I M.m.root,I M.m.used,I M.m.head,I M.m.free,I M.m.root,I M.m.used,I M.m.head,I M.m.free,.map π.bi,.map π.bc] 15 [.map (dp.nx+1)]=[.ptr π.a 0,.ptr r' 0,I M.first,I M.aH,.map oP,.map dp.nx,I M.m.root,I M.m.used,I M.m.head,I M.m.free,I M.m.root,I M.m.used,I M.m.head,I M.m.free,.map π.bi,.map (dp.nx+1)]:=rfl
  have Ly:∀{s:St} {l l':List CV} {K:St->Prop},s.m.g π.p=some (.cells l 158 false)->10<=l.length->bD l 6 [I M.m.root,I M.m.used,I M.m.head,I M.m.free]=l'->K (St.set s π.p (.cells l' 158 false))->oK 4 6 (.ptr π.p 0) (.agg [I M.m.root,I M.m.used,I M.m.head,I M.m.free]) s K:=by
   intro s l l' K hg h3 h4 hK;simp only[oK,bF,ah,af,aJ,hg,aW,aT,aER,h4];exact⟨⟨rfl,rfl,qE⟩,hK⟩
  have Xb:∀{s:St} {l l':List CV} {o b:Nat} {K:St->Prop},s.m.g π.p=some (.cells l 158 false)->o<l.length->bD l o [.map b]=l'->K (St.set s π.p (.cells l' 158 false))->oK 1 o (.ptr π.p 0) (.map b) s K:=by
   intro s l l' o b K hg h3 h4 hK;have U8:(CV.map b).cN=[.map b]:=rfl;simp only[oK,bF,ah,af,aJ,hg,aW,U8,aER,h4];exact⟨⟨rfl,rfl,h3⟩,hK⟩
  refine Ly aow uG qk ?_;refine Xb (ar _ _ _) uG kx ?_;rw[set_set];refine Xb (ar _ _ _) uG EB ?_;rw[set_set];have AI:=uz.lt;have Ix:=AI π.p uG;have CX:=AI oP uG;have hb3:=AI π.bn uG;have hb4:=AI π.bi uG;have hb5:=AI π.bc uG;have n20:=QH.nx;have Nb:Kp [π.p] iN (St.set iN π.p (.cells [.ptr π.a 0,.ptr r' 0,I M.first,I M.aH,.map oP,.map dp.nx,I M.m.root,I M.m.used,I M.m.head,I M.m.free,I M.m.root,I M.m.used,I M.m.head,I M.m.free,.map π.bi,.map (dp.nx+1)] 158 false)):=(Kp.refl _ iN).set _ (.inl uG) qE;have aaK:(St.set iN π.p (.cells [.ptr π.a 0,.ptr r' 0,I M.first,I M.aH,.map oP,.map dp.nx,I M.m.root,I M.m.used,I M.m.head,I M.m.free,I M.m.root,I M.m.used,I M.m.head,I M.m.free,.map π.bi,.map (dp.nx+1)] 158 false)).m.g π.p=some (.cells [.ptr π.a 0,.ptr r' 0,I M.first,I M.aH,.map oP,.map dp.nx,I M.m.root,I M.m.used,I M.m.head,I M.m.free,I M.m.root,I M.m.used,I M.m.head,I M.m.free,.map π.bi,.map (dp.nx+1)] 158 false):=ar _ _ _;have n21:(St.set iN π.p (.cells [.ptr π.a 0,.ptr r' 0,I M.first,I M.aH,.map oP,.map dp.nx,I M.m.root,I M.m.used,I M.m.head,I M.m.free,I M.m.root,I M.m.used,I M.m.head,I M.m.free,.map π.bi,.map (dp.nx+1)] 158 false)).nx=iN.nx:=rfl;generalize St.set iN π.p (.cells [.ptr π.a 0,.ptr r' 0,I M.first,I M.aH,.map oP,.map dp.nx,I M.m.root,I M.m.used,I M.m.head,I M.m.free,I M.m.root,I M.m.used,I M.m.head,I M.m.free,.map π.bi,.map (dp.nx+1)] 158 false)=fR at*;have Yb:=(QH.mono uG).trans Nb ael;have Mk:Kp [π.p,oP] gY fR:=(Yc.mono uG).trans Yb uG;have XF:=w3.mono (Yb.keep oP qE (by simp;exact aFL v1));have agD:dy fR π.bi (uk M.idle):=uz.idle.mono (Mk.keep π.bi hb4 (by simp;exact⟨aFL v3,aFL v6⟩));have ajF:=z1.mono (Nb.keep dp.nx qE vR);have ajE:=z2.mono (Nb.keep (dp.nx+1) qE vR)
  have XG:∀n,dt (ig (nZ pQ M.now) 0 (bR M.m)) n=dt (eo [] (Ls'++[l])) n:=λn=>by
   rw[pV,MP,qP,Cw l _ n (by rw[<-hl,mL];exact Vo),Xt,<-hA.dir]
   by_cases h0:n=0
   .rw[aEW h0,aEW h0];rfl
   .rw[aET h0,aET h0]
  have Hb:=f3.trans (hA.wrote.aA.trans sQ);have Xh:=Xo.rep;rw[Hb]at Xh
  have afi:=(Xh.congr (M':=⟨M.first,M.aH,ig (nZ pQ M.now) 0 (bR M.m),[],M.m,M.m,G.fr,[]⟩) (D':=D2.flush.2) (λn _=>by
   rw[mg];show(sO M.first M.aH (ig (nZ pQ M.now) 0 (bR M.m)) M.m G.fr).get _ n=_;rw[mg,XG,VE]) Kb rfl rfl rfl rfl VE rfl).YE M.idle gL.idle gL.yu
  have aur:∀b∈F3,(b∈D'.aA.map (λ_=>0)\/True)->b∈F'\/eT.nx<=b:=λb hb _=>EN b hb;have JQ:=hA.rG.lt
  have ahb:∀b∈F3,b∉[π.p,oP,π.bi]/\b<gY.nx:=λb hb=>by
   refine⟨λhh=>?_,Nt.lt b hb⟩;rcases EN b hb with h1|h1
   .exact hA.L5 b h1 (by simp at hh⊢;rcases hh with hh|hh|hh<;>simp[hh])
   .have h2:b<eT.nx:=by
     simp only[aEP,aFy,aGt]at hh;rcases hh with hh|hh|hh
     .rw[hh];exact JQ _ uG
     .rw[hh];exact JQ _ uG
     .rw[hh];exact JQ _ uG
    omega
  have anI:=Lz.1;have hrP:=hA.rP;simp only[aEP,aFy,aGt,aGk]at hrP;have U9:=Lz.keep Mk (by simp;exact⟨hrP.1,hrP.2.1⟩);have apL:=Nt.keep Mk λb hb hh=>(ahb b hb).1 (by simp at hh⊢;rcases hh with hh|hh<;>simp[hh]);have apE:=iP (by rw[<-kW];exact XF.nd)
  have agp:∀e∈ig (nZ pQ M.now) 0 (bR M.m),e.1<M.aH/\e.2.length=512:=λe he=>by
   rcases Gf he with h1|h1
   .unfold nZ at h1;rcases aEY.1 h1 with h2|h2
    .exact hA.xQ e (aGm.1 h2).1
    .exact Rb e h2
   .rw[h1];exact⟨by have:=gL.aH;have:=gL.ok.one;show 0<M.aH;omega,gZ _⟩
  have ayj:=TL.nx;refine .inr ⟨rfl,⟨π.p,π.a,.ptr r' 0,oP,dp.nx,π.bi,dp.nx+1,F3,D2.flush.2,ig (nZ pQ M.now) 0 (bR M.m),M.m,1+π.D.aA.length/4⟩,r,rfl,rfl,⟨⟨M.first,M.aH,ig (nZ pQ M.now) 0 (bR M.m),[],M.m,M.m,M.idle,[]⟩,⟨aaK,XF,ajF,agD,ajE,?_,?_,⟨rfl,rfl,rfl⟩⟩,afi,apL,f2.dead,λb hb hh=>?_,rfl,rfl,VE⟩,⟨⟨X6,aek+bt (gf l).length,_,Ls'++[l],r',Xo,by have:=hA.T;omega,rfl,?_,?_,XG⟩,by show 1+π.D.aA.length/4=1+(D2.flush.2).aA.length/4;rw[Hb],λe he=>?_,apE⟩,BV,⟨r',rfl,hA.rN.imp id λh=>qE⟩,?_,λb hb=>?_,Hb⟩
  .simp only[aFd,aEP,aFy,aGt,aGk];exact⟨⟨v1,qE,v3,qE⟩,⟨qE,v6,qE⟩,⟨qE,qE⟩,qE,not_false,aHo⟩
  .intro b hb;simp at hb;omega
  .have h1:=ahb b hb;simp only[aEP,aFy,aGt,aGk]at hh h1;rcases hh with hh|hh|hh|hh|hh
   .exact h1.1.1 hh
   .exact h1.1.2.1 hh
   .omega
   .exact h1.1.2.2 hh
   .omega
  .show fQ fR r' π.a ⟨1,(D2.flush.2).aA.length/4,X6,_,_⟩;rw[Hb,<-sQ];exact U9
  .unfold PI.all;simp only[aEP,aGk];refine⟨hrP.1,hrP.2.1,qE,hrP.2.2.2.1,qE,λhh=>?_⟩;rcases EN r' hh with h1|h1
   .exact hA.rF h1
   .have:=hA.ring.1;omega
  .show e.1<(D2.flush.2).aA.length-1-(D2.flush.2).aA.length/4/\_;rw[Hb,<-Kb];exact agp e he
  .have q1:Kp (r::π.all) st bO:=TL.mono (by intro q hq;left;simp at hq;subst hq;unfold PI.all;simp);have q2:=q1.trans hA.kp ael
   have q3:=q2.trans nz λq hq=>by
    rcases hA.FN q hq with h1|h1
    .left;simp[PI.xX h1]
    .right;omega
   exact q3.trans Mk λq hq=>by
    simp only[aEP,aFy,aGt]at hq;rcases hq with hq|hq
    .left;rw[hq];unfold PI.all;simp
    .rcases hA.bdN with h1|h1
     .left;rw[hq,h1];unfold PI.all;simp
     .right;omega
  .unfold PI.all at hb;simp only[aEP]at hb;rcases hb with hb|hb|hb|hb|hb|hb
   .left;rw[hb];unfold PI.all;simp
   .rcases hA.bdN with h1|h1
    .left;rw[hb,h1];unfold PI.all;simp
    .right;omega
   .right;omega
   .left;rw[hb];unfold PI.all;simp
   .right;omega
   .rcases EN b hb with h1|h1
    .rcases hA.FN b h1 with h2|h2
     .left;exact PI.xX h2
     .right;omega
    .right;omega
end
end
structure ir (τ:Nat)(π:PI)(st:St)(L Lk:List bq)(T N fr:Nat):Prop where
 ex:∃G Gk,Tg τ π st G/\fA G L/\iX π st Gk T/\fA Gk Lk/\G.aH=Gk.aH/\G.cF=fr
 calm:Calm π.D
 len:π.D.aA.length=N
def own (τ:Nat)(π:PI):List Nat:=τ::((match π.lg with| .ptr r _=>[r]|_=>[])++π.all)
def kR (τ:Nat)(π π':PI)(st st':St):Prop:=Kp (own τ π) st st'/\∀b∈own τ π',b∈own τ π\/st.nx<=b
def mo {τ:Nat}{π:PI}{b:Nat}(h:b∈π.all):b∈own τ π:=by unfold own;simp[h]
def AT {τ:Nat}{π:PI}{st st':St}(h:Kp π.W st st'):kR τ π π st st':=⟨h.mono λq hq=>.inl (mo (PI.Dk hq)),ael⟩
def sX {τ:Nat}{π:PI}{st st':St}(h:Kp [] st st'):kR τ π π st st':=⟨h.mono uG,ael⟩
section
variable {τ:Nat} {π:PI} {st st':St} {L Lk:List bq} {T N fr:Nat}
def iX.log {Gk:GM}(h:iX π st Gk T):∃r,π.lg=.ptr r 0/\r∉π.all/\r<st.nx:=by
 obtain⟨base,last,P,Ls,r,a,b,c,d,e,f⟩:=h.ex;exact⟨r,c,e,d.1⟩
def iX.QC {Gk:GM}(h:iX π st Gk T)(hk:Kp π.W st st'):iX π st' Gk T:=by
 obtain⟨r,h1,h2,_⟩:=h.log;refine h.keep hk λr' e=>?_;rw[h1]at e;cases e;exact λhh=>h2 (PI.Dk hh)
def iX.still {Gk:GM}(h:iX π st Gk T)(hk:Kp [] st st'):iX π st' Gk T:=h.keep hk uG
def ir.still (h:ir τ π st L Lk T N fr)(hk:Kp [] st st'):ir τ π st' L Lk T N fr:=by
 obtain⟨⟨G,Gk,a,b,c,d,e,e'⟩,f,g⟩:=h;exact⟨⟨G,Gk,a.still hk,b,c.still hk,d,e,e'⟩,f,g⟩
def F7 {G:GM}(h:fA G L):G.root=0\/G.bW G.root:=by
 rcases h.tree with h1|⟨hh,ps,_,hs⟩
 .exact .inl h1.1
 .obtain⟨n,q,hn,_⟩:=hs;exact .inr hn.bW
def IX (h:ir τ π st L Lk T N fr)(hT:T<=900000000)(hN:N<=8000):R 40 [.ptr τ 0] st λv st'=>(v=I 3/\Kp [] st st')\/(v=I 0/\∃π',π'.a=π.a/\kR τ π π' st st'/\ir τ π' st' L L (T+10000) N fr):=by
 obtain⟨⟨G,Gk,ht,hL,hk,Fl,oI,j0⟩,hc,hl⟩:=h;refine bP ?_;rw[w40];rw[cD,af,ag,aET u7];refine ht.get' ?_;refine(Ad ht.pg hk ht.fr hT qE (F7 hL) oI).mono ?_;rintro v s1 (⟨rfl,k1,_⟩|⟨rfl,π',r,e1,e2,hp',CT,BV,⟨r',Z2,zp⟩,k1,eU,hlen⟩)
 .exact .inl ⟨rfl,k1⟩
 .obtain⟨r2,l1,l2,l3⟩:=hk.log;obtain⟨ty,g,hg⟩:=ht.get;have hrr:r2=r:=by rw[l1]at BV;cases BV;rfl
  have xL:τ∉r::π.all:=λhh=>by
   rcases aEP.1 hh with hh|hh
   .have hd:=hk.ex;obtain⟨_,_,_,_,r3,_,_,c,d,_,_⟩:=hd;have:r3=r:=by rw[c]at BV;cases BV;rfl
    rw[this]at d;have h1:=d.2;rw[<-hh,hg]at h1;simp at h1
   .exact ht.not hh
  have Rq:kR τ π π' st s1:=by
   refine⟨k1.mono λq hq=>.inl ?_,λb hb=>?_⟩
   .rcases aEP.1 hq with h1|h1
    .unfold own;rw[BV];simp[h1]
    .exact mo h1
   .unfold own at hb;rw[Z2]at hb;rcases aEP.1 hb with h1|h1
    .left;unfold own;simp[h1]
    .rcases aEY.1 h1 with h2|h2
     .have h2:b=r':=by simpa using h2
      rcases zp with h3|h3
      .left;unfold own;rw[BV];simp[h2,h3]
      .right;omega
     .exact(eU b h2).imp mo id
  refine .inr ⟨rfl,π',e2,Rq,⟨G,G,⟨hp',aFg ht.lt k1.nx,λhh=>?_,⟨ty,g,?_⟩,k1.fresh ht.fr⟩,hL,CT,hL,rfl,j0⟩,?_,hlen.trans hl⟩
  .rcases eU τ hh with h1|h1
   .exact ht.not h1
   .have:=ht.lt;omega
  .rw[e1];exact(k1.keep τ ht.lt xL).trans hg
  .obtain⟨_,_,_,_,_,mU,_⟩:=CT.ex;exact mU.calm
def abw (τ:Nat)(π:PI)(L Lk:List bq)(T N fr:Nat)(key v:List UInt8)(st:St)(y:CV)(st':St):Prop:=
 kR τ π π st st'/\(y=I (if 48<key.length\/8192<v.length then 1 else if fr<24+cq v.length then 3 else 0:Nat))/\∃fr',ir τ π st' (if 48<key.length\/8192<v.length then L else if fr<24+cq v.length then L else mR L key v) Lk T N fr'
def ads (h:ir τ π st L Lk T N fr)(key v:List UInt8):R 11 [.ptr τ 0,.str key,.str v] st λy st'=>abw τ π L Lk T N fr key v st y st':=by
 have h0:=h;obtain⟨⟨G,Gk,ht,hL,hk,Fl,oI,rfl⟩,hc,hl⟩:=h;refine(Ue ht hL key v).mono ?_;intro y st' hy;unfold Bg at hy;unfold abw
 by_cases h1:48<key.length\/8192<v.length
 .rw[aEW h1]at hy;rw[aEW h1,aEW h1];exact⟨sX hy.2,hy.1,_,h0.still hy.2⟩
 .rw[aET h1]at hy;rw[aET h1,aET h1]
  by_cases h2:G.cF<24+cq v.length
  .rw[aEW h2]at hy;rw[aEW h2,aEW h2];exact⟨sX hy.2,hy.1,_,h0.still hy.2⟩
  .rw[aET h2]at hy;rw[aET h2,aET h2];obtain⟨rfl,k1,G',t',o',hp⟩:=hy;exact⟨AT k1,rfl,_,⟨G',Gk,t',o',hk.QC k1,Fl,hp.trans oI,rfl⟩,hc,hl⟩
def abI (τ:Nat)(π:PI)(L Lk:List bq)(T N fr:Nat)(key:List UInt8)(st:St)(y:CV)(st':St):Prop:=
 kR τ π π st st'/\(y=if 48<key.length then .tuple [.bool false,I 1]else if fr<24 then .tuple [.bool false,I 3]else .tuple [.bool (fE L key).isSome,I 0])/\∃fr',ir τ π st' (if 48<key.length then L else if fr<24 then L else rp L key) Lk T N fr'
def adw (h:ir τ π st L Lk T N fr)(key:List UInt8):R 41 [.ptr τ 0,.str key] st λy st'=>abI τ π L Lk T N fr key st y st':=by
 have h0:=h;obtain⟨⟨G,Gk,ht,hL,hk,Fl,oI,rfl⟩,hc,hl⟩:=h;refine(Uj ht hL key).mono ?_;intro y st' hy;unfold Ku at hy;unfold abI
 by_cases h1:48<key.length
 .rw[aEW h1]at hy;rw[aEW h1,aEW h1];exact⟨sX hy.2,hy.1,_,h0.still hy.2⟩
 .rw[aET h1]at hy;rw[aET h1,aET h1]
  by_cases h2:G.cF<24
  .rw[aEW h2]at hy;rw[aEW h2,aEW h2];exact⟨sX hy.2,hy.1,_,h0.still hy.2⟩
  .rw[aET h2]at hy;rw[aET h2,aET h2];obtain⟨rfl,k1,G',t',o',hp⟩:=hy;exact⟨AT k1,rfl,_,⟨G',Gk,t',o',hk.QC k1,Fl,hp.trans oI,rfl⟩,hc,hl⟩
def Mx (h:ir τ π st L Lk T N fr):R 59 [.ptr τ 0] st λv st'=>v=I 0/\∃π' fr',π'.a=π.a/\kR τ π π' st st'/\ir τ π' st' Lk Lk T N fr':=by
 obtain⟨⟨G,Gk,ht,hL,hk,Fl,oI,rfl⟩,hc,hl⟩:=h;refine bP ?_;rw[w59];rw[cD,af,ag,aET u7];refine ht.get' ?_;obtain⟨M,hP,gL,hd,rY,hF,hM6,hM7,hM8⟩:=ht.pg;obtain⟨⟨base,last,P,Ls,r,mU,hlT,BV,lR,Ov,BX⟩,hkf,hke,rO⟩:=hk
 have Kb:M.aH=π.D.aA.length-1-π.D.aA.length/4:=by
  have a1:=gL.aH;have a2:π.D.aA.length-1-π.D.aA.length/4=Gk.aH:=mU.rep.aH;omega
 have VE:M.first=1+π.D.aA.length/4:=by rw[hM8,hkf]
 have NA:=mU.least
 have hgk:∀n,({M with now:=[]}:bZ).get π.D n=(sO (1+π.D.aA.length/4) (π.D.aA.length-1-π.D.aA.length/4) (eo [] Ls) π.kept Gk.fr).get π.D n:=λn=>by
  rw[mg,<-BX,<-hM6];show(match dt [] n with|some s=>s|none=>match dt M.dirty n with|some s=>s|none=>π.D.cur (M.first+n))=_;rw[VE];cases dt M.dirty n<;>rfl
 have azM:π.D.aA.length-1-π.D.aA.length/4=Gk.aH:=mU.rep.aH;have Xr:=mU.rep.ok.jL;refine(HY (m':=π.kept) (frs:=Gk.fr) hP hd rY (λb hb e=>hF b hb (by simp[e])) ((hgk 0).trans mU.zero) mU.WG qE qE mU.rep.head (λn hn=>⟨(mU.rep.ok.fr n hn).1,by have:=(mU.rep.ok.fr n hn).2;omega⟩) mU.rep.ok.nd (mU.rep.chain.congr λn _=>hgk n)).mono ?_;rintro _ s1 ⟨rfl,k1,OC,TJ,TK,hP',jg⟩;have AJ:=hP.lt;have Ny:=hd.lt;obtain⟨ty,g,hg⟩:=ht.get;have htp:τ≠π.p:=λe=>ht.not ade;have htn:=ht.not;have aeW:=ht.lt;have hrp:r≠π.p:=λe=>Ov ade;have QU:=lR.1;have BU:=jg OC uG;have Xq:=jg TJ uG;have hn3:=jg TK uG
 have RH:∀b,b∈({π with bn:=OC,bi:=TJ,bc:=TK}:PI).all->b∈π.all\/st.nx<=b:=λb hb=>by
  unfold PI.all at hb⊢;simp only[aEP]at hb⊢;rcases hb with hb|hb|hb|hb|hb|hb
  .left;simp[hb]
  .left;simp[hb]
  .right;omega
  .right;omega
  .right;omega
  .left;simp[hb]
 have afj:uc (M.clean π.kept Gk.fr) π.D Gk:=mU.rep.congr (λn _=>hgk n) Kb rfl rfl rfl rfl VE rfl
 have Rq:kR τ π {π with bn:=OC,bi:=TJ,bc:=TK} st s1:=by
  refine⟨k1.mono λq hq=>.inl (mo (by simp at hq;subst hq;unfold PI.all;simp)),λb hb=>?_⟩;unfold own at hb;rcases aEP.1 hb with h1|h1
  .left;unfold own;simp[h1]
  .rcases aEY.1 h1 with h2|h2
   .left;unfold own;exact aFE _ (aGO _ h2)
   .exact(RH b h2).imp mo id
 refine⟨rfl,{π with bn:=OC,bi:=TJ,bc:=TK},_,rfl,Rq,⟨Gk,Gk,⟨⟨M.clean π.kept Gk.fr,hP',afj,hd.keep k1 λb hb hh=>hF b hb adN,rY,λb hb hh=>?_,hM6,rfl,hM8⟩,aFg aeW k1.nx,λhh=>?_,⟨ty,g,(k1.keep τ aeW (by simpa using htp)).trans hg⟩,k1.fresh ht.fr⟩,Fl,⟨⟨base,last,P,Ls,r,mU,hlT,BV,lR.keep k1 (by simpa using hrp),λhh=>?_,BX⟩,hkf,hke,rO⟩,Fl,rfl,rfl⟩,hc,hl⟩
 .have h1:=Ny b hb;simp only[aEP,aFy,aGt]at hh;rcases hh with hh|hh|hh|hh|hh
  .exact hF b hb (by simp[hh])
  .exact hF b hb (by simp[hh])
  .omega
  .omega
  .omega
 .rcases RH τ hh with h1|h1
  .exact htn h1
  .omega
 .rcases RH r hh with h1|h1
  .exact Ov h1
  .omega
def Yv (h:ir τ π st L Lk T N fr)(hT:T<=900000000):R 23 [.ptr π.a 0] st λv st'=>∃π' Gk,v=.tuple [.ptr π'.p 0,I 0]/\π'.a=π.a/\Pg π' st' Gk/\eH st'/\iX π' st' Gk T/\fA Gk Lk/\Calm π'.D/\π'.D.aA.length=N/\Kp π.Fd st st'/\(∀b∈π'.all,b∈π.Fd\/st.nx<=b)/\∃r,π'.lg=.ptr r 0/\st.nx<=r:=by
 obtain⟨⟨G,Gk,ht,hL,hk,Fl,oI,rfl⟩,hc,hl⟩:=h;obtain⟨M,hP,gL,hd,rY,hF,hM6,hM7,hM8⟩:=ht.pg;obtain⟨⟨base,last,P,Ls,r,mU,hlT,BV,lR,Ov,BX⟩,hkf,hke,rO⟩:=hk;refine(UB hd ht.fr mU qE).mono ?_;rintro v s1 ⟨π',rfl,e1,hp,CT,k1,eU,_,nL,Is,hlr⟩;obtain⟨⟨b2,l2,P2,Ls2,r2,a1,a2,a3,a4,a5,a6⟩,b1,b2',b3⟩:=CT;exact⟨π',Gk,rfl,e1,hp,k1.fresh ht.fr,⟨⟨b2,l2,P2,Ls2,r2,a1,qE,a3,a4,a5,a6⟩,b1,b2',b3⟩,Fl,nL,Is.trans hl,k1,eU,hlr⟩
end
structure Fm (τ:Nat)(π:PI)(st:St)(G Gk:GM)(L Lk:List bq)(T N:Nat):Prop where
 tg:Tg τ π st G
 ok:fA G L
 kp:iX π st Gk T
 okk:fA Gk Lk
 pg:G.aH=Gk.aH
 calm:Calm π.D
 len:π.D.aA.length=N
section
variable {τ:Nat} {π:PI} {st st':St} {G Gk:GM} {L Lk:List bq} {T N:Nat}
def Fm.two (h:Fm τ π st G Gk L Lk T N):ir τ π st L Lk T N G.cF:=⟨⟨G,Gk,h.tg,h.ok,h.kp,h.okk,h.pg,rfl⟩,h.calm,h.len⟩
def Fm.still (h:Fm τ π st G Gk L Lk T N)(hk:Kp [] st st'):Fm τ π st' G Gk L Lk T N:=⟨h.tg.still hk,h.ok,h.kp.still hk,h.okk,h.pg,h.calm,h.len⟩
def Fm.to {G':GM}{L':List bq}(h:Fm τ π st G Gk L Lk T N)(hk:Kp π.W st st')(t:Tg τ π st' G')(o:fA G' L')(hp:G'.aH=G.aH):Fm τ π st' G' Gk L' Lk T N/\kR τ π π st st':=⟨⟨t,o,h.kp.QC hk,h.okk,hp.trans h.pg,h.calm,h.len⟩,AT hk⟩
def Pp (h:Fm τ π st G Gk L Lk T N)(hT:T<=900000000)(hN:N<=8000)(hu:G.used<=N/8):R 40 [.ptr τ 0] st λv st'=>v=I 0/\∃π',π'.a=π.a/\kR τ π π' st st'/\Fm τ π' st' G G L L (T+10000) N:=by
 obtain⟨ht,hL,hk,Fl,oI,hc,hl⟩:=h;refine bP ?_;rw[w40];rw[cD,af,ag,aET u7];refine ht.get' ?_;refine(Ad ht.pg hk ht.fr hT qE (F7 hL) oI).mono ?_;rintro v s1 (⟨rfl,k1,hx⟩|⟨rfl,π',r,e1,e2,hp',CT,BV,⟨r',Z2,zp⟩,k1,eU,hlen⟩)
 .rw[hl]at hx;omega
 .obtain⟨r2,l1,l2,l3⟩:=hk.log;obtain⟨ty,g,hg⟩:=ht.get;have hrr:r2=r:=by rw[l1]at BV;cases BV;rfl
  have xL:τ∉r::π.all:=λhh=>by
   rcases aEP.1 hh with hh|hh
   .have hd:=hk.ex;obtain⟨_,_,_,_,r3,_,_,c,d,_,_⟩:=hd;have:r3=r:=by rw[c]at BV;cases BV;rfl
    rw[this]at d;have h1:=d.2;rw[<-hh,hg]at h1;simp at h1
   .exact ht.not hh
  have Rq:kR τ π π' st s1:=by
   refine⟨k1.mono λq hq=>.inl ?_,λb hb=>?_⟩
   .rcases aEP.1 hq with h1|h1
    .unfold own;rw[BV];simp[h1]
    .exact mo h1
   .unfold own at hb;rw[Z2]at hb;rcases aEP.1 hb with h1|h1
    .left;unfold own;simp[h1]
    .rcases aEY.1 h1 with h2|h2
     .have h2:b=r':=by simpa using h2
      rcases zp with h3|h3
      .left;unfold own;rw[BV];simp[h2,h3]
      .right;omega
     .exact(eU b h2).imp mo id
  refine⟨rfl,π',e2,Rq,⟨hp',aFg ht.lt k1.nx,λhh=>?_,⟨ty,g,?_⟩,k1.fresh ht.fr⟩,hL,CT,hL,rfl,?_,hlen.trans hl⟩
  .rcases eU τ hh with h1|h1
   .exact ht.not h1
   .have:=ht.lt;omega
  .rw[e1];exact(k1.keep τ ht.lt xL).trans hg
  .obtain⟨_,_,_,_,_,mU,_⟩:=CT.ex;exact mU.calm
def adu {π:PI}(hp:Pg π st Gk)(hf:eH st)(hk:iX π st Gk T)(hL:fA Gk Lk)(hc:Calm π.D)(hl:π.D.aA.length=N):R 24 [.ptr π.p 0] st λv st'=>∃τ,v=.ptr τ 0/\st.nx<=τ/\Kp [] st st'/\Fm τ π st' Gk Gk Lk Lk T N:=by
 refine(Ug hp hf).mono ?_;rintro v s1 ⟨rfl,k1,t⟩;exact⟨_,rfl,aEQ _,k1,t,hL,hk.still k1,hL,rfl,hc,hl⟩
end
