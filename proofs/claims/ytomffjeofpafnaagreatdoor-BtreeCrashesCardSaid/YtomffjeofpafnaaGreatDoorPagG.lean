import Derived.Test.YtomffjeofpafnaaGreatDoorPagF
import Derived.Test.YtomffjeofpafnaaGreatDoorBtE
namespace Lim
open Go
noncomputable section
set_option linter.defProp false
set_option maxRecDepth 100000
section
variable {l:List dN}{s:St}{M:bQ}{D:aP}{r0:Nat}{sB:St}{mS:List dN}{bd r:Nat}{F:List Nat}{base last:Nat}{P:Nat->Piece}{Ls:List (List dN)}
def SI {n:Nat}{s:iJ}(h:n∉l.map (·.1)):gW l n s=l++[(n,s)]:=by
 induction l with
 |nil=>rfl
 |cons p r ih=>
  simp only[aEc,aDs,aEM]at h;simp only[gW,aDv h.1,aEp];rw[ih h.2]
def Fp (h:(l.map (·.1)).Nodup){e:dN}(he:e∈l):cX l e.1=some e.2:=by
 induction l with
 |nil=>cases he
 |cons p r ih=>
  rw[aEc,aDG]at h;simp only[cX];rcases aDs.1 he with rfl|he
  .rw[aDy rfl]
  .rw[aDv (λhh=>h.1 (by rw[<-hh];exact aEA he))];exact ih h.2 he
def rj.Xm {G:GM}(h:rj M D G)(idle:List Nat)(hi:∀n,n∈idle↔n∈G.fr)(hn:idle.Nodup):rj {M with idle:=idle} D G:=
 ⟨h.aE,h.used,h.root,h.head,h.free,hi,hn,h.ok,h.fits,h.len,h.cont,h.chain.congr λ_ _=>rfl,h.count,h.qH,h.rS⟩
structure Hq (π:PI)(r0:Nat)(M:bQ)(G Gk:GM)(T:Nat)(sB s:St)(mS:List dN)(bd r:Nat)(F:List Nat)(D:aP)(base last:Nat)(P:Nat->Piece)(Ls:List (List dN)):Prop where
 qS:cC s π.p π.a (.ptr r 0) {M with dirty:=mS} bd π.bn π.bi π.bc
 wh:cG s π.a F D
 ok:iK D Gk base last P Ls π.kept
 len:D.ao.length=π.D.ao.length
 set:D.set=π.D.set
 dir:∀n,cX mS n=cX (cM [] Ls) n
 ph:∀e∈mS,e.1<M.aE/\e.2.length=512
 ring:fI s r π.a ⟨1,D.ao.length/4,base,last,last⟩
 rF:r∉F
 rP:r∉[π.p,bd,π.bn,π.bi,π.bc]
 Wd:∀b∈F,b∉[π.p,bd,π.bn,π.bi,π.bc]
 T:last<=T
 bdN:bd=π.bd\/sB.nx<=bd
 rN:r=r0\/sB.nx<=r
 FN:∀b∈F,b∈π.Fd\/sB.nx<=b
 kp:Kp (r0::π.all) sB s
 fresh:eM s
 rep:rj {M with dirty:=mS} D G
structure AG (π:PI)(r0:Nat)(M:bQ)(G Gk:GM)(T:Nat)(l:List dN)(sB s:St)(mS:List dN)(bd r:Nat)(F:List Nat)(D D':aP)(base last:Nat)(P:Nat->Piece)(Ls:List (List dN)):Prop where
 qS:cC s π.p π.a (.ptr r 0) {M with dirty:=mS} bd π.bn π.bi π.bc
 wh:cG s π.a F D'
 ok:iK D Gk base last P Ls π.kept
 wrote:Rb D D' (D.ao.length/4) (vC P (D.ao.length/4) (dJ l) last (aY (dJ l).length)) (j8 (D.ao.length/4) base last last (dJ l) (aY (dJ l).length))
 len:D.ao.length=π.D.ao.length
 set:D.set=π.D.set
 dir:∀n,cX mS n=cX (cM [] Ls) n
 ph:∀e∈mS,e.1<M.aE/\e.2.length=512
 ring:fI s r π.a ⟨1,D.ao.length/4,base,last+aY (dJ l).length,last+aY (dJ l).length⟩
 rF:r∉F
 rP:r∉[π.p,bd,π.bn,π.bi,π.bc]
 Wd:∀b∈F,b∉[π.p,bd,π.bn,π.bi,π.bc]
 T:last<=T
 room:aY (dJ l).length+(last-base)<=D.ao.length/4
 bdN:bd=π.bd\/sB.nx<=bd
 rN:r=r0\/sB.nx<=r
 FN:∀b∈F,b∈π.Fd\/sB.nx<=b
 kp:Kp (r0::π.all) sB s
 fresh:eM s
 rep:rj {M with dirty:=mS} D G
def PI.lP {π:PI}{b:Nat}(h:b∈π.Fd):b∈π.all:=acR
def vz {π:PI}{G Gk:GM}{T:Nat}(h:Hq π r0 M G Gk T sB s mS bd r F D base last P Ls){rec:CV}(amA:Sl s F rec 1 (aj (dJ l)))(hl:(dJ l).length<=1000000)(hT:T<=900000000)(pN:aY (dJ l).length+(last-base)<=D.ao.length/4):
 R 131 [.ptr r 0,rec] s λx s'=>(x=I 0/\∃F' D',AG π r0 M G Gk T l sB s' mS bd r F' D D' base last P Ls)\/(x=I 20/\Kp (r0::π.all) sB s'/\D.set=true/\∃F' D',cG s' π.a F' D'/\(∀b∈F',b∈π.Fd\/sB.nx<=b)/\kI D.ao (j8 (D.ao.length/4) base last last (dJ l) (aY (dJ l).length)) D'):=by
 have Cj:=h.ok.least;have Zw:=h.ok.iv;have si:=h.ok.laid.le.1;have PD:=h.T;have hp:aY (dJ l).length<=1000000:=pX
 have RC:(⟨1,D.ao.length/4,base,last,last⟩:RingM).room=(D.ao.length/4:Nat)-((last:Int)-base):=by unfold RingM.room;rw[aDv rq]
 refine(MM h.fresh h.ring h.wh h.rF h.ok.calm.dead amA hl abj aaW abm (by show last<=_;omega) (by show _<=D.ao.length/4;omega) rq (by rw[RC];omega) (by rw[h.ok.waits];simp)).mono ?_;rintro x s' ⟨res,IV,rfl,k1,⟨F',uP,nz⟩,kj⟩;have hlt:=h.qS.lt;have IU:=h.ring.1;have hn:=h.kp.nx;have Mk:=h.wh.lt
 have kk:Kp (r0::π.all) sB s':=h.kp.trans k1 λq hq=>by
  rcases aDs.1 hq with hq|hq
  .exact h.rN.imp (λe=>by simp[hq,e]) (λe=>pX)
  .exact(h.FN q hq).imp (λe=>by simp[PI.lP e]) id
 have hFB:∀b∈F',b∈π.Fd\/sB.nx<=b:=λb hb=>by
  rcases nz b hb with h1|h1
  .exact h.FN b h1
  .right;omega
 have ug:=KW (D:=D) (count:=D.ao.length/4) (base:=base) (last:=last) (top:=last) (P:=P) (rec:=dJ l) h.ok.calm (by unfold aP.BY;rw[h.ok.waits];simp) pX pX h.ok.j7 pX hp _ (aDt _);rw[show D.writes (j8 (D.ao.length/4) base last last (dJ l) (aY (dJ l).length))=res from IV]at ug;rcases ug with⟨w1,w2⟩|⟨w1,w2,w3⟩
 case inr=>
  rw[aDv (by rw[w1];decide)];rw[h.ok.waits,aDV]at w3;exact .inr ⟨rfl,kk,w2,F',_,uP,hFB,w3⟩
 rw[aDy w1]at kj;refine .inl ⟨by rw[aDy w1],F',res.2,?_,uP,h.ok,w2,h.len,h.set,h.dir,h.ph,kj,λhh=>?_,h.rP,λb hb hh=>?_,h.T,pN,h.bdN,h.rN,hFB,kk,k1.fresh h.fresh,h.rep⟩
 .exact h.qS.keep k1 λb hb hh=>by
   rcases aDs.1 hh with hh|hh
   .exact h.rP (hh▸hb)
   .exact h.Wd b hh hb
 .rcases nz r hh with h1|h1
  .exact h.rF h1
  .omega
 .rcases nz b hb with h1|h1
  .exact h.Wd b h1 hh
  .have:=hlt b hh;omega
def Dc {π:PI}{G Gk:GM}{T:Nat}(h:Hq π r0 M G Gk T sB s mS bd r F D base last P Ls)(hT:T<=900000000)(hf:M.first=1+D.ao.length/4)(qz:M.first+M.aE=D.ao.length):
 R 73 [.ptr π.p 0,I last] s λx s'=>(x=I 0/\∃bd' r' F' D',Hq π r0 M G Gk T sB s' [] bd' r' F' D' last last P [])\/(x=I 20/\Kp (r0::π.all) sB s'/\D.set=true/\∃F' D',cG s' π.a F' D'/\(∀b∈F',b∈π.Fd\/sB.nx<=b)/\Z3 D M.first mS last D'):=by
 have Cj:=h.ok.least;have Zw:=h.ok.iv;have si:=h.ok.laid.le.1;have PD:=h.T;have hlt:=h.qS.lt;have IU:=h.ring.1;have hn:=h.kp.nx;have Mk:=h.wh.lt;have RI:(mS.map (·.1)).Nodup:=iy (by rw[<-kO];exact h.qS.dirty.nd)
 have GA:mS.length<=65536:=by
  have:=lI 65536 (mS.map (·.1)) RI λx hx=>by
   obtain⟨e,he,rfl⟩:=aDR.1 hx;have:=(h.ph e he).1;omega
  rwa [aEt]at this
 refine(zn (M:={M with dirty:=mS}) h.qS h.wh h.ok.calm h.ok.waits h.fresh h.Wd (by show mS.length<=_;omega) h.ph qz hf pX pX h.ok.j7).mono ?_
 have kk:∀s',Kp (π.p::F) s s'->Kp (r0::π.all) sB s':=λs' k1=>h.kp.trans k1 λq hq=>by
  rcases aDs.1 hq with hq|hq
  .left;rw[hq];unfold PI.all;simp
  .exact(h.FN q hq).imp (λe=>by simp[PI.lP e]) id
 rintro _ s' (⟨rfl,k1,r',bd',F',D',hP',uP,oZ,X3,Cf,Ph,AM,azh,gq,nz,tO,xT⟩|⟨k1,rfl,eS,F',D',uP,nz,hs⟩)
 case inr=>
  refine .inr ⟨rfl,kk s' k1,eS,F',D',uP,λb hb=>?_,hs⟩;rcases nz b hb with h2|h2
  .exact h.FN b h2
  .right;omega
 have VM:∀j,D'.cur j=if j=0 then cU last else if j<1+D.ao.length/4 then D.cur j else (cX mS (j-(1+D.ao.length/4))).getD (D.cur j):=λj=>by rw[tO];show(if j=0 then _ else if j<M.first then _ else (cX mS (j-M.first)).getD _)=_;rw[hf]
 have adO:=h.ok.toK.settled h.dir oZ X3 Cf VM;have DN:=(adO.opened).2;rw[Cf]at DN;rw[DN]at Ph;refine .inl ⟨rfl,bd',r',F',D',hP',uP,adO,Cf.trans h.len,xT.trans h.set,λn=>rfl,rq,by rw[Cf];exact Ph,λhh=>(nz r' hh).2.1 rfl,?_,λb hb hh=>?_,h.T,.inr pX,.inr pX,λb hb=>?_,kk s' k1,k1.fresh h.fresh,?_⟩
 .have h1:=hlt π.p rq;have h2:=hlt π.bn rq;have h3:=hlt π.bi rq;have h4:=hlt π.bc rq;simp only[aDs,aEe,aEW,aEM];exact⟨pX,gq,pX,pX,pX⟩
 .have h1:=nz b hb;simp only[aDs,aEe,aEW]at hh
  have kX:∀x∈[π.p,bd,π.bn,π.bi,π.bc],b=x->False:=λx hx e=>by
   rcases h1.1 with h2|h2
   .exact h.Wd b h2 (e▸hx)
   .have:=hlt x hx;omega
  rcases hh with hh|hh|hh|hh|hh
  .exact kX π.p rq hh
  .exact h1.2.2 hh
  .exact kX π.bn rq hh
  .exact kX π.bi rq hh
  .exact kX π.bc rq hh
 .rcases(nz b hb).1 with h2|h2
  .exact h.FN b h2
  .right;omega
 .refine h.rep.congr (λn hn=>?_) rfl rfl rfl rfl rfl rfl Cf;unfold bQ.get;show(match cX M.now n with|some s=>s|none=>match cX [] n with|some s=>s|none=>D'.cur (M.first+n))=match cX M.now n with|some s=>s|none=>match cX mS n with|some s=>s|none=>D.cur (M.first+n)
  rw[VM,aDv pX,aDv pX,show M.first+n-(1+D.ao.length/4)=n from pX];cases cX M.now n with
  |some s=>rfl
  |none=>cases cX mS n<;>rfl
def Xr:∀(n:Nat) (l:List Nat),l.Nodup->(∀x∈l,x<n)->l.length<=n:=by
 intro n
 induction n with
 |zero=>
  intro l _ h;cases l with
  |nil=>simp
  |cons a r=>exact absurd (h a rq) pX
 |succ n ih=>
  intro l hn h
  by_cases hm:n∈l
  .have:=ih (l.erase n) (hn.erase n) λx hx=>by
    have h1:=(hn.mem_erase_iff).1 hx;have:=h x h1.2;omega
   rw[List.length_erase_of_mem hm]at this;omega
  .have:=ih l hn λx hx=>by
    have:=h x hx;have:x≠n:=λe=>hm (e▸hx);omega
   omega
section
variable {st st':St} {π:PI} {G Gk:GM} {T:Nat}
def AF (π:PI)(r:Nat)(G Gk:GM)(T:Nat)(st st':St):Prop:=Kp (r::π.all) st st'/\π.D.set=true/\∃F' D',cG st' π.a F' D'/\(∀b∈F',b∈π.Fd\/st.nx<=b)/\(Ux Gk π.D.ao.length T D'\/Ux G π.D.ao.length T D')
def CD (π:PI)(G Gk:GM)(T:Nat)(st:St)(v:CV)(st':St):Prop:=
 (v=I 3/\Kp [] st st'/\π.D.ao.length/8<G.used)\/(v=I 0/\∃π' r,π'.p=π.p/\π'.a=π.a/\Pg π' st' G/\jE π' st' G T/\π.lg=.ptr r 0/\(∃r',π'.lg=.ptr r' 0/\(r'=r\/st.nx<=r'))/\Kp (r::π.all) st st'/\(∀b∈π'.all,b∈π.all\/st.nx<=b)/\π'.D.ao.length=π.D.ao.length/\π'.D.set=π.D.set)\/(v=I 20/\∃r,π.lg=.ptr r 0/\AF π r G Gk T st st')
set_option maxHeartbeats 2000000 in
def Iw (h:Pg π st G)(hk:jE π st Gk T)(iw:eM st)(hT:T<=900000000)(Yf:π.D.ao.length<=8000)(Ge:G.root=0\/G.bS G.root)(hGp:G.aE=Gk.aE):R 83 [.ptr π.p 0] st (CD π G Gk (T+10000) st):=by
 obtain⟨M,hP,fP,hd,nZ,hF,Ua,hM7,VX⟩:=h;obtain⟨⟨base,last,P,Ls,r,oX,PD,zW,kj,IT,Bh⟩,YQ,hke,qA⟩:=hk;rw[zW]at hP;have hMd:∀n,cX M.dirty n=cX (cM [] Ls) n:=by rw[Ua];exact Bh
 have Cj:=oX.least;have Ce:=hP.main;have qC:M.now.length=M.count.length:=by rw[<-fP.count,aEt]
 refine bN ?_;rw[w83];rw[c8,af,ag,aDv wI,bA,br,af,ah,af,aC,Ce,ar];simp only[aDx,aDq,aDo,az]
 have TW:bj .map (.map π.bc) st=.ok (I M.count.length) st:=by
  have:=IsMap.len (.inl hP.count)
  rwa [show(tJ M.count).length=M.count.length by unfold tJ;simp]at this
 rw[TW,af,af,ah,af,aC,Ce,ar];simp only[aDx,aDo,az];refine(wY hd).same ?_
 have e8:ai .quo none true (I π.D.ao.length) (.int .i64 8) st=.ok (I ((π.D.ao.length/8:Nat):Int)) st:=by
  have e0:ai .quo none true (I π.D.ao.length) (.int .i64 8) st=.ok (I (IntKind.i64.wrap (Int.tdiv π.D.ao.length 8))) st:=rfl;have e1:Int.tdiv (π.D.ao.length:Int) 8=((π.D.ao.length/8:Nat):Int):=rfl;rw[e0,e1,bB pX]
 have egt:ai .gtr none false (I M.count.length) (I ((π.D.ao.length/8:Nat):Int)) st=.ok (.bool (decide (π.D.ao.length/8<M.count.length))) st:=AS
 rw[e8,af,egt,af];refine⟨⟨adu,adu,adu,adu⟩,adu,?_⟩;rw[ag]
 by_cases ku:π.D.ao.length/8<M.count.length
 .rw[aDz ku,aDy rfl];exact .inl ⟨rfl,Kp.refl _ _,by have:=Xr G.used M.count fP.qH λn hn=>(fP.rS n hn).2;omega⟩
 rw[aDr ku,aDv wI]
 have P5:M.m.root=0\/M.bS M.m.root:=by
  rw[fP.root];exact Ge.imp id λhu=>(fP.vn _).2 hu
 have Vu:=fP.ok.iv;have mY:=fP.ok.size
 have Ym:M.m.root<2147483648:=by
  rcases P5 with h0|h0
  .omega
  .have:=h0.2.1;rw[fP.used]at this;omega
 have ene:ai .neq (some .int) true (I M.m.root) (.int .i64 0) st=.ok (.bool (decide (M.m.root≠0))) st:=by rw[ay,fq];congr 2;by_cases h:M.m.root=0<;>simp[h]
 have Yn:∀K:CV->St->Prop,K (.bool false) st->sn 10 0 (.ptr π.p 0) st (λdv=>us (ai .neq (some .int) true dv (.int .i64 0) st) λdd=>us (aX (ak true dd) st (.ok (.ptr π.p 0) st)) λeu=>us (aX (ak true dd) st (.ok (.ptr π.p 0) st)) λef=>us (aX (ak true dd) st (dC ef st)) λdO=>us (aX (ak true dd) st (an 10 dO st)) λew=>
  jV (ak true dd) 0 ew st λeg=>eR (ak true dd) st (λk=>R 101 [eu,eg] st k) λeh s2=>us (aX (ak true dd) s2 (kF .not eh s2)) λeB=>us (bf dd eB (.bool false) s2) λdP=>K dP s2):=by
  intro K hK;simp only[sn,br,ah,af,aC,Ce,ar,aDx,Nat.reduceAdd,aDq,aDo,az,ene]
  by_cases h0:M.m.root=0
  .simp only[h0,ne_eq,not_true_eq_false,aEY,aL,aDQ,cH,af,jV,oS,aJ,aDp,aDE];exact hK
  .have hu:=P5.resolve_left h0;simp only[h0,ne_eq,not_false_eq_true,aEq,aL,aDQ,bp,af,jV,br,ah,aC,Ce,ar,aDx,Nat.reduceAdd,aDq,aDo,az,eE];refine(vm hP _).same ?_;simp only[hu,aEq,cN,aDJ,af,aJ,aDQ];exact hK
 refine Yn (λdP s2=>aA dP _ _) ?_;rw[ag,aDv wI,bA,br,af,ah,af,aC,Ce,ar];simp only[aDx,aDq,aDo,az];rw[af,ah,af,gM (n:=4) Ce rq,af];have ayN:=lI G.used G.fr fP.ok.nd λx hx=>(fP.ok.fr x hx).2
 have hhd:G.fr.headD 0<=65536:=by
  cases hf:G.fr with
  |nil=>simp
  |cons n r=>have:=(fP.ok.fr n (by rw[hf];simp)).2;simp;omega
 have YF:∀n∈lU M.m,n<9223372036854775808:=by
  intro n hn;have q1:=fP.used;have q2:=fP.head;have q3:=fP.free;simp only[lU,aDs,aEe,aEW]at hn;rcases hn with rfl|rfl|rfl|rfl<;>omega
 refine(DB (m:=M.m) YF).mono ?_;rintro _ s3 ⟨rfl,k3⟩;have P4:=hP.keep k3 rq;have hm3:=P4.main;obtain⟨blk,u1,u2,u3⟩:=IsMap.update (.inl P4.now) 0 (.agg (aj (bL M.m)));have u4:=u3 P4.now
 have u5:dt (St.set s3 π.bn blk) π.bn (gE (gW M.now 0 (bL M.m))):=by
  have:=vx M.now 0 (bL M.m);rw[<-this];exact u4
 rw[show eC .int (.map π.bn) (.int .i64 0) (.agg (aj (bL M.m))) s3=.ok .undef (St.set s3 π.bn blk)from u1,aT,aC,hm3,ar];refine⟨⟨⟨rfl,adu⟩,adu,adu⟩,adu,?_⟩;have nd:=hP.nd;simp only[aDG,aDs,aEe,aEW,aEM]at nd;obtain⟨⟨m1,m2,m3,m4⟩,⟨m5,m6,m7⟩,⟨m8,m9⟩,m10,_⟩:=nd;have afe:=P4.lt π.bn rq
 have RM:cC (St.set s3 π.bn blk) π.p π.a (.ptr r 0) {M with now:=gW M.now 0 (bL M.m)} π.bd π.bn π.bi π.bc:=
  ⟨(al _ _ _ _ m2).trans hm3,P4.dirty.mono (al _ _ _ _ m5),u5,P4.idle.mono (al _ _ _ _ (aEr m8)),P4.count.mono (al _ _ _ _ (aEr m9)),hP.nd,P4.lt,hP.lgs⟩
 have k4:Kp [π.bn] st (St.set s3 π.bn blk):=(k3.mono rq).set _ (.inl rq) afe;generalize St.set s3 π.bn blk=s4 at*;have hm4:=RM.main;have aod:=k4.fresh iw
 have V2:0∉M.now.map (·.1):=λhh=>by
  rw[fP.count]at hh;have:=(fP.rS 0 hh).1;omega
 have hNe:=SI (s:=bL M.m) V2;generalize hN:gW M.now 0 (bL M.m)=N at*;have hNl:N.length=M.now.length+1:=by rw[hNe];simp
 have Jg:M.aE=π.D.ao.length-1-π.D.ao.length/4:=by
  have a1:=fP.aE;have a2:π.D.ao.length-1-π.D.ao.length/4=Gk.aE:=oX.rep.aE;omega
 have RO:M.first=1+π.D.ao.length/4:=by rw[VX,YQ]
 have KD:∀n∈N.map (·.1),∃s,cX N n=some s/\n<=100000/\n<M.aE/\s.length=512:=λn hn=>by
  have hg:cX N n=if n=0 then some (bL M.m)else cX M.now n:=by rw[<-hN,pD]
  by_cases h0:n=0
  .rw[aDy h0]at hg;have h1:=fP.ok.one;exact⟨_,hg,pX,by have:=fP.aE;omega,gP _⟩
  .rw[aDv h0]at hg;rw[hNe,aEC,aDB]at hn
   have Cc:n∈M.now.map (·.1):=by
    rcases hn with h1|h1
    .exact h1
    .exact absurd Wx h0
   cases hp:cX M.now n with
   |none=>exact absurd Cc (l7.1 hp)
   |some s=>
    rw[hp]at hg;rw[fP.count]at Cc;have h2:=fP.rS n Cc;have h3:=fP.len n h2.2;have h4:M.get π.D n=s:=by unfold bQ.get;rw[hp]
    rw[h4]at h3;exact⟨s,hg,pX,by have:=fP.aE;omega,h3⟩
 have aeP:∀{K:CV->Prop},K (.map π.bn)->eW 5 (.ptr π.p 0) s4 K:=λ{K} hK=>by
  rw[eW,br,af,ah,af,aC,hm4,ar];exact hK
 rw[cK];refine aeP ?_;refine Kc.mono ?_;rintro _ tL ⟨rfl,g28,XS,n28⟩;have apd:=RM.keep XS rq;refine(Bx (L:=N) g28 (.inl apd.now) (by rw[hNl];omega) (λn hn=>by obtain⟨_,_,h1,_⟩:=KD n hn;omega)).mono ?_;intro x Hy Gl;have k29:=Gl.kp;have UD:=XS.trans k29 rq;have afv:=RM.keep UD rq;have aeJ:=UD.fresh aod;have hNn:(N.map (·.1)).Nodup:=iy (by rw[<-kO];exact RM.now.nd);have ayr:(nL (N.map (·.1))).length=N.length:=by rw[wM,aEt]
 have TH:=xD hNn;have Kj:=Gl.sl [] rq;have TG:∀n,n∈nL (N.map (·.1))↔n∈N.map (·.1):=λn=>sQ;generalize mc:nL (N.map (·.1))=ks at*;rw[Kj.len ks.length rq pX Hy,af];simp only[aH,aI];refine SE (M:=M) (N:=N) afv aeJ (λs hs=>Kj.mono hs) ⟨λn hn=>?_⟩ pX ?_
 .obtain⟨s,q1,q2,_,q4⟩:=KD n ((TG n).1 hn);exact⟨s,q1,q2,q4⟩
 intro s rec YP xf;simp only[aH,aI];have zV:=mH N ks;have hll:(dK N ks).length=ks.length:=by unfold dK;simp
 have Pw:∀e∈dK N ks,e.1<M.aE/\e.2.length=512:=λe he=>by
  unfold dK at he;obtain⟨n,hn,rfl⟩:=aDR.1 he;obtain⟨s',q1,q2,q3,q4⟩:=KD n ((TG n).1 hn);simp only[q1,aFa];exact⟨q3,q4⟩
 have Vx:∀n,cX (dK N ks) n=if n=0 then some (bL M.m)else cX M.now n:=λn=>by
  have hg:cX N n=if n=0 then some (bL M.m)else cX M.now n:=by rw[<-hN,pD]
  rw[<-hg]
  have key:∀js:List Nat,cX (dK N js) n=if n∈js then some ((cX N n).getD [])else none:=by
   intro js
   induction js with
   |nil=>rfl
   |cons j js ih=>
    show(if n=j then some ((cX N j).getD [])else cX (dK N js) n)=_
    by_cases hj:n=j
    .subst hj;rw[aDy rfl,aDy rq]
    .rw[aDv hj,ih];simp only[aDs,hj,false_or]
  rw[key]
  by_cases hn:n∈ks
  .rw[aDy hn];obtain⟨s',q1,_⟩:=KD n ((TG n).1 hn);rw[q1];rfl
  .rw[aDv hn];exact(l7.2 λhh=>hn ((TG n).2 hh)).symm
 have ast:=JM _ λe he=>by have:=Pw e he;omega
 have RD:aY (dJ (dK N ks)).length<=π.D.ao.length/4:=by
  have h1:(dK N ks).length<=π.D.ao.length/8+1:=pX
  generalize (dJ (dK N ks)).length=X at*;unfold aY
  split<;>omega
 have Yo:(dJ (dK N ks)).length<=1000000:=pX
 generalize hl:dK N ks=l at*;have xY:=afv.keep YP rq;have Cd:=xY.main
 have Y3:∀{K:CV->Prop},K (.map π.bn)->eW 5 (.ptr π.p 0) s K:=λ{K} hK=>by
  rw[eW,br,af,ah,af,aC,Cd,ar];exact hK
 refine Y3 ?_;obtain⟨bY,d1,d2,d3⟩:=xY.now.delete 0;rw[show oL .int (.map π.bn) (.int .i64 0) s=.ok .undef bY from d1,aT]
 have d4:dt bY π.bn (gE M.now):=by
  have e:qp (gE N) 0=gE M.now:=by rw[<-hN];exact Oi V2
  rw[<-e];exact d3
 have aff:=xY.lt π.bn rq
 have rm:Kp [π.bn] s bY:=by
  rcases d2 with rfl|⟨blk,rfl⟩
  .exact Kp.refl _ _
  .exact(Kp.refl _ s).set _ (.inl rq) aff
 have kk:∀q∈[π.p,π.bd,π.bn,π.bi,π.bc],q≠π.bn->bY.m.g q=s.m.g q:=λq hq gq=>rm.keep q (xY.lt q hq) aaO
 have Jf:cC bY π.p π.a (.ptr r 0) {M with dirty:=M.dirty} π.bd π.bn π.bi π.bc:=
  ⟨(kk π.p rq (aEr (aEr m2))).trans Cd,xY.dirty.mono (kk π.bd rq m5),d4,xY.idle.mono (kk π.bi rq (aEr m8)),xY.count.mono (kk π.bc rq (aEr m9)),hP.nd,λb hb=>aDM (xY.lt b hb) rm.nx,hP.lgs⟩
 have UE:=((k4.trans UD rq).trans YP rq).trans rm adt;have aoJ:∀b∈π.Fd,b∉[π.bn]:=λb hb hh=>hF b hb adl;have TU:=hd.keep UE aoJ;have amE:r≠π.bn:=λe=>IT acS;have DL:=kj.keep UE (by simpa using amE);have aeN:=UE.fresh iw;have MW:=rm.nx
 have IW:Hq π r M G Gk T bY bY M.dirty π.bd r π.Fd π.D base last P Ls:=
  ⟨Jf,TU,oX,rfl,rfl,hMd,λe he=>by rw[Jg];exact hke e (by rw[<-Ua];exact he),DL,λhh=>IT (PI.lP hh),λhh=>IT (by unfold PI.all;simp at hh⊢;rcases hh with h|h|h|h|h<;>simp[h]),hF,PD,.inl rfl,.inl rfl,adt,Kp.refl _ _,aeN,fP⟩
 obtain⟨Fr,own,P7⟩:=xf;have n29:=UD.nx;have n4:=k4.nx;have nks:=YP.nx;have acu:=own.keep rm λb hb=>⟨(P7 b hb).2,by have:=(P7 b hb).1;have:=hP.lt π.bn rq;simp;omega⟩
 have Pk:∀(s':St) (F':List Nat),Kp (r::π.all) bY s'->(∀b∈F',b∈π.Fd\/bY.nx<=b)->Sl s' F' rec 1 (aj (dJ l)):=λs' F' u7 nz=>by
  have jW:∀b∈Fr,st.nx<=b/\b<bY.nx:=λb hb=>by have:=P7 b hb;omega
  have IU:=kj.1
  have fk:∀b∈Fr,b∉r::π.all:=λb hb hh=>by
   have h1:=jW b hb;rcases aDs.1 hh with hh|hh
   .omega
   .have:b<st.nx:=by
     unfold PI.all at hh;simp only[aDs]at hh;rcases hh with hh|hh|hh|hh|hh|hh
     .rw[hh];exact hP.lt _ rq
     .rw[hh];exact hP.lt _ rq
     .rw[hh];exact hP.lt _ rq
     .rw[hh];exact hP.lt _ rq
     .rw[hh];exact hP.lt _ rq
     .exact hd.lt b hh
    omega
  have OM:=acu.keep u7 λb hb=>⟨(jW b hb).2,fk b hb⟩;have nk':=u7.nx
  exact OM.sl λb hb=>⟨λhh=>by
   have h1:=jW b hb;rcases nz b hh with h2|h2
   .exact fk b hb (by simp[PI.lP h2])
   .omega,by have:=jW b hb;omega⟩
 have TD:=Jf.main
 have VF:∀{K:CV->Prop},K (.ptr r 0)->eW 1 (.ptr π.p 0) bY K:=λ{K} hK=>by
  rw[eW,br,af,ah,af,aC,TD,ar];exact hK
 refine VF ?_
 have Zf:∀{s':St} {mS:List dN} {bd' r':Nat} {F':List Nat} {D':aP} {base' last':Nat} {P':Nat->Piece} {HK:List (List dN)},D'.ao.length=π.D.ao.length->(∀n,cX mS n=cX (cM [] HK) n)->rj {M with dirty:=mS} D' G->wB D' G {M with dirty:=mS} l HK:=λ{s' mS bd' r' F' D' base' last' P' HK} mZ aeX Pj=>
  ⟨Pj,by show M.first=_;rw[RO,mZ],by show M.aE=_;rw[Jg,mZ],aeX,by rw[<-hl,mH];exact TH,Vx,Pw,Yo,Ym⟩
 have axU:aY (dJ l).length<=2000:=pX
 have dead:∀{s0 s':St} {mS:List dN} {bd' r':Nat} {F':List Nat} {D':aP} {base' last':Nat} {P':Nat->Piece} {HK:List (List dN)},Hq π r M G Gk T bY s0 mS bd' r' F' D' base' last' P' HK->aY (dJ l).length+(last'-base')<=D'.ao.length/4->Kp (r::π.all) bY s'->D'.set=true->
  (∃F2 D2,cG s' π.a F2 D2/\(∀b∈F2,b∈π.Fd\/bY.nx<=b)/\kI D'.ao (j8 (D'.ao.length/4) base' last' last' (dJ l) (aY (dJ l).length)) D2)->AF π r G Gk (T+10000) bY s':=by
  rintro s0 s' mS bd' r' F' D' base' last' P' HK hR pN u7 eS ⟨F2,D2,AN,vd,TV⟩;have hT':=hR.T;refine⟨u7,by rw[<-hR.set];exact eS,F2,D2,AN,vd,?_⟩;rcases hR.ok.abO (Zf (s':=s') (bd':=bd') (r':=r') (F':=F') (base':=base') (last':=last') (P':=P') hR.len hR.dir hR.rep) pX pN TV with⟨top,P2,hK,amf⟩|⟨P2,hK⟩
  .exact .inl ⟨TV.dead,by rw[TV.len];exact hR.len,_,_,_,_,_,_,hK,pX⟩
  .exact .inr ⟨TV.dead,by rw[TV.len];exact hR.len,_,_,_,_,_,_,hK,pX⟩
 have PW:R 131 [.ptr r 0,rec] bY λx s'=>(x=I 0/\∃mS bd r' F D D' base last P Ls,AG π r M G Gk T l bY s' mS bd r' F D D' base last P Ls)\/(x=I 3/\s'=bY)\/(x=I 20/\AF π r G Gk (T+10000) bY s'):=by
  by_cases pN:aY (dJ l).length+(last-base)<=π.D.ao.length/4
  .refine(vz IW (Pk bY π.Fd (Kp.refl _ _) adt) Yo pX pN).mono ?_;rintro x s' (⟨rfl,F',D',hA⟩|⟨rfl,u7,eS,hx⟩)
   .exact .inl ⟨rfl,_,_,_,_,_,_,_,_,_,_,hA⟩
   .exact .inr (.inr ⟨rfl,dead IW pN u7 eS hx⟩)
  .have RC:(⟨1,π.D.ao.length/4,base,last,last⟩:RingM).room=(π.D.ao.length/4:Nat)-((last:Int)-base):=by unfold RingM.room;rw[aDv rq]
   have si:=oX.laid.le.1;refine(Hg (X:=[]) DL TU nZ ((Pk bY π.Fd (Kp.refl _ _) adt).dz rq) pX (by show π.D.ao.length/4<=_;omega) abm (by show last<=_;omega) RD rq (by rw[RC];omega)).mono ?_;rintro x s' ⟨rfl,rfl⟩;exact .inr (.inl ⟨rfl,rfl⟩)
 refine PW.mono ?_;intro qP ey alW;have ZQ:∀s,ai .eql (some .int) true (I 20) (.int .i64 3) s=.ok (.bool false) s:=λs=>rfl;have Mz:∀s,ai .eql (some .int) true (I 20) (.int .i64 0) s=.ok (.bool false) s:=λs=>rfl;have RR:∀s,ai .neq (some .int) true (I 20) (.int .i64 0) s=.ok (.bool true) s:=λs=>rfl
 have fin:∀s',AF π r G Gk (T+10000) bY s'->CD π G Gk (T+10000) st (I 20) s':=λs' ⟨a1,a2,F',D',a3,a4,a5⟩=>by
  have q1:Kp (r::π.all) st bY:=UE.mono (by intro q hq;left;simp at hq;subst hq;unfold PI.all;simp);have:=UE.nx;exact .inr (.inr ⟨rfl,r,zW,q1.trans a1 adt,a2,F',D',a3,λb hb=>(a4 b hb).imp id λh=>pX,a5⟩)
 refine iN (λvs s=>(vs=[.ptr π.p 0,I 0]/\∃mS bd r' F D D' base last P Ls,AG π r M G Gk T l bY s mS bd r' F D D' base last P Ls)\/(vs=[.ptr π.p 0,I 20]/\AF π r G Gk (T+10000) bY s)) ?_ ?_
 .intro k48 I6;rcases alW with⟨rfl,hA⟩|⟨rfl,rfl⟩|⟨rfl,hx⟩
  .have e3:ai .eql (some .int) true (I 0) (.int .i64 3) ey=.ok (.bool false) ey:=rfl;rw[e3,af,ag,aDv wI];exact I6 _ _ (.inl ⟨rfl,hA⟩)
  .have e3:ai .eql (some .int) true (I 3) (.int .i64 3) ey=.ok (.bool true) ey:=rfl;rw[e3,af,ag,aDy rfl];refine VF ?_;refine(NH DL).same ?_;refine(Dc IW pX RO (by rw[RO,Jg];omega)).mono ?_;rintro _ za (⟨rfl,bd',r',F',D',hR⟩|⟨rfl,u7,eS,F',D',uP,nz,hs⟩)
   .have e0:ai .eql (some .int) true (I 0) (.int .i64 0) za=.ok (.bool true) za:=rfl;rw[e0,af,ag,aDy rfl];have ang:=hR.qS.main
    have Y4:∀{K:CV->Prop},K (.ptr r' 0)->eW 1 (.ptr π.p 0) za K:=λ{K} hK=>by
     rw[eW,br,af,ah,af,aC,ang,ar];exact hK
    refine Y4 ?_;refine(vz hR (Pk za F' hR.kp hR.FN) Yo pX (by rw[hR.len];omega)).mono ?_;rintro x ua (⟨rfl,F2,D2,hA⟩|⟨rfl,u7,eS,hx⟩)
    .exact I6 _ _ (.inl ⟨rfl,_,_,_,_,_,_,_,_,_,_,hA⟩)
    .exact I6 _ _ (.inr ⟨rfl,dead hR (by rw[hR.len];omega) u7 eS hx⟩)
   .rw[Mz,af,ag,aDv wI];rw[RO]at hs;obtain⟨b2,l2,Ls2,hK⟩:=oX.toK.agw hMd hs;exact I6 _ _ (.inr ⟨rfl,u7,eS,F',D',uP,nz,.inl ⟨hs.dead,hs.len,b2,l2,_,_,Ls2,_,hK,pX⟩⟩)
  .rw[ZQ,af,ag,aDv wI];exact I6 _ _ (.inr ⟨rfl,hx⟩)
 .rintro _ fj (⟨rfl,mS,bd',r',F',D',D2,base',last',P',HK,hA⟩|⟨rfl,hx⟩)
  case inr=>
   rw[cK];simp only[aH,aI];rw[Mz,af,ag,aDv wI,RR,af,ag,aDy rfl];exact fin _ hx
  rw[cK];simp only[aH,aI];have e0:∀s,ai .eql (some .int) true (I 0) (.int .i64 0) s=.ok (.bool true) s:=λs=>rfl;have e2:∀s,ai .neq (some .int) true (I 0) (.int .i64 0) s=.ok (.bool false) s:=λs=>rfl;have YI:=hA.qS.main;rw[e0,af,ag,aDy rfl]
  have Y5:∀{K:CV->Prop},K (.ptr r' 0)->eW 1 (.ptr π.p 0) fj K:=λ{K} hK=>by
   rw[eW,br,af,ah,af,aC,YI,ar];exact hK
  refine Y5 ?_;have mZ:=hA.len;refine(Sr hA.ring hA.wh (by rw[hA.wrote.waits,hA.ok.waits];simp[j8];omega)).mono ?_;rintro _ iT ⟨rfl,py,F3,Jc,yn⟩;rcases hA.wrote.calm.flush hA.wrote.BY with⟨f1,f2,f3,f4,f5,f6⟩|⟨f1,f2,f3⟩
  case inr=>
   rw[aDv (by rw[f1];decide),RR,af,ag,aDy rfl];rw[hA.wrote.set,hA.set]at f2;rw[hA.wrote.ao,hA.wrote.waits,hA.ok.waits,aDV]at f3;have hT':=hA.T;refine fin _ ⟨hA.kp.trans py λq hq=>(hA.FN q hq).imp (λh=>by simp[PI.lP h]) id,f2,F3,_,Jc,λb hb=>?_,?_⟩
   .rcases yn b hb with h1|h1
    .exact hA.FN b h1
    .have:=hA.kp.nx;right;omega
   .rcases hA.ok.abO (Zf (s':=fj) (bd':=bd') (r':=r') (F':=F') (base':=base') (last':=last') (P':=P') mZ hA.dir hA.rep) pX hA.room f3 with⟨top,P2,hK,amf⟩|⟨P2,hK⟩
    .exact .inl ⟨f3.dead,by rw[f3.len];exact mZ,_,_,_,_,_,_,hK,pX⟩
    .exact .inr ⟨f3.dead,by rw[f3.len];exact mZ,_,_,_,_,_,_,hK,pX⟩
  have Mk:=hA.wh.lt;have xe:=hA.qS.lt;have tP:=hA.qS.keep py λb hb hh=>hA.Wd b hh hb;have Kl:=hA.ring.keep py hA.rF;have Vs:=hA.ok.ZV (Zf (s':=fj) (bd':=bd') (r':=r') (F':=F') (base':=base') (last':=last') (P':=P') mZ hA.dir hA.rep) hA.room hA.wrote f1;rw[aDy f1,e2,af,ag,aDv wI,bA];have anl:=tP.main;have n14:=hA.kp.nx;have n15:=py.nx;have Kt:iT.m.g π.p=some (.cells [.ptr π.a 0,.ptr r' 0,I M.first,I M.aE,.map bd',.map π.bn,I M.kept.root,I M.kept.used,I M.kept.head,I M.kept.free,I M.m.root,I M.m.used,I M.m.head,I M.m.free,.map π.bi,.map π.bc] 158 false):=anl;have ndA:=hA.qS.nd;simp only[aDG,aDs,aEe,aEW,aEM]at ndA;obtain⟨⟨v1,v2,v3,v4⟩,⟨v5,v6,v7⟩,⟨v8,v9⟩,v10,_⟩:=ndA;have aeT:(mS.map (·.1)).Nodup:=iy (by rw[<-kO];exact tP.dirty.nd)
  have asW:mS.length<=65536:=by
   have:=lI 65536 (mS.map (·.1)) aeT λx hx=>by
    obtain⟨e,he,rfl⟩:=aDR.1 hx;have:=(hA.ph e he).1;omega
   rwa [aEt]at this
  have adS:(M.now.map (·.1)).Nodup:=by rw[fP.count];exact fP.qH
  have Pr:∀e∈M.now,e.1<M.aE/\e.2.length=512:=λe he=>by
   have h1:=Fp adS he;have h2:e.1∈M.count:=by rw[<-fP.count];exact aEA he
   have h3:=fP.rS _ h2;have h4:=fP.len e.1 h3.2;have h5:M.get π.D e.1=e.2:=by unfold bQ.get;rw[h1]
   rw[h5]at h4;exact⟨by have:=fP.aE;omega,h4⟩
  rw[br,af,ah,af,aC,Kt,ar];simp only[aDx,aDq,aDo,az];rw[af,ah,af,aC,Kt,ar];simp only[aDx,aDq,aDo,az]
  have aoE:∀n∈mS.map (·.1),n<=1000000:=λn hn=>by
   obtain⟨e,he,PK⟩:=aDR.1 hn;have h1:=(hA.ph e he).1;rw[<-PK];omega
  have aoD:∀n∈M.now.map (·.1),n<=1000000:=λn hn=>by
   obtain⟨e,he,PK⟩:=aDR.1 hn;have h1:=(Pr e he).1;rw[<-PK];omega
  have aoA:mS.length<=1000000:=pX
  have Zd:M.now.length<=1000000:=pX
  have aoC:=λe he=>(Pr e he).2;have aoz:=tP.lt bd' rq;have RK:IsMap iT bd' (gE mS):=tP.dirty;have hcn:IsMap iT π.bn (gE M.now):=.inl tP.now;refine(Up RK hcn v5 aoA aoE Zd aoD aoC aoz).mono ?_;rintro _ cO ⟨FY,n16,hdm⟩;refine⟨⟨adu,adu,adu⟩,adu,?_⟩;have alK:∀q∈[π.p,bd',π.bn,π.bi,π.bc],q≠bd'->cO.m.g q=iT.m.g q:=λq hq gq=>FY.keep q (tP.lt q hq) aaO;have YH:=(alK π.p rq v1).trans Kt;rw[bA,br,af,ah,af,aC,YH,ar];simp only[aDx,aDq,aDo,az];rw[af,ah,af,gM (n:=4) YH rq,af];refine(DB (m:=M.m) YF).mono ?_;rintro _ lp ⟨rfl,Er⟩;have aeW:=hdm.mono (Er.keep bd' (by have:=tP.lt bd' rq;omega) rq);have ank:=(Er.keep π.p (by have:=tP.lt π.p rq;omega) rq).trans YH;obtain⟨QT,w1,w2,_⟩:=IsMap.update aeW 0 (.agg (aj (bL M.m)))
  have w3:IsMap (St.set lp bd' QT) bd' (gE (gW (nR mS M.now) 0 (bL M.m))):=by
   have:=vx (nR mS M.now) 0 (bL M.m);rw[<-this];exact w2
  rw[show eC .int (.map bd') (.int .i64 0) (.agg (aj (bL M.m))) lp=.ok .undef (St.set lp bd' QT)from w1,aT,aC,ank,ar];refine⟨⟨⟨rfl,adu⟩,adu,adu⟩,adu,?_⟩;have n17:=Er.nx;have afm:bd'<lp.nx:=by have:=tP.lt bd' rq;omega
  have Rx:Kp [bd'] lp (St.set lp bd' QT):=(Kp.refl _ lp).set _ (.inl rq) afm;have Wj:=(FY.trans Er rq).trans Rx adt;have n18:(St.set lp bd' QT).nx=lp.nx:=rfl;generalize St.set lp bd' QT=dj at*;have alJ:∀q∈[π.p,bd',π.bn,π.bi,π.bc],q≠bd'->dj.m.g q=iT.m.g q:=λq hq gq=>Wj.keep q (tP.lt q hq) aaO;have aec:=(alJ π.p rq v1).trans Kt
  have aeO:∀{K:CV->Prop},K (.agg [I M.m.root,I M.m.used,I M.m.head,I M.m.free])->Ah 4 10 (.ptr π.p 0) dj K:=λ{K} hK=>by
   unfold Ah;rw[br,af,ah,af,gM (n:=4) aec rq,af];exact hK
  refine aeO ?_;rw[ju,aT,ju,aT];have y1:(St.new dj (.map [] 0)).nx=dj.nx+1:=rfl;have y2:(St.new (St.new dj (.map [] 0)) (.map [] 0)).nx=dj.nx+2:=rfl;rw[y1];have IP:Kp [] dj (St.new (St.new dj (.map [] 0)) (.map [] 0)):=((Kp.refl [] dj).new _).new _;have z1:dt (St.new (St.new dj (.map [] 0)) (.map [] 0)) dj.nx []:=(dt.new dj).mono (by rw[ba _ _ _ rq]);have z2:dt (St.new (St.new dj (.map [] 0)) (.map [] 0)) (dj.nx+1) []:=dt.new (St.new dj (.map [] 0));generalize St.new (St.new dj (.map [] 0)) (.map [] 0)=jm at*;have amP:π.p<dj.nx:=by have:=tP.lt π.p rq;omega
  have anh:=(IP.keep π.p amP rq).trans aec;have ri:bo [.ptr π.a 0,.ptr r' 0,I M.first,I M.aE,.map bd',.map π.bn,I M.kept.root,I M.kept.used,I M.kept.head,I M.kept.free,I M.m.root,I M.m.used,I M.m.head,I M.m.free,.map π.bi,.map π.bc] 6 [I M.m.root,I M.m.used,I M.m.head,I M.m.free]=[.ptr π.a 0,.ptr r' 0,I M.first,I M.aE,.map bd',.map π.bn,I M.m.root,I M.m.used,I M.m.head,I M.m.free,I M.m.root,I M.m.used,I M.m.head,I M.m.free,.map π.bi,.map π.bc]:=rfl;have ko:bo [.ptr π.a 0,.ptr r' 0,I M.first,I M.aE,.map bd',.map π.bn,I M.m.root,I M.m.used,I M.m.head,I M.m.free,I M.m.root,I M.m.used,I M.m.head,I M.m.free,.map π.bi,.map π.bc] 5 [.map dj.nx]=[.ptr π.a 0,.ptr r' 0,I M.first,I M.aE,.map bd',.map dj.nx,I M.m.root,I M.m.used,I M.m.head,I M.m.free,I M.m.root,I M.m.used,I M.m.head,I M.m.free,.map π.bi,.map π.bc]:=rfl;have DM:bo [.ptr π.a 0,.ptr r' 0,I M.first,I M.aE,.map bd',.map dj.nx,I M.m.root,I M.m.used,I M.m.head,I M.m.free,I M.m.root,I M.m.used,I M.m.head,I M.m.free,.map π.bi,.map π.bc] 15 [.map (dj.nx+1)]=[.ptr π.a 0,.ptr r' 0,I M.first,I M.aE,.map bd',.map dj.nx,I M.m.root,I M.m.used,I M.m.head,I M.m.free,I M.m.root,I M.m.used,I M.m.head,I M.m.free,.map π.bi,.map (dj.nx+1)]:=rfl
  have Kk:∀{s:St} {l l':List CV} {K:St->Prop},s.m.g π.p=some (.cells l 158 false)->10<=l.length->bo l 6 [I M.m.root,I M.m.used,I M.m.head,I M.m.free]=l'->K (St.set s π.p (.cells l' 158 false))->lD 4 6 (.ptr π.p 0) (.agg [I M.m.root,I M.m.used,I M.m.head,I M.m.free]) s K:=by
   intro s l l' K hg h3 h4 hK;simp only[lD,br,ah,af,aF,hg,aS,aV,aDx,h4];exact⟨⟨rfl,rfl,pX⟩,hK⟩
  have Vg:∀{s:St} {l l':List CV} {o b:Nat} {K:St->Prop},s.m.g π.p=some (.cells l 158 false)->o<l.length->bo l o [.map b]=l'->K (St.set s π.p (.cells l' 158 false))->lD 1 o (.ptr π.p 0) (.map b) s K:=by
   intro s l l' o b K hg h3 h4 hK;have Ts:(CV.map b).cA=[.map b]:=rfl;simp only[lD,br,ah,af,aF,hg,aS,Ts,aDx,h4];exact⟨⟨rfl,rfl,h3⟩,hK⟩
  refine Kk anh rq ri ?_;refine Vg (aq _ _ _) rq ko ?_;rw[set_set];refine Vg (aq _ _ _) rq DM ?_;rw[set_set];have zS:=tP.lt;have KB:=zS π.p rq;have HH:=zS bd' rq;have hb3:=zS π.bn rq;have hb4:=zS π.bi rq;have hb5:=zS π.bc rq;have n20:=IP.nx;have Hz:Kp [π.p] jm (St.set jm π.p (.cells [.ptr π.a 0,.ptr r' 0,I M.first,I M.aE,.map bd',.map dj.nx,I M.m.root,I M.m.used,I M.m.head,I M.m.free,I M.m.root,I M.m.used,I M.m.head,I M.m.free,.map π.bi,.map (dj.nx+1)] 158 false)):=(Kp.refl _ jm).set _ (.inl rq) pX;have Zz:(St.set jm π.p (.cells [.ptr π.a 0,.ptr r' 0,I M.first,I M.aE,.map bd',.map dj.nx,I M.m.root,I M.m.used,I M.m.head,I M.m.free,I M.m.root,I M.m.used,I M.m.head,I M.m.free,.map π.bi,.map (dj.nx+1)] 158 false)).m.g π.p=some (.cells [.ptr π.a 0,.ptr r' 0,I M.first,I M.aE,.map bd',.map dj.nx,I M.m.root,I M.m.used,I M.m.head,I M.m.free,I M.m.root,I M.m.used,I M.m.head,I M.m.free,.map π.bi,.map (dj.nx+1)] 158 false):=aq _ _ _;have n21:(St.set jm π.p (.cells [.ptr π.a 0,.ptr r' 0,I M.first,I M.aE,.map bd',.map dj.nx,I M.m.root,I M.m.used,I M.m.head,I M.m.free,I M.m.root,I M.m.used,I M.m.head,I M.m.free,.map π.bi,.map (dj.nx+1)] 158 false)).nx=jm.nx:=rfl;generalize St.set jm π.p (.cells [.ptr π.a 0,.ptr r' 0,I M.first,I M.aE,.map bd',.map dj.nx,I M.m.root,I M.m.used,I M.m.head,I M.m.free,I M.m.root,I M.m.used,I M.m.head,I M.m.free,.map π.bi,.map (dj.nx+1)] 158 false)=fD at*;have Wi:=(IP.mono rq).trans Hz adt;have KS:Kp [π.p,bd'] iT fD:=(Wj.mono rq).trans Wi rq;have VG:=w3.mono (Wi.keep bd' pX (by simp;exact aEr v1));have afj:dt fD π.bi (tJ M.idle):=tP.idle.mono (KS.keep π.bi hb4 (by simp;exact⟨aEr v3,aEr v6⟩));have aiu:=z1.mono (Hz.keep dj.nx pX AI);have ait:=z2.mono (Hz.keep (dj.nx+1) pX AI)
  have VH:∀n,cX (gW (nR mS M.now) 0 (bL M.m)) n=cX (cM [] (HK++[l])) n:=λn=>by
   rw[pD,LF,qi,BG l _ n (by rw[<-hl,mH];exact TH),Vx,<-hA.dir]
   by_cases h0:n=0
   .rw[aDy h0,aDy h0];rfl
   .rw[aDv h0,aDv h0]
  have Gp:=f3.trans ((congrArg List.length hA.wrote.ao).trans mZ);have Vl:=Vs.rep;rw[Gp]at Vl
  have adI:=(Vl.congr (M':=⟨M.first,M.aE,gW (nR mS M.now) 0 (bL M.m),[],M.m,M.m,G.fr,[]⟩) (D':=D2.flush.2) (λn _=>by
   rw[gp];show(ki M.first M.aE (gW (nR mS M.now) 0 (bL M.m)) M.m G.fr).get _ n=_;rw[gp,VH,RO]) Jg rfl rfl rfl rfl RO rfl).Xm M.idle fP.idle fP.xS
  have asX:∀b∈F3,(b∈D'.ao.map (λ_=>0)\/True)->b∈F'\/fj.nx<=b:=λb hb _=>yn b hb;have IY:=hA.qS.lt
  have afG:∀b∈F3,b∉[π.p,bd',π.bi]/\b<iT.nx:=λb hb=>by
   refine⟨λhh=>?_,Jc.lt b hb⟩;rcases yn b hb with h1|h1
   .exact hA.Wd b h1 (by simp at hh⊢;rcases hh with hh|hh|hh<;>simp[hh])
   .have h2:b<fj.nx:=by
     simp only[aDs,aEe,aEW]at hh;rcases hh with hh|hh|hh
     .rw[hh];exact IY _ rq
     .rw[hh];exact IY _ rq
     .rw[hh];exact IY _ rq
    omega
  have amy:=Kl.1;have hrP:=hA.rP;simp only[aDs,aEe,aEW,aEM]at hrP;have Tt:=Kl.keep KS (by simp;exact⟨hrP.1,hrP.2.1⟩);have aot:=Jc.keep KS λb hb hh=>(afG b hb).1 (by simp at hh⊢;rcases hh with hh|hh<;>simp[hh]);have aom:=iy (by rw[<-kO];exact VG.nd)
  have aeS:∀e∈gW (nR mS M.now) 0 (bL M.m),e.1<M.aE/\e.2.length=512:=λe he=>by
   rcases Fj he with h1|h1
   .unfold nR at h1;rcases aDB.1 h1 with h2|h2
    .exact hA.ph e (aFk.1 h2).1
    .exact Pr e h2
   .rw[h1];exact⟨by have:=fP.aE;have:=fP.ok.one;show 0<M.aE;omega,gP _⟩
  have awU:=UE.nx;refine .inr (.inl ⟨rfl,⟨π.p,π.a,.ptr r' 0,bd',dj.nx,π.bi,dj.nx+1,F3,D2.flush.2,gW (nR mS M.now) 0 (bL M.m),M.m,1+π.D.ao.length/4⟩,r,rfl,rfl,⟨⟨M.first,M.aE,gW (nR mS M.now) 0 (bL M.m),[],M.m,M.m,M.idle,[]⟩,⟨Zz,VG,aiu,afj,ait,?_,?_,⟨rfl,rfl,rfl⟩⟩,adI,aot,f2.dead,λb hb hh=>?_,rfl,rfl,RO⟩,⟨⟨base',last'+aY (dJ l).length,_,HK++[l],r',Vs,by have:=hA.T;omega,rfl,?_,?_,VH⟩,by show 1+π.D.ao.length/4=1+(D2.flush.2).ao.length/4;rw[Gp],λe he=>?_,aom⟩,zW,⟨r',rfl,hA.rN.imp id λh=>pX⟩,?_,λb hb=>?_,Gp,(f6.trans hA.wrote.set).trans hA.set⟩)
  .simp only[aDG,aDs,aEe,aEW,aEM];exact⟨⟨v1,pX,v3,pX⟩,⟨pX,v6,pX⟩,⟨pX,pX⟩,pX,not_false,aFS⟩
  .intro b hb;simp at hb;omega
  .have h1:=afG b hb;simp only[aDs,aEe,aEW,aEM]at hh h1;rcases hh with hh|hh|hh|hh|hh
   .exact h1.1.1 hh
   .exact h1.1.2.1 hh
   .omega
   .exact h1.1.2.2 hh
   .omega
  .show fI fD r' π.a ⟨1,(D2.flush.2).ao.length/4,base',_,_⟩;rw[Gp,<-mZ];exact Tt
  .unfold PI.all;simp only[aDs,aEM];refine⟨hrP.1,hrP.2.1,pX,hrP.2.2.2.1,pX,λhh=>?_⟩;rcases yn r' hh with h1|h1
   .exact hA.rF h1
   .have:=hA.ring.1;omega
  .show e.1<(D2.flush.2).ao.length-1-(D2.flush.2).ao.length/4/\_;rw[Gp,<-Jg];exact aeS e he
  .have q1:Kp (r::π.all) st bY:=UE.mono (by intro q hq;left;simp at hq;subst hq;unfold PI.all;simp);have q2:=q1.trans hA.kp adt
   have q3:=q2.trans py λq hq=>by
    rcases hA.FN q hq with h1|h1
    .left;simp[PI.lP h1]
    .right;omega
   exact q3.trans KS λq hq=>by
    simp only[aDs,aEe,aEW]at hq;rcases hq with hq|hq
    .left;rw[hq];unfold PI.all;simp
    .rcases hA.bdN with h1|h1
     .left;rw[hq,h1];unfold PI.all;simp
     .right;omega
  .unfold PI.all at hb;simp only[aDs]at hb;rcases hb with hb|hb|hb|hb|hb|hb
   .left;rw[hb];unfold PI.all;simp
   .rcases hA.bdN with h1|h1
    .left;rw[hb,h1];unfold PI.all;simp
    .right;omega
   .right;omega
   .left;rw[hb];unfold PI.all;simp
   .right;omega
   .rcases yn b hb with h1|h1
    .rcases hA.FN b h1 with h2|h2
     .left;exact PI.lP h2
     .right;omega
    .right;omega
end
end
section
variable {Gk:GM}{a:Nat}{F:List Nat}{D:aP}
structure fg (τ:Nat)(π:PI)(st:St)(L Lk:List bt)(T N fr:Nat):Prop where
 ex:∃G Gk,Tg τ π st G/\gK G L/\jE π st Gk T/\gK Gk Lk/\G.aE=Gk.aE/\G.cP=fr
 calm:Calm π.D
 len:π.D.ao.length=N
def ld (L:List bt)(N T:Nat)(D:aP):Prop:=∃G,gK G L/\Ux G N T D
def own (τ:Nat)(π:PI):List Nat:=τ::((match π.lg with| .ptr r _=>[r]|_=>[])++π.all)
def sL (τ:Nat)(π π':PI)(st st':St):Prop:=Kp (own τ π) st st'/\∀b∈own τ π',b∈own τ π\/st.nx<=b
def iF {τ:Nat}{π:PI}{b:Nat}(h:b∈π.all):b∈own τ π:=by unfold own;simp[h]
def GN {τ:Nat}{π:PI}{st st':St}(h:Kp π.W st st'):sL τ π π st st':=⟨h.mono λq hq=>.inl (iF (PI.Cv hq)),adt⟩
def wb {τ:Nat}{π:PI}{st st':St}(h:Kp [] st st'):sL τ π π st st':=⟨h.mono rq,adt⟩
section
variable {τ:Nat} {π:PI} {st st':St} {L Lk:List bt} {T N fr:Nat}
def jE.log (h:jE π st Gk T):∃r,π.lg=.ptr r 0/\r∉π.all/\r<st.nx:=by
 obtain⟨base,last,P,Ls,r,a,b,c,d,e,f⟩:=h.ex;exact⟨r,c,e,d.1⟩
def jE.U2 (h:jE π st Gk T)(hk:Kp π.W st st'):jE π st' Gk T:=by
 obtain⟨r,h1,h2,_⟩:=h.log;refine h.keep hk λr' e=>?_;rw[h1]at e;cases e;exact λhh=>h2 (PI.Cv hh)
def jE.still (h:jE π st Gk T)(hk:Kp [] st st'):jE π st' Gk T:=h.keep hk rq
def fg.still (h:fg τ π st L Lk T N fr)(hk:Kp [] st st'):fg τ π st' L Lk T N fr:=by
 obtain⟨⟨G,Gk,a,b,c,d,e,e'⟩,f,g⟩:=h;exact⟨⟨G,Gk,a.still hk,b,c.still hk,d,e,e'⟩,f,g⟩
def Oo {G:GM}(h:gK G L):G.root=0\/G.bS G.root:=by
 rcases h.tree with h1|⟨hh,ps,_,hs⟩
 .exact .inl h1.1
 .obtain⟨n,q,hn,_⟩:=hs;exact .inr hn.bS
def Rj (τ:Nat)(π:PI)(S:aP->Prop)(st st':St):Prop:=Kp (own τ π) st st'/\π.D.set=true/\∃F' D',cG st' π.a F' D'/\(∀b∈F',b∈own τ π\/st.nx<=b)/\D'.dead=true/\S D'
def HS (h:fg τ π st L Lk T N fr)(hT:T<=900000000)(hN:N<=8000):R 40 [.ptr τ 0] st λv st'=>(v=I 3/\Kp [] st st')\/(v=I 0/\∃π',π'.a=π.a/\sL τ π π' st st'/\fg τ π' st' L L (T+10000) N fr/\π'.D.set=π.D.set)\/(v=I 20/\Rj τ π (λD=>ld Lk N (T+10000) D\/ld L N (T+10000) D) st st'):=by
 obtain⟨⟨G,Gk,ht,hL,hk,tQ,qz,iw⟩,hc,hl⟩:=h;refine bN ?_;rw[w40];rw[c8,af,ag,aDv wI];refine ht.get' ?_;refine(Iw ht.pg hk ht.fr hT pX (Oo hL) qz).mono ?_
 have xf:∀r,π.lg=.ptr r 0->∀q∈r::π.all,q∈own τ π:=λr zW q hq=>by
  rcases aDs.1 hq with h1|h1
  .unfold own;rw[zW];simp[h1]
  .exact iF h1
 rintro v s1 (⟨rfl,k1,_⟩|⟨rfl,π',r,e1,e2,hp',u7,zW,⟨r',anx,AM⟩,k1,fk,hlen,eS⟩|⟨rfl,r,zW,k1,eS,F',D',uP,nz,hs⟩)
 .exact .inl ⟨rfl,k1⟩
 rotate_left
 .rw[hl]at hs;refine .inr (.inr ⟨rfl,k1.mono λq hq=>.inl (xf r zW q hq),eS,F',D',uP,λb hb=>(nz b hb).imp (λh=>iF (PI.lP h)) id,?_,hs.imp (λh=>⟨Gk,tQ,h⟩) λh=>⟨G,hL,h⟩⟩);rcases hs with h1|h1<;>exact h1.1
 .obtain⟨r2,l1,l2,l3⟩:=hk.log;obtain⟨ty,g,hg⟩:=ht.get;have hrr:r2=r:=by rw[l1]at zW;cases zW;rfl
  have DO:τ∉r::π.all:=λhh=>by
   rcases aDs.1 hh with hh|hh
   .have hd:=hk.ex;obtain⟨_,_,_,_,r3,_,_,c,d,_,_⟩:=hd;have:r3=r:=by rw[c]at zW;cases zW;rfl
    rw[this]at d;have h1:=d.2;rw[<-hh,hg]at h1;simp at h1
   .exact ht.not hh
  have Y0:sL τ π π' st s1:=by
   refine⟨k1.mono λq hq=>.inl (xf r zW q hq),λb hb=>?_⟩
   .unfold own at hb;rw[anx]at hb;rcases aDs.1 hb with h1|h1
    .left;unfold own;simp[h1]
    .rcases aDB.1 h1 with h2|h2
     .have h2:b=r':=by simpa using h2
      rcases AM with h3|h3
      .left;unfold own;rw[zW];simp[h2,h3]
      .right;omega
     .exact(fk b h2).imp iF id
  refine .inr (.inl ⟨rfl,π',e2,Y0,⟨⟨G,G,⟨hp',aDM ht.lt k1.nx,λhh=>?_,⟨ty,g,?_⟩,k1.fresh ht.fr⟩,hL,u7,hL,rfl,iw⟩,?_,hlen.trans hl⟩,eS⟩)
  .rcases fk τ hh with h1|h1
   .exact ht.not h1
   .have:=ht.lt;omega
  .rw[e1];exact(k1.keep τ ht.lt DO).trans hg
  .obtain⟨_,_,_,_,_,oX,_⟩:=u7.ex;exact oX.calm
def Z6 (τ:Nat)(π:PI)(L Lk:List bt)(T N fr:Nat)(key v:List UInt8)(st:St)(y:CV)(st':St):Prop:=
 sL τ π π st st'/\(y=I (if 48<key.length\/8192<v.length then 1 else if fr<24+dQ v.length then 3 else 0:Nat))/\∃fr',fg τ π st' (if 48<key.length\/8192<v.length then L else if fr<24+dQ v.length then L else vD L key v) Lk T N fr'
def abN (h:fg τ π st L Lk T N fr)(key v:List UInt8):R 11 [.ptr τ 0,.str key,.str v] st λy st'=>Z6 τ π L Lk T N fr key v st y st':=by
 have h0:=h;obtain⟨⟨G,Gk,ht,hL,hk,tQ,qz,rfl⟩,hc,hl⟩:=h;refine(Sm ht hL key v).mono ?_;intro y st' hy;unfold Az at hy;unfold Z6
 by_cases h1:48<key.length\/8192<v.length
 .rw[aDy h1]at hy;rw[aDy h1,aDy h1];exact⟨wb hy.2,hy.1,_,h0.still hy.2⟩
 .rw[aDv h1]at hy;rw[aDv h1,aDv h1]
  by_cases h2:G.cP<24+dQ v.length
  .rw[aDy h2]at hy;rw[aDy h2,aDy h2];exact⟨wb hy.2,hy.1,_,h0.still hy.2⟩
  .rw[aDv h2]at hy;rw[aDv h2,aDv h2];obtain⟨rfl,k1,G',t',o',hp⟩:=hy;exact⟨GN k1,rfl,_,⟨G',Gk,t',o',hk.U2 k1,tQ,hp.trans qz,rfl⟩,hc,hl⟩
def aaj (τ:Nat)(π:PI)(L Lk:List bt)(T N fr:Nat)(key:List UInt8)(st:St)(y:CV)(st':St):Prop:=
 sL τ π π st st'/\(y=if 48<key.length then .tuple [.bool false,I 1]else if fr<24 then .tuple [.bool false,I 3]else .tuple [.bool (lA L key).isSome,I 0])/\∃fr',fg τ π st' (if 48<key.length then L else if fr<24 then L else pO L key) Lk T N fr'
def abR (h:fg τ π st L Lk T N fr)(key:List UInt8):R 41 [.ptr τ 0,.str key] st λy st'=>aaj τ π L Lk T N fr key st y st':=by
 have h0:=h;obtain⟨⟨G,Gk,ht,hL,hk,tQ,qz,rfl⟩,hc,hl⟩:=h;refine(Sq ht hL key).mono ?_;intro y st' hy;unfold Jz at hy;unfold aaj
 by_cases h1:48<key.length
 .rw[aDy h1]at hy;rw[aDy h1,aDy h1];exact⟨wb hy.2,hy.1,_,h0.still hy.2⟩
 .rw[aDv h1]at hy;rw[aDv h1,aDv h1]
  by_cases h2:G.cP<24
  .rw[aDy h2]at hy;rw[aDy h2,aDy h2];exact⟨wb hy.2,hy.1,_,h0.still hy.2⟩
  .rw[aDv h2]at hy;rw[aDv h2,aDv h2];obtain⟨rfl,k1,G',t',o',hp⟩:=hy;exact⟨GN k1,rfl,_,⟨G',Gk,t',o',hk.U2 k1,tQ,hp.trans qz,rfl⟩,hc,hl⟩
def Lc (h:fg τ π st L Lk T N fr):R 59 [.ptr τ 0] st λv st'=>v=I 0/\∃π' fr',π'.a=π.a/\sL τ π π' st st'/\fg τ π' st' Lk Lk T N fr'/\π'.D.set=π.D.set:=by
 obtain⟨⟨G,Gk,ht,hL,hk,tQ,qz,rfl⟩,hc,hl⟩:=h;refine bN ?_;rw[w59];rw[c8,af,ag,aDv wI];refine ht.get' ?_;obtain⟨M,hP,fP,hd,nZ,hF,Ua,hM7,VX⟩:=ht.pg;obtain⟨⟨base,last,P,Ls,r,oX,PD,zW,kj,IT,Bh⟩,YQ,hke,qA⟩:=hk
 have Jg:M.aE=π.D.ao.length-1-π.D.ao.length/4:=by
  have a1:=fP.aE;have a2:π.D.ao.length-1-π.D.ao.length/4=Gk.aE:=oX.rep.aE;omega
 have RO:M.first=1+π.D.ao.length/4:=by rw[VX,YQ]
 have Cj:=oX.least
 have hgk:∀n,({M with now:=[]}:bQ).get π.D n=(ki (1+π.D.ao.length/4) (π.D.ao.length-1-π.D.ao.length/4) (cM [] Ls) π.kept Gk.fr).get π.D n:=λn=>by
  rw[gp,<-Bh,<-Ua];show(match cX [] n with|some s=>s|none=>match cX M.dirty n with|some s=>s|none=>π.D.cur (M.first+n))=_;rw[RO];cases cX M.dirty n<;>rfl
 have ays:π.D.ao.length-1-π.D.ao.length/4=Gk.aE:=oX.rep.aE;have Vu:=oX.rep.ok.iv;refine(Hl (m':=π.kept) (frs:=Gk.fr) hP hd nZ (λb hb e=>hF b hb (by simp[e])) ((hgk 0).trans oX.zero) oX.UX pX pX oX.rep.head (λn hn=>⟨(oX.rep.ok.fr n hn).1,by have:=(oX.rep.ok.fr n hn).2;omega⟩) oX.rep.ok.nd (oX.rep.chain.congr λn _=>hgk n)).mono ?_;rintro _ s1 ⟨rfl,k1,RS,RT,RU,hP',iZ⟩;have xe:=hP.lt;have Mk:=hd.lt;obtain⟨ty,g,hg⟩:=ht.get;have htp:τ≠π.p:=λe=>ht.not acS;have htn:=ht.not;have Ma:=ht.lt;have hrp:r≠π.p:=λe=>IT acS;have IU:=kj.1;have Cc:=iZ RS rq;have hn2:=iZ RT rq;have hn3:=iZ RU rq
 have PY:∀b,b∈({π with bn:=RS,bi:=RT,bc:=RU}:PI).all->b∈π.all\/st.nx<=b:=λb hb=>by
  unfold PI.all at hb⊢;simp only[aDs]at hb⊢;rcases hb with hb|hb|hb|hb|hb|hb
  .left;simp[hb]
  .left;simp[hb]
  .right;omega
  .right;omega
  .right;omega
  .left;simp[hb]
 have Pj:rj (M.clean π.kept Gk.fr) π.D Gk:=oX.rep.congr (λn _=>hgk n) Jg rfl rfl rfl rfl RO rfl
 have Y0:sL τ π {π with bn:=RS,bi:=RT,bc:=RU} st s1:=by
  refine⟨k1.mono λq hq=>.inl (iF (by simp at hq;subst hq;unfold PI.all;simp)),λb hb=>?_⟩;unfold own at hb;rcases aDs.1 hb with h1|h1
  .left;unfold own;simp[h1]
  .rcases aDB.1 h1 with h2|h2
   .left;unfold own;exact aDS _ (aEV _ h2)
   .exact(PY b h2).imp iF id
 refine⟨rfl,{π with bn:=RS,bi:=RT,bc:=RU},_,rfl,Y0,⟨⟨Gk,Gk,⟨⟨M.clean π.kept Gk.fr,hP',Pj,hd.keep k1 λb hb hh=>hF b hb adl,nZ,λb hb hh=>?_,Ua,rfl,VX⟩,aDM Ma k1.nx,λhh=>?_,⟨ty,g,(k1.keep τ Ma (by simpa using htp)).trans hg⟩,k1.fresh ht.fr⟩,tQ,⟨⟨base,last,P,Ls,r,oX,PD,zW,kj.keep k1 (by simpa using hrp),λhh=>?_,Bh⟩,YQ,hke,qA⟩,tQ,rfl,rfl⟩,hc,hl⟩,rfl⟩
 .have h1:=Mk b hb;simp only[aDs,aEe,aEW]at hh;rcases hh with hh|hh|hh|hh|hh
  .exact hF b hb (by simp[hh])
  .exact hF b hb (by simp[hh])
  .omega
  .omega
  .omega
 .rcases PY τ hh with h1|h1
  .exact htn h1
  .omega
 .rcases PY r hh with h1|h1
  .exact IT h1
  .omega
def Jw (a:Nat)(F:List Nat)(Lk:List bt)(T N:Nat)(set:Bool)(st:St)(v:CV)(st':St):Prop:=
 ∃π' Gk,v=.tuple [.ptr π'.p 0,I 0]/\π'.a=a/\Pg π' st' Gk/\eM st'/\jE π' st' Gk T/\gK Gk Lk/\Calm π'.D/\π'.D.ao.length=N/\Kp F st st'/\(∀b∈π'.all,b∈F\/st.nx<=b)/\(∃r,π'.lg=.ptr r 0/\st.nx<=r)/\π'.D.set=set
def yI.to {T':Nat}{v:CV}(h:yI a F D Gk T' st v st')(hf:eM st)(tQ:gK Gk Lk)(hT:T'<=T):Jw a F Lk T D.ao.length D.set st v st':=by
 obtain⟨π',rfl,e1,hp,u7,k1,fk,_,oZ,Cf,hlr,eS⟩:=h;obtain⟨⟨b2,l2,P2,Ls2,r2,a1,a2,a3,a4,a5,a6⟩,b1,b2',b3⟩:=u7;exact⟨π',Gk,rfl,e1,hp,k1.fresh hf,⟨⟨b2,l2,P2,Ls2,r2,a1,pX,a3,a4,a5,a6⟩,b1,b2',b3⟩,tQ,oZ,Cf,k1,fk,hlr,eS⟩
def Xc (h:fg τ π st L Lk T N fr)(hT:T<=900000000):R 23 [.ptr π.a 0] st λv st'=>Jw π.a π.Fd Lk T N π.D.set st v st'\/(v=.tuple [.bk,I 20]/\Rj τ π (ld Lk N T) st st'):=by
 obtain⟨⟨G,Gk,ht,hL,hk,tQ,qz,rfl⟩,hc,hl⟩:=h;obtain⟨M,hP,fP,hd,nZ,hF,Ua,hM7,VX⟩:=ht.pg;obtain⟨⟨base,last,P,Ls,r,oX,PD,zW,kj,IT,Bh⟩,YQ,hke,qA⟩:=hk;refine(JU hd ht.fr oX.calm oX.toK pX).mono ?_;rintro v s1 (h1|⟨k1,_,rfl,rfl,eS,F',D',uP,nz,hs⟩)
 .have:=h1.to ht.fr tQ PD;rw[hl]at this;exact .inl this
 .rw[hl]at hs;obtain⟨s1,s2,b,l,t,P',HK,kp,s3,s4⟩:=hs;exact .inr ⟨rfl,k1.mono λq hq=>.inl (iF (PI.lP hq)),eS,F',D',uP,λb hb=>(nz b hb).imp (λh=>iF (PI.lP h)) id,s1,Gk,tQ,s1,s2,b,l,t,P',HK,kp,s3,pX⟩
def Xb (hs:ld L N T D)(hd:cG st a F (mT D.ao))(hf:eM st)(hT:T<=900000000):R 23 [.ptr a 0] st (Jw a F L T N false st):=by
 obtain⟨G,hL,s1,s2,b,l,t,P',HK,kp,s3,s4⟩:=hs;refine(JU hd hf ⟨rfl⟩ s3.Xl pX).mono ?_;rintro v s1 (h1|⟨_,_,_,_,eS,_⟩)
 .have:=h1.to hf hL s4
  rwa [show(mT D.ao).ao.length=N from s2]at this
 .cases eS
def NK {π:PI}(hp:Pg π st Gk)(hf:eM st)(hk:jE π st Gk T)(hL:gK Gk Lk)(hc:Calm π.D)(hl:π.D.ao.length=N):R 24 [.ptr π.p 0] st λv st'=>∃τ,v=.ptr τ 0/\st.nx<=τ/\Kp [] st st'/\fg τ π st' Lk Lk T N Gk.cP:=by
 refine(Sn hp hf).mono ?_;rintro v s1 ⟨rfl,k1,t⟩;exact⟨_,rfl,aDt _,k1,⟨Gk,Gk,t,hL,hk.still k1,hL,rfl,rfl⟩,hc,hl⟩
end
end
def iK.Mq {D:aP}{Gk:GM}{base last:Nat}{P:Nat->Piece}{Ls:List (List dN)}{kept:iA}(h:iK D Gk base last P Ls kept)(i:Int)(keep:List Bool):iK {D with set:=true,left:=i,keep:=keep} Gk base last P Ls kept:=
 ⟨⟨h.calm.1⟩,h.waits,h.least,h.iv,h.head,h.j7,h.laid,h.le,h.room,h.ph,h.small,h.rep.congr (λ_ _=>rfl) rfl rfl rfl rfl rfl rfl rfl,h.zero,h.root⟩
section
variable {τ:Nat} {π:PI} {st st':St} {L Lk:List bt} {T N fr:Nat}
def fg.Mq (h:fg τ π st L Lk T N fr){i:Int}{keep:List Bool}{F':List Nat}(hk:Kp π.Fd st st')(hd:cG st' π.a F' {π.D with set:=true,left:=i,keep:=keep})(hF:∀b∈F',b∈π.Fd\/st.nx<=b):fg τ {π with D:={π.D with set:=true,left:=i,keep:=keep},Fd:=F'} st' L Lk T N fr:=by
 obtain⟨⟨G,Gk,ht,hL,vY,tQ,qz,iw⟩,hc,hl⟩:=h;obtain⟨M,hP,fP,nZ,VU,hFp,Ua,hM7,VX⟩:=ht.pg;obtain⟨⟨base,last,P,Ls,r,oX,PD,zW,kj,IT,Bh⟩,YQ,hke,qA⟩:=vY;obtain⟨ty,g,hg⟩:=ht.get;have Ma:=ht.lt;have xe:=hP.lt;have IU:=kj.1
 have fk:∀b,b<st.nx->b∉π.all->b∉({π with D:={π.D with set:=true,left:=i,keep:=keep},Fd:=F'}:PI).all:=λb h1 h2 hh=>by
  unfold PI.all at hh h2;simp only[aDs,aEM]at hh h2;rcases hh with hh|hh|hh|hh|hh|hh
  .exact h2.1 hh
  .exact h2.2.1 hh
  .exact h2.2.2.1 hh
  .exact h2.2.2.2.1 hh
  .exact h2.2.2.2.2.1 hh
  .rcases hF b hh with h3|h3
   .exact h2.2.2.2.2.2 h3
   .omega
 refine⟨⟨G,Gk,⟨⟨M,hP.keep hk λb hb hh=>hFp b hh hb,fP.congr (λ_ _=>rfl) rfl rfl rfl rfl rfl rfl rfl,hd,VU,λb hb hh=>?_,Ua,hM7,VX⟩,aDM Ma hk.nx,fk τ Ma ht.not,⟨ty,g,(hk.keep τ Ma λhh=>ht.not (PI.lP hh)).trans hg⟩,hk.fresh ht.fr⟩,hL,⟨⟨base,last,P,Ls,r,oX.Mq i keep,PD,zW,kj.keep hk λhh=>IT (PI.lP hh),fk r IU IT,Bh⟩,YQ,hke,qA⟩,tQ,qz,iw⟩,⟨hc.1⟩,hl⟩;rcases hF b hb with h3|h3
 .exact hFp b h3 hh
 .have:=xe b hh;omega
def fg.wh (h:fg τ π st L Lk T N fr):cG st π.a π.Fd π.D/\π.D.dead=false/\π.D.waits=[]:=by
 obtain⟨⟨G,Gk,ht,hL,vY,tQ,qz,iw⟩,hc,hl⟩:=h;obtain⟨M,hP,fP,nZ,VU,hFp,Ua,hM7,VX⟩:=ht.pg;obtain⟨⟨base,last,P,Ls,r,oX,_⟩,_⟩:=vY;exact⟨nZ,VU,oX.waits⟩
def fg.oR (h:fg τ π st L Lk T N fr)(keep:List Bool):ld Lk N T (π.D.oR keep):=by
 have hw:=h.wh.2.2;obtain⟨⟨G,Gk,ht,hL,vY,tQ,qz,iw⟩,hc,hl⟩:=h;obtain⟨⟨base,last,P,Ls,r,oX,PD,_⟩,_⟩:=vY
 have e:∀D:aP,D.waits=[]->D.oR keep={D with dead:=true}:=by
  rintro⟨_,_,_,_,_,_,_⟩ h;simp only at h;subst h;rfl
 rw[e _ hw];exact⟨Gk,tQ,rfl,hl,base,last,last,P,Ls,_,oX.toK.to hw rfl rfl (λ_ _=>rfl) λ_ _=>rfl,PD⟩
end
