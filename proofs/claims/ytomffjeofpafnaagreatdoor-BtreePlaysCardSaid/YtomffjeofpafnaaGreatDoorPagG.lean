import Derived.Test.YtomffjeofpafnaaGreatDoorPagF
import Derived.Test.YtomffjeofpafnaaGreatDoorBtE
namespace Lim
open Go
noncomputable section
set_option maxRecDepth 100000
theorem QE {l:List eA}{n:Nat}{s:jl}(h:n∉l.map (·.1)):gD l n s=l++[(n,s)]:=by
 induction l with
 |nil=>rfl
 |cons p r ih=>
  simp only[aBh,aAD,aBY]at h;simp only[gD,aAH h.1,aBC];rw[ih h.2]
theorem Eh {l:List eA}(h:(l.map (·.1)).Nodup){e:eA}(he:e∈l):dg l e.1=some e.2:=by
 induction l with
 |nil=>cases he
 |cons p r ih=>
  rw[aBh,aAQ]at h;simp only[dg];rcases aAD.1 he with rfl|he
  ·rw[aAI rfl]
  ·rw[aAH (fun hh=>h.1 (by rw[<-hh];exact aBK he))];exact ih h.2 he
theorem sN.Vm {M:bS}{D:aT}{G:GM}(h:sN M D G)(idle:List Nat)(hi:∀n,n∈idle↔n∈G.fr)(hn:idle.Nodup):sN {M with idle:=idle} D G:=
 ⟨h.aE,h.used,h.root,h.head,h.free,hi,hn,h.ok,h.fits,h.len,h.cont,h.chain.congr fun _ _=>rfl,h.count,h.rC,h.tl⟩
structure JC (π:PI)(r0:Nat)(M:bS)(G Gk:GM)(T:Nat)(sB s:St)(nO:List eA)(bd r:Nat)(F:List Nat)(D:aT)(base last:Nat)(P:Nat->Piece)(Ls:List (List eA)):Prop where
 ql:cA s π.p π.a (.ptr r 0) {M with dirty:=nO} bd π.bn π.bi π.bc
 Db:du s π.a F D
 ok:jJ D Gk base last P Ls π.kept
 len:D.ay.length=π.D.ay.length
 dir:∀n,dg nO n=dg (dV [] Ls) n
 wm:∀e∈nO,e.1<M.aE/\e.2.length=512
 ring:fE s r π.a ⟨1,D.ay.length/4,base,last,last⟩
 rF:r∉F
 rP:r∉[π.p,bd,π.bn,π.bi,π.bc]
 Uo:∀b∈F,b∉[π.p,bd,π.bn,π.bi,π.bc]
 T:last<=T
 bdN:bd=π.bd\/sB.next<=bd
 rN:r=r0\/sB.next<=r
 FN:∀b∈F,b∈π.Fd\/sB.next<=b
 kp:Kp (r0::π.all) sB s
 fresh:cY s
 rep:sN {M with dirty:=nO} D G
structure zG (π:PI)(r0:Nat)(M:bS)(G Gk:GM)(T:Nat)(l:List eA)(sB s:St)(nO:List eA)(bd r:Nat)(F:List Nat)(D D':aT)(base last:Nat)(P:Nat->Piece)(Ls:List (List eA)):Prop where
 ql:cA s π.p π.a (.ptr r 0) {M with dirty:=nO} bd π.bn π.bi π.bc
 Db:du s π.a F D'
 ok:jJ D Gk base last P Ls π.kept
 wrote:O9 D D' (D.ay.length/4) (uM P (D.ay.length/4) (fH l) last (bj (fH l).length)) (bj (fH l).length)
 len:D.ay.length=π.D.ay.length
 dir:∀n,dg nO n=dg (dV [] Ls) n
 wm:∀e∈nO,e.1<M.aE/\e.2.length=512
 ring:fE s r π.a ⟨1,D.ay.length/4,base,last+bj (fH l).length,last+bj (fH l).length⟩
 rF:r∉F
 rP:r∉[π.p,bd,π.bn,π.bi,π.bc]
 Uo:∀b∈F,b∉[π.p,bd,π.bn,π.bi,π.bc]
 T:last<=T
 room:bj (fH l).length+(last-base)<=D.ay.length/4
 bdN:bd=π.bd\/sB.next<=bd
 rN:r=r0\/sB.next<=r
 FN:∀b∈F,b∈π.Fd\/sB.next<=b
 kp:Kp (r0::π.all) sB s
 fresh:cY s
 rep:sN {M with dirty:=nO} D G
theorem PI.wz {π:PI}{b:Nat}(h:b∈π.Fd):b∈π.all:=by unfold PI.all;simp[h]
theorem uL {π:PI}{r0:Nat}{M:bS}{G Gk:GM}{T:Nat}{sB s:St}{nO:List eA}{bd r:Nat}{F:List Nat}{D:aT}{base last:Nat}{P:Nat->Piece}{Ls:List (List eA)}(h:JC π r0 M G Gk T sB s nO bd r F D base last P Ls){l:List eA}{rec:CV}(ajY:Sl s F rec 1 (ai (fH l)))(hl:(fH l).length<=1000000)(hT:T<=900000000)(tw:bj (fH l).length+(last-base)<=D.ay.length/4):
 R 131 [.ptr r 0,rec] s fun x s'=>x=I 0/\∃F' D',zG π r0 M G Gk T l sB s' nO bd r F' D D' base last P Ls:=by
 have Gx:=h.ok.least;have h65:=h.ok.jv;have sY:=h.ok.laid.le.1;have Y1:=h.T;have hp:bj (fH l).length<=1000000:=by omega
 have Pz:(⟨1,D.ay.length/4,base,last,last⟩:RingM).room=(D.ay.length/4:Nat)-((last:Int)-base):=by unfold RingM.room;rw[aAH (by simp)]
 refine(Lf h.fresh h.ring h.Db h.rF h.ok.calm.dead ajY hl (by show 0<D.ay.length/4;omega) (by show 1+D.ay.length/4<=_;omega) (by show base<=_;omega) (by show last<=_;omega) (by show _<=D.ay.length/4;omega) (by simp) (by rw[Pz];omega) (by rw[h.ok.waits];simp)).mono ?_;rintro x s' ⟨res,HB,rfl,k1,⟨F',Dx,qC⟩,lr⟩;obtain⟨w1,w2⟩:=JI (D:=D) (count:=D.ay.length/4) (base:=base) (last:=last) (top:=last) (P:=P) (rec:=fH l) h.ok.calm (by unfold aT.yL;rw[h.ok.waits];simp) (by omega) (by omega) h.ok.pK (by omega) hp _ (aAE _);rw[HB]at w1 w2;rw[aAI w1]at lr;have hlt:=h.ql.lt;have Nt:=h.ring.1;have hn:=h.kp.next;have KF:=h.Db.lt;refine⟨by rw[aAI w1],F',res.2, ?_,Dx,h.ok,w2,h.len,h.dir,h.wm,lr,fun hh=> ?_,h.rP,fun b hb hh=> ?_,h.T,tw,h.bdN,h.rN,fun b hb=> ?_, ?_,k1.fresh h.fresh,h.rep⟩
 ·exact h.ql.keep k1 fun b hb hh=>by
   rcases aAD.1 hh with hh|hh
   ·exact h.rP (hh▸hb)
   ·exact h.Uo b hh hb
 ·rcases qC r hh with h1|h1
  ·exact h.rF h1
  ·omega
 ·rcases qC b hb with h1|h1
  ·exact h.Uo b h1 hh
  ·have:=hlt b hh;omega
 ·rcases qC b hb with h1|h1
  ·exact h.FN b h1
  ·right;omega
 ·refine h.kp.trans k1 fun q hq=> ?_;rcases aAD.1 hq with hq|hq
  ·exact h.rN.imp (fun e=>by simp[hq,e]) (fun e=>by omega)
  ·exact(h.FN q hq).imp (fun e=>by simp[PI.wz e]) id
theorem B0 {π:PI}{r0:Nat}{M:bS}{G Gk:GM}{T:Nat}{sB s:St}{nO:List eA}{bd r:Nat}{F:List Nat}{D:aT}{base last:Nat}{P:Nat->Piece}{Ls:List (List eA)}(h:JC π r0 M G Gk T sB s nO bd r F D base last P Ls)(hT:T<=900000000)(hf:M.first=1+D.ay.length/4)(qz:M.first+M.aE=D.ay.length):
 R 73 [.ptr π.p 0,I last] s fun x s'=>x=I 0/\∃mo r' F' D',JC π r0 M G Gk T sB s' [] mo r' F' D' last last P []:=by
 have Gx:=h.ok.least;have h65:=h.ok.jv;have sY:=h.ok.laid.le.1;have Y1:=h.T;have hlt:=h.ql.lt;have Nt:=h.ring.1;have hn:=h.kp.next;have KF:=h.Db.lt;have PJ:(nO.map (·.1)).Nodup:=il (by rw[<-kg];exact h.ql.dirty.nd)
 have Fb:nO.length<=65536:=by
  have:=kR 65536 (nO.map (·.1)) PJ fun x hx=>by
   obtain⟨e,he,rfl⟩:=aBd.1 hx;have:=(h.wm e he).1;omega
  rwa [aBJ]at this
 refine(yk (M:={M with dirty:=nO}) h.ql h.Db h.ok.calm (by unfold aT.yL;rw[h.ok.waits];simp) (by rw[h.ok.waits];simp) h.fresh h.Uo (by show nO.length<=_;omega) h.wm qz hf (by omega) (by omega) h.ok.pK).mono ?_;rintro _ s' ⟨rfl,k1,r',mo,F',D',hP',Dx,oD,V3,Gn,Nu,zN,awq,gL,qC,sX⟩;have TS:∀j,D'.cur j=if j=0 then dw last else if j<1+D.ay.length/4 then D.cur j else (dg nO (j-(1+D.ay.length/4))).getD (D.cur j):=fun j=>by rw[sX];show(if j=0 then _ else if j<M.first then _ else (dg nO (j-M.first)).getD _)=_;rw[hf]
 have hok':=h.ok.settled h.dir oD V3 Gn TS;have CL:=(hok'.opened).2;rw[Gn]at CL;rw[CL]at Nu;refine⟨rfl,mo,r',F',D',hP',Dx,hok',Gn.trans h.len,fun n=>rfl,by simp,by rw[Gn];exact Nu,fun hh=>(qC r' hh).2.1 rfl, ?_,fun b hb hh=> ?_,h.T, .inr (by omega), .inr (by omega),fun b hb=> ?_, ?_,k1.fresh h.fresh, ?_⟩
 ·have h1:=hlt π.p (by simp);have h2:=hlt π.bn (by simp);have h3:=hlt π.bi (by simp);have h4:=hlt π.bc (by simp);simp only[aAD,aBo,aCg,aBY];exact⟨by omega,gL,by omega,by omega,by omega⟩
 ·have h1:=qC b hb;simp only[aAD,aBo,aCg]at hh
  have kW:∀x∈[π.p,bd,π.bn,π.bi,π.bc],b=x->False:=fun x hx e=>by
   rcases h1.1 with h2|h2
   ·exact h.Uo b h2 (e▸hx)
   ·have:=hlt x hx;omega
  rcases hh with hh|hh|hh|hh|hh
  ·exact kW π.p (by simp) hh
  ·exact h1.2.2 hh
  ·exact kW π.bn (by simp) hh
  ·exact kW π.bi (by simp) hh
  ·exact kW π.bc (by simp) hh
 ·rcases(qC b hb).1 with h2|h2
  ·exact h.FN b h2
  ·right;omega
 ·refine h.kp.trans k1 fun q hq=> ?_;rcases aAD.1 hq with hq|hq
  ·left;rw[hq];unfold PI.all;simp
  ·exact(h.FN q hq).imp (fun e=>by simp[PI.wz e]) id
 ·refine h.rep.congr (fun n hn=> ?_) rfl rfl rfl rfl rfl rfl Gn;unfold bS.get;show(match dg M.now n with|some s=>s|none=>match dg [] n with|some s=>s|none=>D'.cur (M.first+n))=match dg M.now n with|some s=>s|none=>match dg nO n with|some s=>s|none=>D.cur (M.first+n)
  rw[TS,aAH (by omega),aAH (by omega),show M.first+n-(1+D.ay.length/4)=n by omega];cases dg M.now n with
  |some s=>rfl
  |none=>cases dg nO n<;>rfl
section
variable {st st':St} {π:PI} {G Gk:GM} {T:Nat}
def Lo (π:PI)(G:GM)(T:Nat)(st:St)(v:CV)(st':St):Prop:=
 (v=I 3/\Kp [] st st')\/(v=I 0/\∃π' r,π'.p=π.p/\π'.a=π.a/\Pg π' st' G/\jm π' st' G T/\π.lg= .ptr r 0/\(∃r',π'.lg= .ptr r' 0/\(r'=r\/st.next<=r'))/\Kp (r::π.all) st st'/\(∀b∈π'.all,b∈π.all\/st.next<=b)/\π'.D.ay.length=π.D.ay.length)
set_option maxHeartbeats 2000000 in
theorem Hh (h:Pg π st G)(hk:jm π st Gk T)(iE:cY st)(hT:T<=900000000)(Rp:π.D.ay.length<=8000)(yQ:G.root=0\/G.bP G.root)(hGp:G.aE=Gk.aE):R 83 [.ptr π.p 0] st (Lo π G (T+10000) st):=by
 obtain⟨M,hP,gE,hd,qI,hF,Zd,hM7,hM8⟩:=h;obtain⟨⟨base,last,P,Ls,r,hok,Y1,Gm,lr,LF,Aq⟩,hkf,hke,qB⟩:=hk;rw[Gm]at hP;have hMd:∀n,dg M.dirty n=dg (dV [] Ls) n:=by rw[Zd];exact Aq
 have Gx:=hok.least;have Bh:=hP.main;have qx:M.now.length=M.count.length:=by rw[<-gE.count,aBJ]
 refine bN ?_;rw[w83];rw[cU,af,ag,aAH (by decide),bt,br,af,ah,af,aA,Bh,aq];simp only[aAF,aAA,aAy,av]
 have RW:bh .map (.map π.bc) st= .ok (I M.count.length) st:=by
  have:=IsMap.len (.inl hP.count)
  rwa [show(sS M.count).length=M.count.length by unfold sS;simp]at this
 rw[RW,af,af,ah,af,aA,Bh,aq];simp only[aAF,aAA,aAy,av];refine(tX hd).same ?_
 have e8:aj .quo none true (I π.D.ay.length) (.int .i64 8) st= .ok (I ((π.D.ay.length/8:Nat):Int)) st:=by
  have e0:aj .quo none true (I π.D.ay.length) (.int .i64 8) st= .ok (I (IntKind.i64.wrap (Int.tdiv π.D.ay.length 8))) st:=rfl;have e1:Int.tdiv (π.D.ay.length:Int) 8=((π.D.ay.length/8:Nat):Int):=rfl;rw[e0,e1,bz (by omega)]
 have egt:aj .gtr none false (I M.count.length) (I ((π.D.ay.length/8:Nat):Int)) st= .ok (.bool (decide (π.D.ay.length/8<M.count.length))) st:=by rw[aw,dq];congr 2;simp only[aBc];omega
 rw[e8,af,egt,af];refine⟨⟨trivial,trivial,trivial,trivial⟩,trivial, ?_⟩;rw[ag]
 by_cases jS:π.D.ay.length/8<M.count.length
 ·rw[aAJ jS,aAI rfl];exact .inl ⟨rfl,Kp.refl _ _⟩
 rw[aAB jS,aAH (by decide)]
 have Oe:M.m.root=0\/M.bP M.m.root:=by
  rw[gE.root];exact yQ.imp id fun hu=>(gE.uD _).2 hu
 have TA:=gE.ok.jv;have mI:=gE.ok.size
 have Wk:M.m.root<2147483648:=by
  rcases Oe with h0|h0
  ·omega
  ·have:=h0.2.1;rw[gE.used]at this;omega
 have ene:aj .neq (some .int) true (I M.m.root) (.int .i64 0) st= .ok (.bool (decide (M.m.root≠0))) st:=by rw[aw,ff];congr 2;by_cases h:M.m.root=0<;>simp[h]
 have Wl:∀K:CV->St->Prop,K (.bool false) st->ru 10 0 (.ptr π.p 0) st (fun dx=>us (aj .neq (some .int) true dx (.int .i64 0) st) fun cZ=>us (aY (ak true cZ) st (.ok (.ptr π.p 0) st)) fun ew=>us (aY (ak true cZ) st (.ok (.ptr π.p 0) st)) fun ef=>us (aY (ak true cZ) st (dH ef st)) fun dI=>us (aY (ak true cZ) st (an 10 dI st)) fun eB=>
  jI (ak true cZ) 0 eB st fun dZ=>fp (ak true cZ) st (fun k=>R 101 [ew,dZ] st k) fun eo s2=>us (aY (ak true cZ) s2 (lj .not eo s2)) fun eF=>us (ba cZ eF (.bool false) s2) fun dJ=>K dJ s2):=by
  intro K hK;simp only[ru,br,ah,af,aA,Bh,aq,aAF,Nat.reduceAdd,aAA,aAy,av,ene]
  by_cases h0:M.m.root=0
  ·simp only[h0,ne_eq,not_true_eq_false,aCi,aH,aAY,cB,af,jI,xd,aG,aAz,aAO];exact hK
  ·have hu:=Oe.resolve_left h0;simp only[h0,ne_eq,not_false_eq_true,aBA,aH,aAY,bo,af,jI,br,ah,aA,Bh,aq,aAF,Nat.reduceAdd,aAA,aAy,av,fh];refine(uC hP _).same ?_;simp only[hu,aBA,dm,aAU,af,aG,aAY];exact hK
 refine Wl (fun dJ s2=>aB dJ _ _) ?_;rw[ag,aAH (by decide),bt,br,af,ah,af,aA,Bh,aq];simp only[aAF,aAA,aAy,av];rw[af,ah,af,gH (n:=4) Bh (by simp),af];have avW:G.fr.length<=G.used:=kR G.used G.fr gE.ok.nd fun x hx=>(gE.ok.fr x hx).2
 have hhd:G.fr.headD 0<=65536:=by
  cases hf:G.fr with
  |nil=>simp
  |cons n r=>have:=(gE.ok.fr n (by rw[hf];simp)).2;simp;omega
 have WG:∀n∈lq M.m,n<9223372036854775808:=by
  intro n hn;have q1:=gE.used;have q2:=gE.head;have q3:=gE.free;simp only[lq,aAD,aBo,aCg]at hn;rcases hn with rfl|rfl|rfl|rfl<;>omega
 refine(Cx (m:=M.m) WG).mono ?_;rintro _ s3 ⟨rfl,k3⟩;have Od:=hP.keep k3 (by simp);have Y0:=Od.main;obtain⟨blk,u1,u2,u3⟩:=IsMap.update (.inl Od.now) 0 (.agg (ai (bI M.m)));have u4:=u3 Od.now
 have u5:da (St.set s3 π.bn blk) π.bn (fZ (gD M.now 0 (bI M.m))):=by
  have:=uJ M.now 0 (bI M.m);rw[<-this];exact u4
 rw[show eD .int (.map π.bn) (.int .i64 0) (.agg (ai (bI M.m))) s3= .ok .undef (St.set s3 π.bn blk)from u1,aS,aA,Y0,aq];refine⟨⟨⟨rfl,trivial⟩,trivial,trivial⟩,trivial, ?_⟩;have nd:=hP.nd;simp only[aAQ,aAD,aBo,aCg,aBY]at nd;obtain⟨⟨m1,m2,m3,m4⟩,⟨m5,m6,m7⟩,⟨m8,m9⟩,m10,_⟩:=nd;have acK:=Od.lt π.bn (by simp)
 have PO:cA (St.set s3 π.bn blk) π.p π.a (.ptr r 0) {M with now:=gD M.now 0 (bI M.m)} π.bd π.bn π.bi π.bc:=
  ⟨(al _ _ _ _ m2).trans Y0,Od.dirty.mono (al _ _ _ _ m5),u5,Od.idle.mono (al _ _ _ _ (aBE m8)),Od.count.mono (al _ _ _ _ (aBE m9)),hP.nd,Od.lt,hP.lgs⟩
 have k4:Kp [π.bn] st (St.set s3 π.bn blk):=(k3.mono (by simp)).set _ (.inl (by simp)) acK;generalize St.set s3 π.bn blk=s4 at*;have hm4:=PO.main;have aly:cY s4:=k4.fresh iE
 have Uf:0∉M.now.map (·.1):=fun hh=>by
  rw[gE.count]at hh;have:=(gE.tl 0 hh).1;omega
 have hNe:=QE (s:=bI M.m) Uf;generalize hN:gD M.now 0 (bI M.m)=N at*;have hNl:N.length=M.now.length+1:=by rw[hNe];simp
 have HR:M.aE=π.D.ay.length-1-π.D.ay.length/4:=by
  have a1:M.aE=G.aE:=gE.aE;have a2:π.D.ay.length-1-π.D.ay.length/4=Gk.aE:=hok.rep.aE;omega
 have R5:M.first=1+π.D.ay.length/4:=by rw[hM8,hkf]
 have Jo:∀n∈N.map (·.1),∃s,dg N n=some s/\n<=100000/\n<M.aE/\s.length=512:=fun n hn=>by
  have hg:dg N n=if n=0 then some (bI M.m)else dg M.now n:=by rw[<-hN,oR]
  by_cases h0:n=0
  ·rw[aAI h0]at hg;have h1:=gE.ok.one;exact⟨_,hg,by omega,by have:=gE.aE;omega,gK _⟩
  ·rw[aAH h0]at hg;rw[hNe,aBP,aAM]at hn
   have Bf:n∈M.now.map (·.1):=by
    rcases hn with h1|h1
    ·exact h1
    ·exact absurd (by simpa using h1) h0
   cases hp:dg M.now n with
   |none=>exact absurd Bf (lE.1 hp)
   |some s=>
    rw[hp]at hg;rw[gE.count]at Bf;have h2:=gE.tl n Bf;have h3:=gE.len n h2.2;have h4:M.get π.D n=s:=by unfold bS.get;rw[hp]
    rw[h4]at h3;exact⟨s,hg,by omega,by have:=gE.aE;omega,h3⟩
 have acy:∀{K:CV->Prop},K (.map π.bn)->fm 5 (.ptr π.p 0) s4 K:=fun {K} hK=>by
  rw[fm,br,af,ah,af,aA,hm4,aq];exact hK
 rw[cN];refine acy ?_;refine IW.mono ?_;rintro _ zK ⟨rfl,Zl,VS,n28⟩;have amx:=PO.keep VS (by simp);refine(AJ (L:=N) Zl (.inl amx.now) (by rw[hNl];omega) (fun n hn=>by obtain⟨_,_,h1,_⟩:=Jo n hn;omega)).mono ?_;intro x Mu EV;have k29:=EV.kp;have SC:Kp [] s4 Mu:=VS.trans k29 (by simp);have ada:=PO.keep SC (by simp);have acr:cY Mu:=SC.fresh aly;have hNn:(N.map (·.1)).Nodup:=il (by rw[<-kg];exact PO.now.nd);have avA:(ni (N.map (·.1))).length=N.length:=by rw[vQ,aBJ]
 have RI:=wF hNn;have Np:=EV.sl [] (by simp);have RH:∀n,n∈ni (N.map (·.1))↔n∈N.map (·.1):=fun n=>rT;generalize lI:ni (N.map (·.1))=ks at*;rw[Np.len ks.length (by simp) (by omega) Mu,af];simp only[aJ,aK];refine QB (M:=M) (N:=N) ada acr (fun s hs=>Np.mono hs) ⟨fun n hn=> ?_⟩ (by omega) ?_
 ·obtain⟨s,q1,q2,_,q4⟩:=Jo n ((RH n).1 hn);exact⟨s,q1,q2,q4⟩
 intro s rec WT CJ;simp only[aJ,aK];have yX:(dF N ks).map (·.1)=ks:=mi N ks;have hll:(dF N ks).length=ks.length:=by unfold dF;simp
 have NH:∀e∈dF N ks,e.1<M.aE/\e.2.length=512:=fun e he=>by
  unfold dF at he;obtain⟨n,hn,rfl⟩:=aBd.1 he;obtain⟨s',q1,q2,q3,q4⟩:=Jo n ((RH n).1 hn);simp only[q1,aCc];exact⟨q3,q4⟩
 have TB:∀n,dg (dF N ks) n=if n=0 then some (bI M.m)else dg M.now n:=fun n=>by
  have hg:dg N n=if n=0 then some (bI M.m)else dg M.now n:=by rw[<-hN,oR]
  rw[<-hg]
  have key:∀js:List Nat,dg (dF N js) n=if n∈js then some ((dg N n).getD [])else none:=by
   intro js
   induction js with
   |nil=>rfl
   |cons j js ih=>
    show(if n=j then some ((dg N j).getD [])else dg (dF N js) n)=_
    by_cases hj:n=j
    ·subst hj;rw[aAI rfl,aAI (by simp)]
    ·rw[aAH hj,ih];simp only[aAD,hj,false_or]
  rw[key]
  by_cases hn:n∈ks
  ·rw[aAI hn];obtain⟨s',q1,_⟩:=Jo n ((RH n).1 hn);rw[q1];rfl
  ·rw[aAH hn];exact(lE.2 fun hh=>hn ((RH n).2 hh)).symm
 have apC:(fH (dF N ks)).length<=520*(dF N ks).length:=IB _ fun e he=>by have:=NH e he;omega
 have PA:bj (fH (dF N ks)).length<=π.D.ay.length/4:=by
  have h1:(dF N ks).length<=π.D.ay.length/8+1:=by omega
  generalize (fH (dF N ks)).length=X at*;unfold bj
  split<;>omega
 have Wm:(fH (dF N ks)).length<=1000000:=by omega
 generalize hl:dF N ks=l at*;have w7:=ada.keep WT (by simp);have Bg:=w7.main
 have Xf:∀{K:CV->Prop},K (.map π.bn)->fm 5 (.ptr π.p 0) s K:=fun {K} hK=>by
  rw[fm,br,af,ah,af,aA,Bg,aq];exact hK
 refine Xf ?_;obtain⟨bU,d1,d2,d3⟩:=w7.now.delete 0;rw[show og .int (.map π.bn) (.int .i64 0) s= .ok .undef bU from d1,aS]
 have d4:da bU π.bn (fZ M.now):=by
  have e:pS (fZ N) 0=fZ M.now:=by rw[<-hN];exact Ms Uf
  rw[<-e];exact d3
 have acL:=w7.lt π.bn (by simp)
 have qH:Kp [π.bn] s bU:=by
  rcases d2 with rfl|⟨blk,rfl⟩
  ·exact Kp.refl _ _
  ·exact(Kp.refl _ s).set _ (.inl (by simp)) acL
 have kk:∀q∈[π.p,π.bd,π.bn,π.bi,π.bc],q≠π.bn->bU.mem.get q=s.mem.get q:=fun q hq gL=>qH.keep q (w7.lt q hq) (by simpa using gL)
 have HQ:cA bU π.p π.a (.ptr r 0) {M with dirty:=M.dirty} π.bd π.bn π.bi π.bc:=
  ⟨(kk π.p (by simp) (aBE (aBE m2))).trans Bg,w7.dirty.mono (kk π.bd (by simp) m5),d4,w7.idle.mono (kk π.bi (by simp) (aBE m8)),w7.count.mono (kk π.bc (by simp) (aBE m9)),hP.nd,fun b hb=>aAZ (w7.lt b hb) qH.next,hP.lgs⟩
 have Yk:Kp [π.bn] st bU:=((k4.trans SC (by simp)).trans WT (by simp)).trans qH fun q hq=> .inl hq;have amf:∀b∈π.Fd,b∉[π.bn]:=fun b hb hh=>hF b hb (by simp at hh;simp[hh]);have RU:=hd.keep Yk amf;have akc:r≠π.bn:=fun e=>LF (by unfold PI.all;simp[e]);have CI:=lr.keep Yk (by simpa using akc);have acw:cY bU:=Yk.fresh iE;have M3:=qH.next
 have Nw:JC π r M G Gk T bU bU M.dirty π.bd r π.Fd π.D base last P Ls:=
  ⟨HQ,RU,hok,rfl,hMd,fun e he=>by rw[HR];exact hke e (by rw[<-Zd];exact he),CI,fun hh=>LF (PI.wz hh),fun hh=>LF (by unfold PI.all;simp at hh⊢;rcases hh with h|h|h|h|h<;>simp[h]),hF,Y1, .inl rfl, .inl rfl,fun b hb=> .inl hb,Kp.refl _ _,acw,gE⟩
 obtain⟨Fr,own,Og⟩:=CJ;have n29:=SC.next;have n4:=k4.next;have nks:=WT.next;have aab:=own.keep qH fun b hb=>⟨(Og b hb).2,by have:=(Og b hb).1;have:=hP.lt π.bn (by simp);simp;omega⟩
 have Nv:∀(s':St) (F':List Nat),Kp (r::π.all) bU s'->(∀b∈F',b∈π.Fd\/bU.next<=b)->Sl s' F' rec 1 (ai (fH l)):=fun s' F' Bi qC=>by
  have nN:∀b∈Fr,st.next<=b/\b<bU.next:=fun b hb=>by have:=Og b hb;omega
  have Nt:=lr.1
  have fP:∀b∈Fr,b∉r::π.all:=fun b hb hh=>by
   have h1:=nN b hb;rcases aAD.1 hh with hh|hh
   ·omega
   ·have:b<st.next:=by
     unfold PI.all at hh;simp only[aAD]at hh;rcases hh with hh|hh|hh|hh|hh|hh
     ·rw[hh];exact hP.lt _ (by simp)
     ·rw[hh];exact hP.lt _ (by simp)
     ·rw[hh];exact hP.lt _ (by simp)
     ·rw[hh];exact hP.lt _ (by simp)
     ·rw[hh];exact hP.lt _ (by simp)
     ·exact hd.lt b hh
    omega
  have MT:=aab.keep Bi fun b hb=>⟨(nN b hb).2,fP b hb⟩;have nk':=Bi.next
  exact MT.sl fun b hb=>⟨fun hh=>by
   have h1:=nN b hb;rcases qC b hh with h2|h2
   ·exact fP b hb (by simp[PI.wz h2])
   ·omega,by have:=nN b hb;omega⟩
 have NF:=HQ.main
 have TK:∀{K:CV->Prop},K (.ptr r 0)->fm 1 (.ptr π.p 0) bU K:=fun {K} hK=>by
  rw[fm,br,af,ah,af,aA,NF,aq];exact hK
 refine TK ?_
 have NZ:R 131 [.ptr r 0,rec] bU fun x s'=>(x=I 0/\∃nO bd r' F D D' base last P Ls,zG π r M G Gk T l bU s' nO bd r' F D D' base last P Ls)\/(x=I 3/\s'=bU):=by
  by_cases tw:bj (fH l).length+(last-base)<=π.D.ay.length/4
  ·refine(uL Nw (Nv bU π.Fd (Kp.refl _ _) fun b hb=> .inl hb) Wm (by omega) tw).mono ?_;rintro x s' ⟨rfl,F',D',hA⟩;exact .inl ⟨rfl,_,_,_,_,_,_,_,_,_,_,hA⟩
  ·have Pz:(⟨1,π.D.ay.length/4,base,last,last⟩:RingM).room=(π.D.ay.length/4:Nat)-((last:Int)-base):=by unfold RingM.room;rw[aAH (by simp)]
   have sY:=hok.laid.le.1;refine(FQ (X:=[]) CI RU qI ((Nv bU π.Fd (Kp.refl _ _) fun b hb=> .inl hb).dM (by simp)) (by omega) (by show π.D.ay.length/4<=_;omega) (by show base<=_;omega) (by show last<=_;omega) PA (by simp) (by rw[Pz];omega)).mono ?_;rintro x s' ⟨rfl,rfl⟩;exact .inr ⟨rfl,rfl⟩
 refine NZ.mono ?_;intro qj ep ajx;refine kX (fun vs s=>vs=[.ptr π.p 0,I 0]/\∃nO bd r' F D D' base last P Ls,zG π r M G Gk T l bU s nO bd r' F D D' base last P Ls) ?_ ?_
 ·intro k48 RJ;rcases ajx with⟨rfl,hA⟩|⟨rfl,rfl⟩
  ·have e3:aj .eql (some .int) true (I 0) (.int .i64 3) ep= .ok (.bool false) ep:=rfl;rw[e3,af,ag,aAH (by decide)];exact RJ _ _ ⟨rfl,hA⟩
  ·have e3:aj .eql (some .int) true (I 3) (.int .i64 3) ep= .ok (.bool true) ep:=rfl;rw[e3,af,ag,aAI rfl];refine TK ?_;refine(L9 CI).same ?_;refine(B0 Nw (by omega) R5 (by rw[R5,HR];omega)).mono ?_;rintro _ xy ⟨rfl,mo,r',F',D',hR⟩;have e0:aj .eql (some .int) true (I 0) (.int .i64 0) xy= .ok (.bool true) xy:=rfl;rw[e0,af,ag,aAI rfl];have akD:=hR.ql.main
   have Xg:∀{K:CV->Prop},K (.ptr r' 0)->fm 1 (.ptr π.p 0) xy K:=fun {K} hK=>by
    rw[fm,br,af,ah,af,aA,akD,aq];exact hK
   refine Xg ?_;refine(uL hR (Nv xy F' hR.kp hR.FN) Wm (by omega) (by rw[hR.len];omega)).mono ?_;rintro x tO ⟨rfl,F2,D2,hA⟩;exact RJ _ _ ⟨rfl,_,_,_,_,_,_,_,_,_,_,hA⟩
 ·rintro _ eV ⟨rfl,nO,mo,r',F',D',D2,Up,aav,P',Ls',hA⟩;rw[cN];simp only[aJ,aK];have e0:∀s,aj .eql (some .int) true (I 0) (.int .i64 0) s= .ok (.bool true) s:=fun s=>rfl;have e2:∀s,aj .neq (some .int) true (I 0) (.int .i64 0) s= .ok (.bool false) s:=fun s=>rfl;have WJ:=hA.ql.main;rw[e0,af,ag,aAI rfl]
  have Xh:∀{K:CV->Prop},K (.ptr r' 0)->fm 1 (.ptr π.p 0) eV K:=fun {K} hK=>by
   rw[fm,br,af,ah,af,aA,WJ,aq];exact hK
  refine Xh ?_;have rp:D'.ay.length=π.D.ay.length:=hA.len;have avf:bj (fH l).length<=2000:=by omega
  refine(Qs hA.ring hA.Db (by rw[hA.wrote.waits,hA.ok.waits];simp;omega)).mono ?_;rintro _ iL ⟨rfl,pe,F3,KB,xE⟩;obtain⟨f1,f2,f3,f4,f5⟩:=hA.wrote.calm.flush hA.wrote.yL;have KF:=hA.Db.lt;have yU:=hA.ql.lt;have sZ:=hA.ql.keep pe fun b hb hh=>hA.Uo b hh hb;have I7:=hA.ring.keep pe hA.rF;have Ty:=hA.ok.X4 (l:=l) hA.rep (by show M.first=_;rw[R5,rp]) (by show M.aE=_;rw[HR,rp]) hA.dir (by rw[<-hl,mi];exact RI) TB NH Wm hA.room Wk hA.wrote;rw[aAI f1,e2,af,ag,aAH (by decide),bt];have akI:=sZ.main;have n14:=hA.kp.next;have n15:=pe.next;have Je:iL.mem.get π.p=some (.cells [.ptr π.a 0, .ptr r' 0,I M.first,I M.aE, .map mo, .map π.bn,I M.kept.root,I M.kept.used,I M.kept.head,I M.kept.free,I M.m.root,I M.m.used,I M.m.head,I M.m.free, .map π.bi, .map π.bc] 158 false):=akI;have ndA:=hA.ql.nd;simp only[aAQ,aAD,aBo,aCg,aBY]at ndA;obtain⟨⟨v1,v2,v3,v4⟩,⟨v5,v6,v7⟩,⟨v8,v9⟩,v10,_⟩:=ndA;have acB:(nO.map (·.1)).Nodup:=il (by rw[<-kg];exact sZ.dirty.nd)
  have aqh:nO.length<=65536:=by
   have:=kR 65536 (nO.map (·.1)) acB fun x hx=>by
    obtain⟨e,he,rfl⟩:=aBd.1 hx;have:=(hA.wm e he).1;omega
   rwa [aBJ]at this
  have abz:(M.now.map (·.1)).Nodup:=by rw[gE.count];exact gE.rC
  have NB:∀e∈M.now,e.1<M.aE/\e.2.length=512:=fun e he=>by
   have h1:dg M.now e.1=some e.2:=Eh abz he;have h2:e.1∈M.count:=by rw[<-gE.count];exact aBK he
   have h3:=gE.tl _ h2;have h4:=gE.len e.1 h3.2;have h5:M.get π.D e.1=e.2:=by unfold bS.get;rw[h1]
   rw[h5]at h4;exact⟨by have:=gE.aE;omega,h4⟩
  rw[br,af,ah,af,aA,Je,aq];simp only[aAF,aAA,aAy,av];rw[af,ah,af,aA,Je,aq];simp only[aAF,aAA,aAy,av]
  have ama:∀n∈nO.map (·.1),n<=1000000:=fun n hn=>by
   obtain⟨e,he,NQ⟩:=aBd.1 hn;have h1:=(hA.wm e he).1;rw[<-NQ];omega
  have alZ:∀n∈M.now.map (·.1),n<=1000000:=fun n hn=>by
   obtain⟨e,he,NQ⟩:=aBd.1 hn;have h1:=(NB e he).1;rw[<-NQ];omega
  have alW:nO.length<=1000000:=by omega
  have Xp:M.now.length<=1000000:=by omega
  have alY:∀e∈M.now,e.2.length=512:=fun e he=>(NB e he).2;have alV:mo<iL.next:=sZ.lt mo (by simp);have PM:IsMap iL mo (fZ nO):=sZ.dirty;have Y7:IsMap iL π.bn (fZ M.now):= .inl sZ.now;refine(Sm PM Y7 v5 alW ama Xp alZ alY alV).mono ?_;rintro _ dd ⟨EK,n16,hdm⟩;refine⟨⟨trivial,trivial,trivial⟩,trivial, ?_⟩;have aji:∀q∈[π.p,mo,π.bn,π.bi,π.bc],q≠mo->dd.mem.get q=iL.mem.get q:=fun q hq gL=>EK.keep q (sZ.lt q hq) (by simpa using gL);have WI:=(aji π.p (by simp) v1).trans Je;rw[bt,br,af,ah,af,aA,WI,aq];simp only[aAF,aAA,aAy,av];rw[af,ah,af,gH (n:=4) WI (by simp),af];refine(Cx (m:=M.m) WG).mono ?_;rintro _ kO ⟨rfl,Dr⟩;have acD:IsMap kO mo (fZ (lp nO M.now)):=hdm.mono (Dr.keep mo (by have:=sZ.lt mo (by simp);omega) (by simp));have akH:=(Dr.keep π.p (by have:=sZ.lt π.p (by simp);omega) (by simp)).trans WI;obtain⟨K8,w1,w2,_⟩:=IsMap.update acD 0 (.agg (ai (bI M.m)))
  have w3:IsMap (St.set kO mo K8) mo (fZ (gD (lp nO M.now) 0 (bI M.m))):=by
   have:=uJ (lp nO M.now) 0 (bI M.m);rw[<-this];exact w2
  rw[show eD .int (.map mo) (.int .i64 0) (.agg (ai (bI M.m))) kO= .ok .undef (St.set kO mo K8)from w1,aS,aA,akH,aq];refine⟨⟨⟨rfl,trivial⟩,trivial,trivial⟩,trivial, ?_⟩;have n17:=Dr.next;have acR:mo<kO.next:=by have:=sZ.lt mo (by simp);omega
  have Pv:Kp [mo] kO (St.set kO mo K8):=(Kp.refl _ kO).set _ (.inl (by simp)) acR;have Uv:Kp [mo] iL (St.set kO mo K8):=(EK.trans Dr (by simp)).trans Pv fun q hq=> .inl hq;have n18:(St.set kO mo K8).next=kO.next:=rfl;generalize St.set kO mo K8=dj at*;have ajh:∀q∈[π.p,mo,π.bn,π.bi,π.bc],q≠mo->dj.mem.get q=iL.mem.get q:=fun q hq gL=>Uv.keep q (sZ.lt q hq) (by simpa using gL);have abJ:=(ajh π.p (by simp) v1).trans Je
  have acx:∀{K:CV->Prop},K (.agg [I M.m.root,I M.m.used,I M.m.head,I M.m.free])->zj 4 10 (.ptr π.p 0) dj K:=fun {K} hK=>by
   unfold zj;rw[br,af,ah,af,gH (n:=4) abJ (by simp),af];exact hK
  refine acx ?_;rw[ja,aS,ja,aS];have y1:(St.new dj (.map [] 0)).next=dj.next+1:=rfl;have y2:(St.new (St.new dj (.map [] 0)) (.map [] 0)).next=dj.next+2:=rfl;rw[y1];have Hy:Kp [] dj (St.new (St.new dj (.map [] 0)) (.map [] 0)):=((Kp.refl [] dj).new _).new _;have z1:da (St.new (St.new dj (.map [] 0)) (.map [] 0)) dj.next []:=(da.new dj).mono (by rw[aZ _ _ _ (by simp)]);have z2:da (St.new (St.new dj (.map [] 0)) (.map [] 0)) (dj.next+1) []:=da.new (St.new dj (.map [] 0));generalize St.new (St.new dj (.map [] 0)) (.map [] 0)=iK at*;have akn:π.p<dj.next:=by have:=sZ.lt π.p (by simp);omega
  have akE:=(Hy.keep π.p akn (by simp)).trans abJ;have qA:bp [.ptr π.a 0, .ptr r' 0,I M.first,I M.aE, .map mo, .map π.bn,I M.kept.root,I M.kept.used,I M.kept.head,I M.kept.free,I M.m.root,I M.m.used,I M.m.head,I M.m.free, .map π.bi, .map π.bc] 6 [I M.m.root,I M.m.used,I M.m.head,I M.m.free]=[.ptr π.a 0, .ptr r' 0,I M.first,I M.aE, .map mo, .map π.bn,I M.m.root,I M.m.used,I M.m.head,I M.m.free,I M.m.root,I M.m.used,I M.m.head,I M.m.free, .map π.bi, .map π.bc]:=rfl;have kG:bp [.ptr π.a 0, .ptr r' 0,I M.first,I M.aE, .map mo, .map π.bn,I M.m.root,I M.m.used,I M.m.head,I M.m.free,I M.m.root,I M.m.used,I M.m.head,I M.m.free, .map π.bi, .map π.bc] 5 [.map dj.next]=[.ptr π.a 0, .ptr r' 0,I M.first,I M.aE, .map mo, .map dj.next,I M.m.root,I M.m.used,I M.m.head,I M.m.free,I M.m.root,I M.m.used,I M.m.head,I M.m.free, .map π.bi, .map π.bc]:=rfl;have CK:bp [.ptr π.a 0, .ptr r' 0,I M.first,I M.aE, .map mo, .map dj.next,I M.m.root,I M.m.used,I M.m.head,I M.m.free,I M.m.root,I M.m.used,I M.m.head,I M.m.free, .map π.bi, .map π.bc] 15 [.map (dj.next+1)]=[.ptr π.a 0, .ptr r' 0,I M.first,I M.aE, .map mo, .map dj.next,I M.m.root,I M.m.used,I M.m.head,I M.m.free,I M.m.root,I M.m.used,I M.m.head,I M.m.free, .map π.bi, .map (dj.next+1)]:=rfl
  have I6:∀{s:St} {l l':List CV} {K:St->Prop},s.mem.get π.p=some (.cells l 158 false)->10<=l.length->bp l 6 [I M.m.root,I M.m.used,I M.m.head,I M.m.free]=l'->K (St.set s π.p (.cells l' 158 false))->lz 4 6 (.ptr π.p 0) (.agg [I M.m.root,I M.m.used,I M.m.head,I M.m.free]) s K:=by
   intro s l l' K hg h3 h4 hK;simp only[lz,br,ah,af,aF,hg,aR,aX,aAF,h4];exact⟨⟨rfl,rfl,by omega⟩,hK⟩
  have Tn:∀{s:St} {l l':List CV} {o b:Nat} {K:St->Prop},s.mem.get π.p=some (.cells l 158 false)->o<l.length->bp l o [.map b]=l'->K (St.set s π.p (.cells l' 158 false))->lz 1 o (.ptr π.p 0) (.map b) s K:=by
   intro s l l' o b K hg h3 h4 hK;have Rq:(CV.map b).cD=[.map b]:=rfl;simp only[lz,br,ah,af,aF,hg,aR,Rq,aAF,h4];exact⟨⟨rfl,rfl,h3⟩,hK⟩
  refine I6 akE (by simp) qA ?_;refine Tn (ao _ _ _) (by simp) kG ?_;rw[set_set];refine Tn (ao _ _ _) (by simp) CK ?_;rw[set_set];have yT:∀b∈[π.p,mo,π.bn,π.bi,π.bc],b<iL.next:=sZ.lt;have Jm:=yT π.p (by simp);have Gu:=yT mo (by simp);have hb3:=yT π.bn (by simp);have hb4:=yT π.bi (by simp);have hb5:=yT π.bc (by simp);have n20:=Hy.next;have IZ:Kp [π.p] iK (St.set iK π.p (.cells [.ptr π.a 0, .ptr r' 0,I M.first,I M.aE, .map mo, .map dj.next,I M.m.root,I M.m.used,I M.m.head,I M.m.free,I M.m.root,I M.m.used,I M.m.head,I M.m.free, .map π.bi, .map (dj.next+1)] 158 false)):=(Kp.refl _ iK).set _ (.inl (by simp)) (by omega);have XL:(St.set iK π.p (.cells [.ptr π.a 0, .ptr r' 0,I M.first,I M.aE, .map mo, .map dj.next,I M.m.root,I M.m.used,I M.m.head,I M.m.free,I M.m.root,I M.m.used,I M.m.head,I M.m.free, .map π.bi, .map (dj.next+1)] 158 false)).mem.get π.p=some (.cells [.ptr π.a 0, .ptr r' 0,I M.first,I M.aE, .map mo, .map dj.next,I M.m.root,I M.m.used,I M.m.head,I M.m.free,I M.m.root,I M.m.used,I M.m.head,I M.m.free, .map π.bi, .map (dj.next+1)] 158 false):=ao _ _ _;have n21:(St.set iK π.p (.cells [.ptr π.a 0, .ptr r' 0,I M.first,I M.aE, .map mo, .map dj.next,I M.m.root,I M.m.used,I M.m.head,I M.m.free,I M.m.root,I M.m.used,I M.m.head,I M.m.free, .map π.bi, .map (dj.next+1)] 158 false)).next=iK.next:=rfl;generalize St.set iK π.p (.cells [.ptr π.a 0, .ptr r' 0,I M.first,I M.aE, .map mo, .map dj.next,I M.m.root,I M.m.used,I M.m.head,I M.m.free,I M.m.root,I M.m.used,I M.m.head,I M.m.free, .map π.bi, .map (dj.next+1)] 158 false)=fy at*;have Uu:Kp [π.p] dj fy:=(Hy.mono (by simp)).trans IZ fun q hq=> .inl hq;have JE:Kp [π.p,mo] iL fy:=(Uv.mono (by simp)).trans Uu (by simp);have TM:IsMap fy mo (fZ (gD (lp nO M.now) 0 (bI M.m))):=w3.mono (Uu.keep mo (by omega) (by simp;exact aBE v1));have acO:da fy π.bi (sS M.idle):=sZ.idle.mono (JE.keep π.bi hb4 (by simp;exact⟨aBE v3,aBE v6⟩));have afR:da fy dj.next []:=z1.mono (IZ.keep dj.next (by omega) (by simp;omega))
  have afQ:da fy (dj.next+1) []:=z2.mono (IZ.keep (dj.next+1) (by omega) (by simp;omega))
  have TN:∀n,dg (gD (lp nO M.now) 0 (bI M.m)) n=dg (dV [] (Ls'++[l])) n:=fun n=>by
   rw[oR,J8,pO,AT l _ n (by rw[<-hl,mi];exact RI),TB,<-hA.dir]
   by_cases h0:n=0
   ·rw[aAI h0,aAI h0];rfl
   ·rw[aAH h0,aAH h0]
  have EY:(D2.flush.2).ay.length=π.D.ay.length:=f3.trans (hA.wrote.ay.trans rp);have Tr:=Ty.rep;rw[EY]at Tr
  have abp:=(Tr.congr (M':=⟨M.first,M.aE,gD (lp nO M.now) 0 (bI M.m),[],M.m,M.m,G.fr,[]⟩) (D':=D2.flush.2) (fun n _=>by
   rw[lH];show(rl M.first M.aE (gD (lp nO M.now) 0 (bI M.m)) M.m G.fr).get _ n=_;rw[lH,TN,R5]) HR rfl rfl rfl rfl R5 rfl).Vm M.idle gE.idle gE.wU
  have aqi:∀b∈F3,(b∈D'.ay.map (fun _=>0)\/True)->b∈F'\/eV.next<=b:=fun b hb _=>xE b hb;have HD:∀b∈[π.p,mo,π.bn,π.bi,π.bc],b<eV.next:=hA.ql.lt
  have adn:∀b∈F3,b∉[π.p,mo,π.bi]/\b<iL.next:=fun b hb=>by
   refine⟨fun hh=> ?_,KB.lt b hb⟩;rcases xE b hb with h1|h1
   ·exact hA.Uo b h1 (by simp at hh⊢;rcases hh with hh|hh|hh<;>simp[hh])
   ·have h2:b<eV.next:=by
     simp only[aAD,aBo,aCg]at hh;rcases hh with hh|hh|hh
     ·rw[hh];exact HD _ (by simp)
     ·rw[hh];exact HD _ (by simp)
     ·rw[hh];exact HD _ (by simp)
    omega
  have ajW:=I7.1;have YQ:=hA.rP;simp only[aAD,aBo,aCg,aBY]at YQ;have Rr:=I7.keep JE (by simp;exact⟨YQ.1,YQ.2.1⟩);have alP:=KB.keep JE fun b hb hh=>(adn b hb).1 (by simp at hh⊢;rcases hh with hh|hh<;>simp[hh]);have alI:((gD (lp nO M.now) 0 (bI M.m)).map (·.1)).Nodup:=il (by rw[<-kg];exact TM.nd)
  have acA:∀e∈gD (lp nO M.now) 0 (bI M.m),e.1<M.aE/\e.2.length=512:=fun e he=>by
   rcases Ef he with h1|h1
   ·unfold lp at h1;rcases aAM.1 h1 with h2|h2
    ·exact hA.wm e (aCs.1 h2).1
    ·exact NB e h2
   ·rw[h1];exact⟨by have:=gE.aE;have:=gE.ok.one;show 0<M.aE;omega,gK _⟩
  have aue:st.next<=bU.next:=Yk.next;refine .inr ⟨rfl,⟨π.p,π.a, .ptr r' 0,mo,dj.next,π.bi,dj.next+1,F3,D2.flush.2,gD (lp nO M.now) 0 (bI M.m),M.m,1+π.D.ay.length/4⟩,r,rfl,rfl,⟨⟨M.first,M.aE,gD (lp nO M.now) 0 (bI M.m),[],M.m,M.m,M.idle,[]⟩,⟨XL,TM,afR,acO,afQ, ?_, ?_,⟨rfl,rfl,rfl⟩⟩,abp,alP,f2.dead,fun b hb hh=> ?_,rfl,rfl,R5⟩,⟨⟨Up,aav+bj (fH l).length,_,Ls'++[l],r',Ty,by have:=hA.T;omega,rfl, ?_, ?_,TN⟩,by show 1+π.D.ay.length/4=1+(D2.flush.2).ay.length/4;rw[EY],fun e he=> ?_,alI⟩,Gm,⟨r',rfl,hA.rN.imp id fun h=>by omega⟩, ?_,fun b hb=> ?_,EY⟩
  ·simp only[aAQ,aAD,aBo,aCg,aBY];exact⟨⟨v1,by omega,v3,by omega⟩,⟨by omega,v6,by omega⟩,⟨by omega,by omega⟩,by omega,not_false,aDc⟩
  ·intro b hb;simp at hb;omega
  ·have h1:=adn b hb;simp only[aAD,aBo,aCg,aBY]at hh h1;rcases hh with hh|hh|hh|hh|hh
   ·exact h1.1.1 hh
   ·exact h1.1.2.1 hh
   ·omega
   ·exact h1.1.2.2 hh
   ·omega
  ·show fE fy r' π.a ⟨1,(D2.flush.2).ay.length/4,Up,_,_⟩;rw[EY,<-rp];exact Rr
  ·unfold PI.all;simp only[aAD,aBY];refine⟨YQ.1,YQ.2.1,by omega,YQ.2.2.2.1,by omega,fun hh=> ?_⟩;rcases xE r' hh with h1|h1
   ·exact hA.rF h1
   ·have:=hA.ring.1;omega
  ·show e.1<(D2.flush.2).ay.length-1-(D2.flush.2).ay.length/4/\_;rw[EY,<-HR];exact acA e he
  ·have q1:Kp (r::π.all) st bU:=Yk.mono (by intro q hq;left;simp at hq;subst hq;unfold PI.all;simp);have q2:Kp (r::π.all) st eV:=q1.trans hA.kp fun q hq=> .inl hq
   have q3:Kp (r::π.all) st iL:=q2.trans pe fun q hq=>by
    rcases hA.FN q hq with h1|h1
    ·left;simp[PI.wz h1]
    ·right;omega
   exact q3.trans JE fun q hq=>by
    simp only[aAD,aBo,aCg]at hq;rcases hq with hq|hq
    ·left;rw[hq];unfold PI.all;simp
    ·rcases hA.bdN with h1|h1
     ·left;rw[hq,h1];unfold PI.all;simp
     ·right;omega
  ·unfold PI.all at hb;simp only[aAD]at hb;rcases hb with hb|hb|hb|hb|hb|hb
   ·left;rw[hb];unfold PI.all;simp
   ·rcases hA.bdN with h1|h1
    ·left;rw[hb,h1];unfold PI.all;simp
    ·right;omega
   ·right;omega
   ·left;rw[hb];unfold PI.all;simp
   ·right;omega
   ·rcases xE b hb with h1|h1
    ·rcases hA.FN b h1 with h2|h2
     ·left;exact PI.wz h2
     ·right;omega
    ·right;omega
end
structure gO (τ:Nat)(π:PI)(st:St)(L Lk:List bA)(T N fr:Nat):Prop where
 ex:∃G Gk,Tg τ π st G/\ic G L/\jm π st Gk T/\ic Gk Lk/\G.aE=Gk.aE/\G.cJ=fr
 calm:Calm π.D
 len:π.D.ay.length=N
def own (τ:Nat)(π:PI):List Nat:=τ::((match π.lg with| .ptr r _=>[r]|_=>[])++π.all)
def rQ (τ:Nat)(π π':PI)(st st':St):Prop:=Kp (own τ π) st st'/\∀b∈own τ π',b∈own τ π\/st.next<=b
theorem lQ {τ:Nat}{π:PI}{b:Nat}(h:b∈π.all):b∈own τ π:=by unfold own;simp[h]
theorem Fs {τ:Nat}{π:PI}{st st':St}(h:Kp π.W st st'):rQ τ π π st st':=⟨h.mono fun q hq=> .inl (lQ (PI.Bw hq)),fun b hb=> .inl hb⟩
theorem vm {τ:Nat}{π:PI}{st st':St}(h:Kp [] st st'):rQ τ π π st st':=⟨h.mono (by simp),fun b hb=> .inl hb⟩
section
variable {τ:Nat} {π:PI} {st st':St} {L Lk:List bA} {T N fr:Nat}
theorem jm.log {Gk:GM}(h:jm π st Gk T):∃r,π.lg= .ptr r 0/\r∉π.all/\r<st.next:=by
 obtain⟨base,last,P,Ls,r,a,b,c,d,e,f⟩:=h.ex;exact⟨r,c,e,d.1⟩
theorem jm.S0 {Gk:GM}(h:jm π st Gk T)(hk:Kp π.W st st'):jm π st' Gk T:=by
 obtain⟨r,h1,h2,_⟩:=h.log;refine h.keep hk fun r' e=> ?_;rw[h1]at e;cases e;exact fun hh=>h2 (PI.Bw hh)
theorem jm.still {Gk:GM}(h:jm π st Gk T)(hk:Kp [] st st'):jm π st' Gk T:=h.keep hk (by simp)
theorem gO.still (h:gO τ π st L Lk T N fr)(hk:Kp [] st st'):gO τ π st' L Lk T N fr:=by
 obtain⟨⟨G,Gk,a,b,c,d,e,e'⟩,f,g⟩:=h;exact⟨⟨G,Gk,a.still hk,b,c.still hk,d,e,e'⟩,f,g⟩
theorem Mx {G:GM}(h:ic G L):G.root=0\/G.bP G.root:=by
 rcases h.tree with h1|⟨hh,ps,_,hs⟩
 ·exact .inl h1.1
 ·obtain⟨n,q,hn,_⟩:=hs;exact .inr hn.bP
theorem GH (h:gO τ π st L Lk T N fr)(hT:T<=900000000)(hN:N<=8000):R 40 [.ptr τ 0] st fun v st'=>(v=I 3/\Kp [] st st')\/(v=I 0/\∃π',π'.a=π.a/\rQ τ π π' st st'/\gO τ π' st' L L (T+10000) N fr):=by
 obtain⟨⟨G,Gk,ht,hL,hk,DA,qz,iE⟩,hc,hl⟩:=h;refine bN ?_;rw[w40];rw[cU,af,ag,aAH (by decide)];refine ht.get' ?_;refine(Hh ht.pg hk ht.fr hT (by omega) (Mx hL) qz).mono ?_;rintro v s1 (⟨rfl,k1⟩|⟨rfl,π',r,e1,e2,hp',Bi,Gm,⟨r',akT,zN⟩,k1,fP,hlen⟩)
 ·exact .inl ⟨rfl,k1⟩
 ·obtain⟨r2,l1,l2,l3⟩:=hk.log;obtain⟨ty,g,hg⟩:=ht.get;have hrr:r2=r:=by rw[l1]at Gm;cases Gm;rfl
  have yV:τ∉r::π.all:=fun hh=>by
   rcases aAD.1 hh with hh|hh
   ·have hd:=hk.ex;obtain⟨_,_,_,_,r3,_,_,c,d,_,_⟩:=hd;have:r3=r:=by rw[c]at Gm;cases Gm;rfl
    rw[this]at d;have h1:=d.2;rw[<-hh,hg]at h1;simp at h1
   ·exact ht.not hh
  have Xc:rQ τ π π' st s1:=by
   refine⟨k1.mono fun q hq=> .inl ?_,fun b hb=> ?_⟩
   ·rcases aAD.1 hq with h1|h1
    ·unfold own;rw[Gm];simp[h1]
    ·exact lQ h1
   ·unfold own at hb;rw[akT]at hb;rcases aAD.1 hb with h1|h1
    ·left;unfold own;simp[h1]
    ·rcases aAM.1 h1 with h2|h2
     ·have h2:b=r':=by simpa using h2
      rcases zN with h3|h3
      ·left;unfold own;rw[Gm];simp[h2,h3]
      ·right;omega
     ·exact(fP b h2).imp lQ id
  refine .inr ⟨rfl,π',e2,Xc,⟨G,G,⟨hp',aAZ ht.lt k1.next,fun hh=> ?_,⟨ty,g, ?_⟩,k1.fresh ht.fr⟩,hL,Bi,hL,rfl,iE⟩, ?_,hlen.trans hl⟩
  ·rcases fP τ hh with h1|h1
   ·exact ht.not h1
   ·have:=ht.lt;omega
  ·rw[e1];exact(k1.keep τ ht.lt yV).trans hg
  ·obtain⟨_,_,_,_,_,hok,_⟩:=Bi.ex;exact hok.calm
def Yf (τ:Nat)(π:PI)(L Lk:List bA)(T N fr:Nat)(key v:List UInt8)(st:St)(y:CV)(st':St):Prop:=
 rQ τ π π st st'/\(y=I (if 48<key.length\/8192<v.length then 1 else if fr<24+dK v.length then 3 else 0:Nat))/\∃fr',gO τ π st' (if 48<key.length\/8192<v.length then L else if fr<24+dK v.length then L else uN L key v) Lk T N fr'
theorem ZM (h:gO τ π st L Lk T N fr)(key v:List UInt8):R 11 [.ptr τ 0, .str key, .str v] st fun y st'=>Yf τ π L Lk T N fr key v st y st':=by
 have h0:=h;obtain⟨⟨G,Gk,ht,hL,hk,DA,qz,rfl⟩,hc,hl⟩:=h;refine(Qn ht hL key v).mono ?_;intro y st' hy;unfold zC at hy;unfold Yf
 by_cases h1:48<key.length\/8192<v.length
 ·rw[aAI h1]at hy;rw[aAI h1,aAI h1];exact⟨vm hy.2,hy.1,_,h0.still hy.2⟩
 ·rw[aAH h1]at hy;rw[aAH h1,aAH h1]
  by_cases h2:G.cJ<24+dK v.length
  ·rw[aAI h2]at hy;rw[aAI h2,aAI h2];exact⟨vm hy.2,hy.1,_,h0.still hy.2⟩
  ·rw[aAH h2]at hy;rw[aAH h2,aAH h2];obtain⟨rfl,k1,G',t',o',hp⟩:=hy;exact⟨Fs k1,rfl,_,⟨G',Gk,t',o',hk.S0 k1,DA,hp.trans qz,rfl⟩,hc,hl⟩
def Yt (τ:Nat)(π:PI)(L Lk:List bA)(T N fr:Nat)(key:List UInt8)(st:St)(y:CV)(st':St):Prop:=
 rQ τ π π st st'/\(y=if 48<key.length then .tuple [.bool false,I 1]else if fr<24 then .tuple [.bool false,I 3]else .tuple [.bool (kJ L key).isSome,I 0])/\∃fr',gO τ π st' (if 48<key.length then L else if fr<24 then L else pj L key) Lk T N fr'
theorem ZP (h:gO τ π st L Lk T N fr)(key:List UInt8):R 41 [.ptr τ 0, .str key] st fun y st'=>Yt τ π L Lk T N fr key st y st':=by
 have h0:=h;obtain⟨⟨G,Gk,ht,hL,hk,DA,qz,rfl⟩,hc,hl⟩:=h;refine(Qr ht hL key).mono ?_;intro y st' hy;unfold Il at hy;unfold Yt
 by_cases h1:48<key.length
 ·rw[aAI h1]at hy;rw[aAI h1,aAI h1];exact⟨vm hy.2,hy.1,_,h0.still hy.2⟩
 ·rw[aAH h1]at hy;rw[aAH h1,aAH h1]
  by_cases h2:G.cJ<24
  ·rw[aAI h2]at hy;rw[aAI h2,aAI h2];exact⟨vm hy.2,hy.1,_,h0.still hy.2⟩
  ·rw[aAH h2]at hy;rw[aAH h2,aAH h2];obtain⟨rfl,k1,G',t',o',hp⟩:=hy;exact⟨Fs k1,rfl,_,⟨G',Gk,t',o',hk.S0 k1,DA,hp.trans qz,rfl⟩,hc,hl⟩
theorem JM (h:gO τ π st L Lk T N fr):R 59 [.ptr τ 0] st fun v st'=>v=I 0/\∃π' fr',π'.a=π.a/\rQ τ π π' st st'/\gO τ π' st' Lk Lk T N fr':=by
 obtain⟨⟨G,Gk,ht,hL,hk,DA,qz,rfl⟩,hc,hl⟩:=h;refine bN ?_;rw[w59];rw[cU,af,ag,aAH (by decide)];refine ht.get' ?_;obtain⟨M,hP,gE,hd,qI,hF,Zd,hM7,hM8⟩:=ht.pg;obtain⟨⟨base,last,P,Ls,r,hok,Y1,Gm,lr,LF,Aq⟩,hkf,hke,qB⟩:=hk
 have HR:M.aE=π.D.ay.length-1-π.D.ay.length/4:=by
  have a1:M.aE=G.aE:=gE.aE;have a2:π.D.ay.length-1-π.D.ay.length/4=Gk.aE:=hok.rep.aE;omega
 have R5:M.first=1+π.D.ay.length/4:=by rw[hM8,hkf]
 have Gx:=hok.least
 have hgk:∀n,({M with now:=[]}:bS).get π.D n=(rl (1+π.D.ay.length/4) (π.D.ay.length-1-π.D.ay.length/4) (dV [] Ls) π.kept Gk.fr).get π.D n:=fun n=>by
  rw[lH,<-Aq,<-Zd];show(match dg [] n with|some s=>s|none=>match dg M.dirty n with|some s=>s|none=>π.D.cur (M.first+n))=_;rw[R5];cases dg M.dirty n<;>rfl
 have avB:π.D.ay.length-1-π.D.ay.length/4=Gk.aE:=hok.rep.aE;have TA:=hok.rep.ok.jv;refine(FW (m':=π.kept) (frs:=Gk.fr) hP hd qI (fun b hb e=>hF b hb (by simp[e])) ((hgk 0).trans hok.zero) hok.SY (by omega) (by omega) hok.rep.head (fun n hn=>⟨(hok.rep.ok.fr n hn).1,by have:=(hok.rep.ok.fr n hn).2;omega⟩) hok.rep.ok.nd (hok.rep.chain.congr fun n _=>hgk n)).mono ?_;rintro _ s1 ⟨rfl,k1,PV,PW,PX,hP',ji⟩;have yU:=hP.lt;have KF:=hd.lt;obtain⟨ty,g,hg⟩:=ht.get;have htp:τ≠π.p:=fun e=>ht.not (by unfold PI.all;simp[e]);have htn:=ht.not;have abc:=ht.lt;have hrp:r≠π.p:=fun e=>LF (by unfold PI.all;simp[e]);have Nt:=lr.1;have Bf:=ji PV (by simp);have YY:=ji PW (by simp);have hn3:=ji PX (by simp)
 have Oa:∀b,b∈({π with bn:=PV,bi:=PW,bc:=PX}:PI).all->b∈π.all\/st.next<=b:=fun b hb=>by
  unfold PI.all at hb⊢;simp only[aAD]at hb⊢;rcases hb with hb|hb|hb|hb|hb|hb
  ·left;simp[hb]
  ·left;simp[hb]
  ·right;omega
  ·right;omega
  ·right;omega
  ·left;simp[hb]
 have abq:sN (M.clean π.kept Gk.fr) π.D Gk:=hok.rep.congr (fun n _=>hgk n) HR rfl rfl rfl rfl R5 rfl
 have Xc:rQ τ π {π with bn:=PV,bi:=PW,bc:=PX} st s1:=by
  refine⟨k1.mono fun q hq=> .inl (lQ (by simp at hq;subst hq;unfold PI.all;simp)),fun b hb=> ?_⟩;unfold own at hb;rcases aAD.1 hb with h1|h1
  ·left;unfold own;simp[h1]
  ·rcases aAM.1 h1 with h2|h2
   ·left;unfold own;exact aBk _ (aCt _ h2)
   ·exact(Oa b h2).imp lQ id
 refine⟨rfl,{π with bn:=PV,bi:=PW,bc:=PX},_,rfl,Xc,⟨Gk,Gk,⟨⟨M.clean π.kept Gk.fr,hP',abq,hd.keep k1 fun b hb hh=>hF b hb (by simp at hh;simp[hh]),qI,fun b hb hh=> ?_,Zd,rfl,hM8⟩,aAZ abc k1.next,fun hh=> ?_,⟨ty,g,(k1.keep τ abc (by simpa using htp)).trans hg⟩,k1.fresh ht.fr⟩,DA,⟨⟨base,last,P,Ls,r,hok,Y1,Gm,lr.keep k1 (by simpa using hrp),fun hh=> ?_,Aq⟩,hkf,hke,qB⟩,DA,rfl,rfl⟩,hc,hl⟩
 ·have h1:=KF b hb;simp only[aAD,aBo,aCg]at hh;rcases hh with hh|hh|hh|hh|hh
  ·exact hF b hb (by simp[hh])
  ·exact hF b hb (by simp[hh])
  ·omega
  ·omega
  ·omega
 ·rcases Oa τ hh with h1|h1
  ·exact htn h1
  ·omega
 ·rcases Oa r hh with h1|h1
  ·exact LF h1
  ·omega
theorem Ve (h:gO τ π st L Lk T N fr)(hT:T<=900000000):R 23 [.ptr π.a 0] st fun v st'=>∃π' Gk,v= .tuple [.ptr π'.p 0,I 0]/\π'.a=π.a/\Pg π' st' Gk/\cY st'/\jm π' st' Gk T/\ic Gk Lk/\Calm π'.D/\π'.D.ay.length=N/\Kp π.Fd st st'/\(∀b∈π'.all,b∈π.Fd\/st.next<=b)/\∃r,π'.lg= .ptr r 0/\st.next<=r:=by
 obtain⟨⟨G,Gk,ht,hL,hk,DA,qz,rfl⟩,hc,hl⟩:=h;obtain⟨M,hP,gE,hd,qI,hF,Zd,hM7,hM8⟩:=ht.pg;obtain⟨⟨base,last,P,Ls,r,hok,Y1,Gm,lr,LF,Aq⟩,hkf,hke,qB⟩:=hk;refine(QK hd ht.fr hok (by omega)).mono ?_;rintro v s1 ⟨π',rfl,e1,hp,Bi,k1,fP,_,oD,Gn,hlr⟩;obtain⟨⟨b2,l2,P2,Ls2,r2,a1,a2,a3,a4,a5,a6⟩,b1,b2',b3⟩:=Bi;exact⟨π',Gk,rfl,e1,hp,k1.fresh ht.fr,⟨⟨b2,l2,P2,Ls2,r2,a1,by omega,a3,a4,a5,a6⟩,b1,b2',b3⟩,DA,oD,Gn.trans hl,k1,fP,hlr⟩
theorem SK {π:PI}{Gk:GM}(hp:Pg π st Gk)(hf:cY st)(hk:jm π st Gk T)(hL:ic Gk Lk)(hc:Calm π.D)(hl:π.D.ay.length=N):R 24 [.ptr π.p 0] st fun v st'=>∃τ,v= .ptr τ 0/\st.next<=τ/\Kp [] st st'/\gO τ π st' Lk Lk T N Gk.cJ:=by
 refine(Qp hp hf).mono ?_;rintro v s1 ⟨rfl,k1,t⟩;exact⟨_,rfl,aAE _,k1,⟨Gk,Gk,t,hL,hk.still k1,hL,rfl,rfl⟩,hc,hl⟩
end
