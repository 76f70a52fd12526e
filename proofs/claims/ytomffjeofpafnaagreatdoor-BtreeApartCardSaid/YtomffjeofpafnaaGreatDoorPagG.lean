import Derived.Test.YtomffjeofpafnaaGreatDoorPagF
import Derived.Test.YtomffjeofpafnaaGreatDoorBtE
namespace Lim
open Go
noncomputable section
set_option maxRecDepth 100000
theorem RN {l:List eB}{n:Nat}{s:jk}(h:n∉l.map (·.1)):gH l n s=l++[(n,s)]:=by
 induction l with
 |nil=>rfl
 |cons p r ih=>
  simp only[aBA,aAX,aCr]at h;simp only[gH,aAZ h.1,aBR];rw[ih h.2]
theorem ED {l:List eB}(h:(l.map (·.1)).Nodup){e:eB}(he:e∈l):dh l e.1=some e.2:=by
 induction l with
 |nil=>cases he
 |cons p r ih=>
  rw[aBA,aBi]at h;simp only[dh];rcases aAX.1 he with rfl|he
  ·rw[aBb rfl]
  ·rw[aAZ (fun hh=>h.1 (by rw[<-hh];exact aCb he))];exact ih h.2 he
theorem tm.VT {M:bR}{D:aV}{G:GM}(h:tm M D G)(idle:List Nat)(hi:∀n,n∈idle↔n∈G.fr)(hn:idle.Nodup):tm {M with idle:=idle} D G:=
 ⟨h.aE,h.used,h.root,h.head,h.free,hi,hn,h.ok,h.fits,h.len,h.cont,h.chain.congr fun _ _=>rfl,h.count,h.qt,h.rp⟩
structure J0 (π:PI)(r0:Nat)(M:bR)(G Gk:GM)(T:Nat)(sB s:St)(nZ:List eB)(bd r:Nat)(F:List Nat)(D:aV)(base last:Nat)(P:Nat->Piece)(Ls:List (List eB)):Prop where
 qC:cG s π.p π.a (.ptr r 0) {M with dirty:=nZ} bd π.bn π.bi π.bc
 DB:dt s π.a F D
 ok:jJ D Gk base last P Ls π.kept
 len:D.ay.length=π.D.ay.length
 dir:∀n,dh nZ n=dh (dX [] Ls) n
 wC:∀e∈nZ,e.1<M.aE/\e.2.length=512
 ring:fF s r π.a ⟨1,D.ay.length/4,base,last,last⟩
 rF:r∉F
 rP:r∉[π.p,bd,π.bn,π.bi,π.bc]
 Vj:∀b∈F,b∉[π.p,bd,π.bn,π.bi,π.bc]
 T:last<=T
 bdN:bd=π.bd\/sB.next<=bd
 rN:r=r0\/sB.next<=r
 FN:∀b∈F,b∈π.Fd\/sB.next<=b
 kp:Kp (r0::π.all) sB s
 fresh:cT s
 rep:tm {M with dirty:=nZ} D G
structure Ac (π:PI)(r0:Nat)(M:bR)(G Gk:GM)(T:Nat)(l:List eB)(sB s:St)(nZ:List eB)(bd r:Nat)(F:List Nat)(D D':aV)(base last:Nat)(P:Nat->Piece)(Ls:List (List eB)):Prop where
 qC:cG s π.p π.a (.ptr r 0) {M with dirty:=nZ} bd π.bn π.bi π.bc
 DB:dt s π.a F D'
 ok:jJ D Gk base last P Ls π.kept
 wrote:Qh D D' (D.ay.length/4) (uQ P (D.ay.length/4) (fJ l) last (bp (fJ l).length)) (bp (fJ l).length)
 len:D.ay.length=π.D.ay.length
 dir:∀n,dh nZ n=dh (dX [] Ls) n
 wC:∀e∈nZ,e.1<M.aE/\e.2.length=512
 ring:fF s r π.a ⟨1,D.ay.length/4,base,last+bp (fJ l).length,last+bp (fJ l).length⟩
 rF:r∉F
 rP:r∉[π.p,bd,π.bn,π.bi,π.bc]
 Vj:∀b∈F,b∉[π.p,bd,π.bn,π.bi,π.bc]
 T:last<=T
 room:bp (fJ l).length+(last-base)<=D.ay.length/4
 bdN:bd=π.bd\/sB.next<=bd
 rN:r=r0\/sB.next<=r
 FN:∀b∈F,b∈π.Fd\/sB.next<=b
 kp:Kp (r0::π.all) sB s
 fresh:cT s
 rep:tm {M with dirty:=nZ} D G
theorem PI.wI {π:PI}{b:Nat}(h:b∈π.Fd):b∈π.all:=by unfold PI.all;simp[h]
theorem uP {π:PI}{r0:Nat}{M:bR}{G Gk:GM}{T:Nat}{sB s:St}{nZ:List eB}{bd r:Nat}{F:List Nat}{D:aV}{base last:Nat}{P:Nat->Piece}{Ls:List (List eB)}(h:J0 π r0 M G Gk T sB s nZ bd r F D base last P Ls){l:List eB}{rec:CV}(akr:Sl s F rec 1 (ai (fJ l)))(hl:(fJ l).length<=1000000)(hT:T<=900000000)(tE:bp (fJ l).length+(last-base)<=D.ay.length/4):
 R 131 [.ptr r 0,rec] s fun x s'=>x=I 0/\∃F' D',Ac π r0 M G Gk T l sB s' nZ bd r F' D D' base last P Ls:=by
 have Mh:=h.ok.least;have h65:=h.ok.jF;have tk:=h.ok.laid.le.1;have hlT:=h.T;have hp:bp (fJ l).length<=1000000:=by omega
 have QI:(⟨1,D.ay.length/4,base,last,last⟩:RingM).room=(D.ay.length/4:Nat)-((last:Int)-base):=by unfold RingM.room;rw[aAZ (by simp)]
 refine(LO h.fresh h.ring h.DB h.rF h.ok.calm.dead akr hl (by show 0<D.ay.length/4;omega) (by show 1+D.ay.length/4<=_;omega) (by show base<=_;omega) (by show last<=_;omega) (by show _<=D.ay.length/4;omega) (by simp) (by rw[QI];omega) (by rw[h.ok.waits];simp)).mono ?_;rintro x s' ⟨res,HU,rfl,k1,⟨F',DR,qN⟩,nG⟩;obtain⟨w1,w2⟩:=Kh (D:=D) (count:=D.ay.length/4) (base:=base) (last:=last) (top:=last) (P:=P) (rec:=fJ l) h.ok.calm (by unfold aV.zi;rw[h.ok.waits];simp) (by omega) (by omega) h.ok.pT (by omega) hp _ (aAU _);rw[HU]at w1 w2;rw[aBb w1]at nG;have hlt:=h.qC.lt;have Su:=h.ring.1;have hn:=h.kp.next;have Tb:=h.DB.lt;refine⟨by rw[aBb w1],F',res.2, ?_,DR,h.ok,w2,h.len,h.dir,h.wC,nG,fun hh=> ?_,h.rP,fun b hb hh=> ?_,h.T,tE,h.bdN,h.rN,fun b hb=> ?_, ?_,k1.fresh h.fresh,h.rep⟩
 ·exact h.qC.keep k1 fun b hb hh=>by
   rcases aAX.1 hh with hh|hh
   ·exact h.rP (hh▸hb)
   ·exact h.Vj b hh hb
 ·rcases qN r hh with h1|h1
  ·exact h.rF h1
  ·omega
 ·rcases qN b hb with h1|h1
  ·exact h.Vj b h1 hh
  ·have:=hlt b hh;omega
 ·rcases qN b hb with h1|h1
  ·exact h.FN b h1
  ·right;omega
 ·refine h.kp.trans k1 fun q hq=> ?_;rcases aAX.1 hq with hq|hq
  ·exact h.rN.imp (fun e=>by simp[hq,e]) (fun e=>by omega)
  ·exact(h.FN q hq).imp (fun e=>by simp[PI.wI e]) id
theorem Cy {π:PI}{r0:Nat}{M:bR}{G Gk:GM}{T:Nat}{sB s:St}{nZ:List eB}{bd r:Nat}{F:List Nat}{D:aV}{base last:Nat}{P:Nat->Piece}{Ls:List (List eB)}(h:J0 π r0 M G Gk T sB s nZ bd r F D base last P Ls)(hT:T<=900000000)(hf:M.first=1+D.ay.length/4)(sG:M.first+M.aE=D.ay.length):
 R 73 [.ptr π.p 0,I last] s fun x s'=>x=I 0/\∃mi r' F' D',J0 π r0 M G Gk T sB s' [] mi r' F' D' last last P []:=by
 have Mh:=h.ok.least;have h65:=h.ok.jF;have tk:=h.ok.laid.le.1;have hlT:=h.T;have hlt:=h.qC.lt;have Su:=h.ring.1;have hn:=h.kp.next;have Tb:=h.DB.lt;have QR:(nZ.map (·.1)).Nodup:=im (by rw[<-kv];exact h.qC.dirty.nd)
 have GP:nZ.length<=65536:=by
  have:=kQ 65536 (nZ.map (·.1)) QR fun x hx=>by
   obtain⟨e,he,rfl⟩:=aBv.1 hx;have:=(h.wC e he).1;omega
  rwa [aCa]at this
 refine(yJ (M:={M with dirty:=nZ}) h.qC h.DB h.ok.calm (by unfold aV.zi;rw[h.ok.waits];simp) (by rw[h.ok.waits];simp) h.fresh h.Vj (by show nZ.length<=_;omega) h.wC sG hf (by omega) (by omega) h.ok.pT).mono ?_;rintro _ s' ⟨rfl,k1,r',mi,F',D',hP',DR,mW,WH,GK,OH,Ak,awB,gT,qN,th⟩;have UZ:∀j,D'.cur j=if j=0 then dv last else if j<1+D.ay.length/4 then D.cur j else (dh nZ (j-(1+D.ay.length/4))).getD (D.cur j):=fun j=>by rw[th];show(if j=0 then _ else if j<M.first then _ else (dh nZ (j-M.first)).getD _)=_;rw[hf]
 have hok':=h.ok.settled h.dir mW WH GK UZ;have Df:=(hok'.opened).2;rw[GK]at Df;rw[Df]at OH;refine⟨rfl,mi,r',F',D',hP',DR,hok',GK.trans h.len,fun n=>rfl,by simp,by rw[GK];exact OH,fun hh=>(qN r' hh).2.1 rfl, ?_,fun b hb hh=> ?_,h.T, .inr (by omega), .inr (by omega),fun b hb=> ?_, ?_,k1.fresh h.fresh, ?_⟩
 ·have h1:=hlt π.p (by simp);have h2:=hlt π.bn (by simp);have h3:=hlt π.bi (by simp);have h4:=hlt π.bc (by simp);simp only[aAX,aBF,aCA,aCr];exact⟨by omega,gT,by omega,by omega,by omega⟩
 ·have h1:=qN b hb;simp only[aAX,aBF,aCA]at hh
  have jx:∀x∈[π.p,bd,π.bn,π.bi,π.bc],b=x->False:=fun x hx e=>by
   rcases h1.1 with h2|h2
   ·exact h.Vj b h2 (e▸hx)
   ·have:=hlt x hx;omega
  rcases hh with hh|hh|hh|hh|hh
  ·exact jx π.p (by simp) hh
  ·exact h1.2.2 hh
  ·exact jx π.bn (by simp) hh
  ·exact jx π.bi (by simp) hh
  ·exact jx π.bc (by simp) hh
 ·rcases(qN b hb).1 with h2|h2
  ·exact h.FN b h2
  ·right;omega
 ·refine h.kp.trans k1 fun q hq=> ?_;rcases aAX.1 hq with hq|hq
  ·left;rw[hq];unfold PI.all;simp
  ·exact(h.FN q hq).imp (fun e=>by simp[PI.wI e]) id
 ·refine h.rep.congr (fun n hn=> ?_) rfl rfl rfl rfl rfl rfl GK;unfold bR.get;show(match dh M.now n with|some s=>s|none=>match dh [] n with|some s=>s|none=>D'.cur (M.first+n))=match dh M.now n with|some s=>s|none=>match dh nZ n with|some s=>s|none=>D.cur (M.first+n)
  rw[UZ,aAZ (by omega),aAZ (by omega),show M.first+n-(1+D.ay.length/4)=n by omega];cases dh M.now n with
  |some s=>rfl
  |none=>cases dh nZ n<;>rfl
theorem VY:∀(n:Nat) (l:List Nat),l.Nodup->(∀x∈l,x<n)->l.length<=n:=by
 intro n
 induction n with
 |zero=>
  intro l _ h;cases l with
  |nil=>simp
  |cons a r=>exact absurd (h a (by simp)) (by omega)
 |succ n ih=>
  intro l hn h
  by_cases hm:n∈l
  ·have:=ih (l.erase n) (hn.erase n) fun x hx=>by
    have h1:=(hn.mem_erase_iff).1 hx;have:=h x h1.2;omega
   rw[List.length_erase_of_mem hm]at this;omega
  ·have:=ih l hn fun x hx=>by
    have:=h x hx;have:x≠n:=fun e=>hm (e▸hx);omega
   omega
section
variable {st st':St} {π:PI} {G Gk:GM} {T:Nat}
def LV (π:PI)(G:GM)(T:Nat)(st:St)(v:CV)(st':St):Prop:=
 (v=I 3/\Kp [] st st'/\π.D.ay.length/8<G.used)\/(v=I 0/\∃π' r,π'.p=π.p/\π'.a=π.a/\Pg π' st' G/\iD π' st' G T/\π.lg= .ptr r 0/\(∃r',π'.lg= .ptr r' 0/\(r'=r\/st.next<=r'))/\Kp (r::π.all) st st'/\(∀b∈π'.all,b∈π.all\/st.next<=b)/\π'.D.ay.length=π.D.ay.length)
set_option maxHeartbeats 2000000 in
theorem HB (h:Pg π st G)(hk:iD π st Gk T)(jy:cT st)(hT:T<=900000000)(Sq:π.D.ay.length<=8000)(vt:G.root=0\/G.bL G.root)(hGp:G.aE=Gk.aE):R 83 [.ptr π.p 0] st (LV π G (T+10000) st):=by
 obtain⟨M,hP,gI,hd,tf,hF,hM6,hM7,hM8⟩:=h;obtain⟨⟨base,last,P,Ls,r,hok,hlT,QP,nG,Ss,Il⟩,hkf,hke,rD⟩:=hk;rw[QP]at hP;have hMd:∀n,dh M.dirty n=dh (dX [] Ls) n:=by rw[hM6];exact Il
 have Mh:=hok.least;have BF:=hP.main;have oF:M.now.length=M.count.length:=by rw[<-gI.count,aCa]
 refine bO ?_;rw[w83];rw[cX,af,ag,aAZ (by decide),bG,bA,af,ah,af,az,BF,ar];simp only[aAT,aAS,aAQ,au]
 have XT:bo .map (.map π.bc) st= .ok (I M.count.length) st:=by
  have:=IsMap.len (.inl hP.count)
  rwa [show(sZ M.count).length=M.count.length by unfold sZ;simp]at this
 rw[XT,af,af,ah,af,az,BF,ar];simp only[aAT,aAS,aAQ,au];refine(wo hd).same ?_
 have e8:aj .quo none true (I π.D.ay.length) (.int .i64 8) st= .ok (I ((π.D.ay.length/8:Nat):Int)) st:=by
  have e0:aj .quo none true (I π.D.ay.length) (.int .i64 8) st= .ok (I (IntKind.i64.wrap (Int.tdiv π.D.ay.length 8))) st:=rfl;have e1:Int.tdiv (π.D.ay.length:Int) 8=((π.D.ay.length/8:Nat):Int):=rfl;rw[e0,e1,bD (by omega)]
 have egt:aj .gtr none false (I M.count.length) (I ((π.D.ay.length/8:Nat):Int)) st= .ok (.bool (decide (π.D.ay.length/8<M.count.length))) st:=by rw[av,dj];congr 2;simp only[aBu];omega
 rw[e8,af,egt,af];refine⟨⟨trivial,trivial,trivial,trivial⟩,trivial, ?_⟩;rw[ag]
 by_cases iR:π.D.ay.length/8<M.count.length
 ·rw[aBc iR,aBb rfl];exact .inl ⟨rfl,Kp.refl _ _,by have:=VY G.used M.count gI.qt fun n hn=>(gI.rp n hn).2;omega⟩
 rw[aAW iR,aAZ (by decide)]
 have Pj:M.m.root=0\/M.bL M.m.root:=by
  rw[gI.root];exact vt.imp id fun hu=>(gI.uH _).2 hu
 have acm:=gI.ok.jF;have mE:=gI.ok.size
 have WX:M.m.root<2147483648:=by
  rcases Pj with h0|h0
  ·omega
  ·have:=h0.2.1;rw[gI.used]at this;omega
 have ene:aj .neq (some .int) true (I M.m.root) (.int .i64 0) st= .ok (.bool (decide (M.m.root≠0))) st:=by rw[av,fj];congr 2;by_cases h:M.m.root=0<;>simp[h]
 have WY:∀K:CV->St->Prop,K (.bool false) st->rJ 10 0 (.ptr π.p 0) st (fun dI=>us (aj .neq (some .int) true dI (.int .i64 0) st) fun dw=>us (bg (al true dw) st (.ok (.ptr π.p 0) st)) fun eS=>us (bg (al true dw) st (.ok (.ptr π.p 0) st)) fun eR=>us (bg (al true dw) st (dU eR st)) fun eM=>us (bg (al true dw) st (an 10 eM st)) fun eX=>
  iU (al true dw) 0 eX st fun eD=>gE (al true dw) st (fun k=>R 101 [eS,eD] st k) fun eH s2=>us (bg (al true dw) s2 (mo .not eH s2)) fun eW=>us (bk dw eW (.bool false) s2) fun eg=>K eg s2):=by
  intro K hK;simp only[rJ,bA,ah,af,az,BF,ar,aAT,Nat.reduceAdd,aAS,aAQ,au,ene]
  by_cases h0:M.m.root=0
  ·simp only[h0,ne_eq,not_true_eq_false,aCy,aG,aBr,cc,af,iU,xq,aF,aAR,aBf];exact hK
  ·have hu:=Pj.resolve_left h0;simp only[h0,ne_eq,not_false_eq_true,aBV,aG,aBr,bh,af,iU,bA,ah,az,BF,ar,aAT,Nat.reduceAdd,aAS,aAQ,au,ea];refine(uG hP _).same ?_;simp only[hu,aBV,du,aBm,af,aF,aBr];exact hK
 refine WY (fun eg s2=>aB eg _ _) ?_;rw[ag,aAZ (by decide),bG,bA,af,ah,af,az,BF,ar];simp only[aAT,aAS,aAQ,au];rw[af,ah,af,gq (n:=4) BF (by simp),af];have awf:G.fr.length<=G.used:=kQ G.used G.fr gI.ok.nd fun x hx=>(gI.ok.fr x hx).2
 have hhd:G.fr.headD 0<=65536:=by
  cases hf:G.fr with
  |nil=>simp
  |cons n r=>have:=(gI.ok.fr n (by rw[hf];simp)).2;simp;omega
 have Xp:∀n∈ld M.m,n<9223372036854775808:=by
  intro n hn;have q1:=gI.used;have q2:=gI.head;have q3:=gI.free;simp only[ld,aAX,aBF,aCA]at hn;rcases hn with rfl|rfl|rfl|rfl<;>omega
 refine(CR (m:=M.m) Xp).mono ?_;rintro _ s3 ⟨rfl,k3⟩;have Ph:=hP.keep k3 (by simp);have Zx:=Ph.main;obtain⟨blk,u1,u2,u3⟩:=IsMap.update (.inl Ph.now) 0 (.agg (ai (bK M.m)));have u4:=u3 Ph.now
 have u5:c8 (St.set s3 π.bn blk) π.bn (gp (gH M.now 0 (bK M.m))):=by
  have:=uN M.now 0 (bK M.m);rw[<-this];exact u4
 rw[show eC .int (.map π.bn) (.int .i64 0) (.agg (ai (bK M.m))) s3= .ok .undef (St.set s3 π.bn blk)from u1,aT,az,Zx,ar];refine⟨⟨⟨rfl,trivial⟩,trivial,trivial⟩,trivial, ?_⟩;have nd:=hP.nd;simp only[aBi,aAX,aBF,aCA,aCr]at nd;obtain⟨⟨m1,m2,m3,m4⟩,⟨m5,m6,m7⟩,⟨m8,m9⟩,m10,_⟩:=nd;have adq:=Ph.lt π.bn (by simp)
 have QX:cG (St.set s3 π.bn blk) π.p π.a (.ptr r 0) {M with now:=gH M.now 0 (bK M.m)} π.bd π.bn π.bi π.bc:=
  ⟨(ak _ _ _ _ m2).trans Zx,Ph.dirty.mono (ak _ _ _ _ m5),u5,Ph.idle.mono (ak _ _ _ _ (aBU m8)),Ph.count.mono (ak _ _ _ _ (aBU m9)),hP.nd,Ph.lt,hP.lgs⟩
 have k4:Kp [π.bn] st (St.set s3 π.bn blk):=(k3.mono (by simp)).set _ (.inl (by simp)) adq;generalize St.set s3 π.bn blk=s4 at*;have hm4:=QX.main;have alW:cT s4:=k4.fresh jy
 have Vb:0∉M.now.map (·.1):=fun hh=>by
  rw[gI.count]at hh;have:=(gI.rp 0 hh).1;omega
 have hNe:=RN (s:=bK M.m) Vb;generalize hN:gH M.now 0 (bK M.m)=N at*;have hNl:N.length=M.now.length+1:=by rw[hNe];simp
 have Pk:M.aE=π.D.ay.length-1-π.D.ay.length/4:=by
  have a1:M.aE=G.aE:=gI.aE;have a2:π.D.ay.length-1-π.D.ay.length/4=Gk.aE:=hok.rep.aE;omega
 have ZI:M.first=1+π.D.ay.length/4:=by rw[hM8,hkf]
 have JJ:∀n∈N.map (·.1),∃s,dh N n=some s/\n<=100000/\n<M.aE/\s.length=512:=fun n hn=>by
  have hg:dh N n=if n=0 then some (bK M.m)else dh M.now n:=by rw[<-hN,oZ]
  by_cases h0:n=0
  ·rw[aBb h0]at hg;have h1:=gI.ok.one;exact⟨_,hg,by omega,by have:=gI.aE;omega,gL _⟩
  ·rw[aAZ h0]at hg;rw[hNe,aCj,aBe]at hn
   have Dk:n∈M.now.map (·.1):=by
    rcases hn with h1|h1
    ·exact h1
    ·exact absurd (by simpa using h1) h0
   cases hp:dh M.now n with
   |none=>exact absurd Dk (lD.1 hp)
   |some s=>
    rw[hp]at hg;rw[gI.count]at Dk;have h2:=gI.rp n Dk;have h3:=gI.len n h2.2;have h4:M.get π.D n=s:=by unfold bR.get;rw[hp]
    rw[h4]at h3;exact⟨s,hg,by omega,by have:=gI.aE;omega,h3⟩
 have ade:∀{K:CV->Prop},K (.map π.bn)->fH 5 (.ptr π.p 0) s4 K:=fun {K} hK=>by
  rw[fH,bA,af,ah,af,az,hm4,ar];exact hK
 rw[db];refine ade ?_;refine Jj.mono ?_;rintro _ Af ⟨rfl,ZR,Wq,n28⟩;have amU:=QX.keep Wq (by simp);refine(A9 (L:=N) ZR (.inl amU.now) (by rw[hNl];omega) (fun n hn=>by obtain⟨_,_,h1,_⟩:=JJ n hn;omega)).mono ?_;intro x Ns Fj;have k29:=Fj.kp;have TI:Kp [] s4 Ns:=Wq.trans k29 (by simp);have adI:=QX.keep TI (by simp);have acW:cT Ns:=TI.fresh alW;have hNn:(N.map (·.1)).Nodup:=im (by rw[<-kv];exact QX.now.nd);have avK:(nh (N.map (·.1))).length=N.length:=by rw[vZ,aCa]
 have SL:=wN hNn;have OB:=Fj.sl [] (by simp);have SK:∀n,n∈nh (N.map (·.1))↔n∈N.map (·.1):=fun n=>so;generalize lO:nh (N.map (·.1))=ks at*;rw[OB.len ks.length (by simp) (by omega) Ns,af];simp only[aK,aL];refine RK (M:=M) (N:=N) adI acW (fun s hs=>OB.mono hs) ⟨fun n hn=> ?_⟩ (by omega) ?_
 ·obtain⟨s,q1,q2,_,q4⟩:=JJ n ((SK n).1 hn);exact⟨s,q1,q2,q4⟩
 intro s rec Xy vx;simp only[aK,aL];have zp:(dF N ks).map (·.1)=ks:=ma N ks;have hll:(dF N ks).length=ks.length:=by unfold dF;simp
 have OS:∀e∈dF N ks,e.1<M.aE/\e.2.length=512:=fun e he=>by
  unfold dF at he;obtain⟨n,hn,rfl⟩:=aBv.1 he;obtain⟨s',q1,q2,q3,q4⟩:=JJ n ((SK n).1 hn);simp only[q1,aCl];exact⟨q3,q4⟩
 have UI:∀n,dh (dF N ks) n=if n=0 then some (bK M.m)else dh M.now n:=fun n=>by
  have hg:dh N n=if n=0 then some (bK M.m)else dh M.now n:=by rw[<-hN,oZ]
  rw[<-hg]
  have key:∀js:List Nat,dh (dF N js) n=if n∈js then some ((dh N n).getD [])else none:=by
   intro js
   induction js with
   |nil=>rfl
   |cons j js ih=>
    show(if n=j then some ((dh N j).getD [])else dh (dF N js) n)=_
    by_cases hj:n=j
    ·subst hj;rw[aBb rfl,aBb (by simp)]
    ·rw[aAZ hj,ih];simp only[aAX,hj,false_or]
  rw[key]
  by_cases hn:n∈ks
  ·rw[aBb hn];obtain⟨s',q1,_⟩:=JJ n ((SK n).1 hn);rw[q1];rfl
  ·rw[aAZ hn];exact(lD.2 fun hh=>hn ((SK n).2 hh)).symm
 have aqa:(fJ (dF N ks)).length<=520*(dF N ks).length:=IY _ fun e he=>by have:=OS e he;omega
 have QJ:bp (fJ (dF N ks)).length<=π.D.ay.length/4:=by
  have h1:(dF N ks).length<=π.D.ay.length/8+1:=by omega
  generalize (fJ (dF N ks)).length=X at*;unfold bp
  split<;>omega
 have WZ:(fJ (dF N ks)).length<=1000000:=by omega
 generalize hl:dF N ks=l at*;have xj:=adI.keep Xy (by simp);have BE:=xj.main
 have XJ:∀{K:CV->Prop},K (.map π.bn)->fH 5 (.ptr π.p 0) s K:=fun {K} hK=>by
  rw[fH,bA,af,ah,af,az,BE,ar];exact hK
 refine XJ ?_;obtain⟨bY,d1,d2,d3⟩:=xj.now.delete 0;rw[show oB .int (.map π.bn) (.int .i64 0) s= .ok .undef bY from d1,aT]
 have d4:c8 bY π.bn (gp M.now):=by
  have e:qd (gp N) 0=gp M.now:=by rw[<-hN];exact Nq Vb
  rw[<-e];exact d3
 have adr:=xj.lt π.bn (by simp)
 have qI:Kp [π.bn] s bY:=by
  rcases d2 with rfl|⟨blk,rfl⟩
  ·exact Kp.refl _ _
  ·exact(Kp.refl _ s).set _ (.inl (by simp)) adr
 have kk:∀q∈[π.p,π.bd,π.bn,π.bi,π.bc],q≠π.bn->bY.mem.get q=s.mem.get q:=fun q hq gT=>qI.keep q (xj.lt q hq) (by simpa using gT)
 have Im:cG bY π.p π.a (.ptr r 0) {M with dirty:=M.dirty} π.bd π.bn π.bi π.bc:=
  ⟨(kk π.p (by simp) (aBU (aBU m2))).trans BE,xj.dirty.mono (kk π.bd (by simp) m5),d4,xj.idle.mono (kk π.bi (by simp) (aBU m8)),xj.count.mono (kk π.bc (by simp) (aBU m9)),hP.nd,fun b hb=>aBs (xj.lt b hb) qI.next,hP.lgs⟩
 have YQ:Kp [π.bn] st bY:=((k4.trans TI (by simp)).trans Xy (by simp)).trans qI fun q hq=> .inl hq;have amC:∀b∈π.Fd,b∉[π.bn]:=fun b hb hh=>hF b hb (by simp at hh;simp[hh]);have SX:=hd.keep YQ amC;have akw:r≠π.bn:=fun e=>Ss (by unfold PI.all;simp[e]);have Dd:=nG.keep YQ (by simpa using akw);have ada:cT bY:=YQ.fresh jy;have Od:=qI.next
 have OJ:J0 π r M G Gk T bY bY M.dirty π.bd r π.Fd π.D base last P Ls:=
  ⟨Im,SX,hok,rfl,hMd,fun e he=>by rw[Pk];exact hke e (by rw[<-hM6];exact he),Dd,fun hh=>Ss (PI.wI hh),fun hh=>Ss (by unfold PI.all;simp at hh⊢;rcases hh with h|h|h|h|h<;>simp[h]),hF,hlT, .inl rfl, .inl rfl,fun b hb=> .inl hb,Kp.refl _ _,ada,gI⟩
 obtain⟨Fr,own,Pn⟩:=vx;have n29:=TI.next;have n4:=k4.next;have nks:=Xy.next;have aaD:=own.keep qI fun b hb=>⟨(Pn b hb).2,by have:=(Pn b hb).1;have:=hP.lt π.bn (by simp);simp;omega⟩
 have OI:∀(s':St) (F':List Nat),Kp (r::π.all) bY s'->(∀b∈F',b∈π.Fd\/bY.next<=b)->Sl s' F' rec 1 (ai (fJ l)):=fun s' F' FA qN=>by
  have nY:∀b∈Fr,st.next<=b/\b<bY.next:=fun b hb=>by have:=Pn b hb;omega
  have Su:=nG.1
  have fP:∀b∈Fr,b∉r::π.all:=fun b hb hh=>by
   have h1:=nY b hb;rcases aAX.1 hh with hh|hh
   ·omega
   ·have:b<st.next:=by
     unfold PI.all at hh;simp only[aAX]at hh;rcases hh with hh|hh|hh|hh|hh|hh
     ·rw[hh];exact hP.lt _ (by simp)
     ·rw[hh];exact hP.lt _ (by simp)
     ·rw[hh];exact hP.lt _ (by simp)
     ·rw[hh];exact hP.lt _ (by simp)
     ·rw[hh];exact hP.lt _ (by simp)
     ·exact hd.lt b hh
    omega
  have V1:=aaD.keep FA fun b hb=>⟨(nY b hb).2,fP b hb⟩;have nk':=FA.next
  exact V1.sl fun b hb=>⟨fun hh=>by
   have h1:=nY b hb;rcases qN b hh with h2|h2
   ·exact fP b hb (by simp[PI.wI h2])
   ·omega,by have:=nY b hb;omega⟩
 have OP:=Im.main
 have UR:∀{K:CV->Prop},K (.ptr r 0)->fH 1 (.ptr π.p 0) bY K:=fun {K} hK=>by
  rw[fH,bA,af,ah,af,az,OP,ar];exact hK
 refine UR ?_
 have Pc:R 131 [.ptr r 0,rec] bY fun x s'=>(x=I 0/\∃nZ bd r' F D D' base last P Ls,Ac π r M G Gk T l bY s' nZ bd r' F D D' base last P Ls)\/(x=I 3/\s'=bY):=by
  by_cases tE:bp (fJ l).length+(last-base)<=π.D.ay.length/4
  ·refine(uP OJ (OI bY π.Fd (Kp.refl _ _) fun b hb=> .inl hb) WZ (by omega) tE).mono ?_;rintro x s' ⟨rfl,F',D',hA⟩;exact .inl ⟨rfl,_,_,_,_,_,_,_,_,_,_,hA⟩
  ·have QI:(⟨1,π.D.ay.length/4,base,last,last⟩:RingM).room=(π.D.ay.length/4:Nat)-((last:Int)-base):=by unfold RingM.room;rw[aAZ (by simp)]
   have tk:=hok.laid.le.1;refine(Gq (X:=[]) Dd SX tf ((OI bY π.Fd (Kp.refl _ _) fun b hb=> .inl hb).ef (by simp)) (by omega) (by show π.D.ay.length/4<=_;omega) (by show base<=_;omega) (by show last<=_;omega) QJ (by simp) (by rw[QI];omega)).mono ?_;rintro x s' ⟨rfl,rfl⟩;exact .inr ⟨rfl,rfl⟩
 refine Pc.mono ?_;intro tp eh ajQ;refine jU (fun vs s=>vs=[.ptr π.p 0,I 0]/\∃nZ bd r' F D D' base last P Ls,Ac π r M G Gk T l bY s nZ bd r' F D D' base last P Ls) ?_ ?_
 ·intro k48 Ie;rcases ajQ with⟨rfl,hA⟩|⟨rfl,rfl⟩
  ·have e3:aj .eql (some .int) true (I 0) (.int .i64 3) eh= .ok (.bool false) eh:=rfl;rw[e3,af,ag,aAZ (by decide)];exact Ie _ _ ⟨rfl,hA⟩
  ·have e3:aj .eql (some .int) true (I 3) (.int .i64 3) eh= .ok (.bool true) eh:=rfl;rw[e3,af,ag,aBb rfl];refine UR ?_;refine(M5 Dd).same ?_;refine(Cy OJ (by omega) ZI (by rw[ZI,Pk];omega)).mono ?_;rintro _ xT ⟨rfl,mi,r',F',D',hR⟩;have e0:aj .eql (some .int) true (I 0) (.int .i64 0) xT= .ok (.bool true) xT:=rfl;rw[e0,af,ag,aBb rfl];have akZ:=hR.qC.main
   have XK:∀{K:CV->Prop},K (.ptr r' 0)->fH 1 (.ptr π.p 0) xT K:=fun {K} hK=>by
    rw[fH,bA,af,ah,af,az,akZ,ar];exact hK
   refine XK ?_;refine(uP hR (OI xT F' hR.kp hR.FN) WZ (by omega) (by rw[hR.len];omega)).mono ?_;rintro x ua ⟨rfl,F2,D2,hA⟩;exact Ie _ _ ⟨rfl,_,_,_,_,_,_,_,_,_,_,hA⟩
 ·rintro _ fe ⟨rfl,nZ,mi,r',F',D',D2,Vk,aaZ,P',Ls',hA⟩;rw[db];simp only[aK,aL];have e0:∀s,aj .eql (some .int) true (I 0) (.int .i64 0) s= .ok (.bool true) s:=fun s=>rfl;have e2:∀s,aj .neq (some .int) true (I 0) (.int .i64 0) s= .ok (.bool false) s:=fun s=>rfl;have Xs:=hA.qC.main;rw[e0,af,ag,aBb rfl]
  have XM:∀{K:CV->Prop},K (.ptr r' 0)->fH 1 (.ptr π.p 0) fe K:=fun {K} hK=>by
   rw[fH,bA,af,ah,af,az,Xs,ar];exact hK
  refine XM ?_;have rC:D'.ay.length=π.D.ay.length:=hA.len;have avm:bp (fJ l).length<=2000:=by omega
  refine(RD hA.ring hA.DB (by rw[hA.wrote.waits,hA.ok.waits];simp;omega)).mono ?_;rintro _ fZ ⟨rfl,nQ,F3,Le,Dw⟩;obtain⟨f1,f2,f3,f4,f5⟩:=hA.wrote.calm.flush hA.wrote.zi;have Tb:=hA.DB.lt;have AO:=hA.qC.lt;have tl:=hA.qC.keep nQ fun b hb hh=>hA.Vj b hh hb;have Jr:=hA.ring.keep nQ hA.rF;have UG:=hA.ok.YB (l:=l) hA.rep (by show M.first=_;rw[ZI,rC]) (by show M.aE=_;rw[Pk,rC]) hA.dir (by rw[<-hl,ma];exact SL) UI OS WZ hA.room WX hA.wrote;rw[aBb f1,e2,af,ag,aAZ (by decide),bG];have ale:=tl.main;have n14:=hA.kp.next;have n15:=nQ.next;have Jy:fZ.mem.get π.p=some (.cells [.ptr π.a 0, .ptr r' 0,I M.first,I M.aE, .map mi, .map π.bn,I M.kept.root,I M.kept.used,I M.kept.head,I M.kept.free,I M.m.root,I M.m.used,I M.m.head,I M.m.free, .map π.bi, .map π.bc] 158 false):=ale;have ndA:=hA.qC.nd;simp only[aBi,aAX,aBF,aCA,aCr]at ndA;obtain⟨⟨v1,v2,v3,v4⟩,⟨v5,v6,v7⟩,⟨v8,v9⟩,v10,_⟩:=ndA;have adh:(nZ.map (·.1)).Nodup:=im (by rw[<-kv];exact tl.dirty.nd)
  have aqG:nZ.length<=65536:=by
   have:=kQ 65536 (nZ.map (·.1)) adh fun x hx=>by
    obtain⟨e,he,rfl⟩:=aBv.1 hx;have:=(hA.wC e he).1;omega
   rwa [aCa]at this
  have acd:(M.now.map (·.1)).Nodup:=by rw[gI.count];exact gI.qt
  have OO:∀e∈M.now,e.1<M.aE/\e.2.length=512:=fun e he=>by
   have h1:dh M.now e.1=some e.2:=ED acd he;have h2:e.1∈M.count:=by rw[<-gI.count];exact aCb he
   have h3:=gI.rp _ h2;have h4:=gI.len e.1 h3.2;have h5:M.get π.D e.1=e.2:=by unfold bR.get;rw[h1]
   rw[h5]at h4;exact⟨by have:=gI.aE;omega,h4⟩
  rw[bA,af,ah,af,az,Jy,ar];simp only[aAT,aAS,aAQ,au];rw[af,ah,af,az,Jy,ar];simp only[aAT,aAS,aAQ,au]
  have amy:∀n∈nZ.map (·.1),n<=1000000:=fun n hn=>by
   obtain⟨e,he,JE⟩:=aBv.1 hn;have h1:=(hA.wC e he).1;rw[<-JE];omega
  have amx:∀n∈M.now.map (·.1),n<=1000000:=fun n hn=>by
   obtain⟨e,he,JE⟩:=aBv.1 hn;have h1:=(OO e he).1;rw[<-JE];omega
  have amu:nZ.length<=1000000:=by omega
  have XU:M.now.length<=1000000:=by omega
  have amw:∀e∈M.now,e.2.length=512:=fun e he=>(OO e he).2;have amt:mi<fZ.next:=tl.lt mi (by simp);have QU:IsMap fZ mi (gp nZ):=tl.dirty;have SZ:IsMap fZ π.bn (gp M.now):= .inl tl.now;refine(Ts QU SZ v5 amu amy XU amx amw amt).mono ?_;rintro _ cD ⟨E7,n16,hdm⟩;refine⟨⟨trivial,trivial,trivial⟩,trivial, ?_⟩;have ajE:∀q∈[π.p,mi,π.bn,π.bi,π.bc],q≠mi->cD.mem.get q=fZ.mem.get q:=fun q hq gT=>E7.keep q (tl.lt q hq) (by simpa using gT);have Xr:=(ajE π.p (by simp) v1).trans Jy;rw[bG,bA,af,ah,af,az,Xr,ar];simp only[aAT,aAS,aAQ,au];rw[af,ah,af,gq (n:=4) Xr (by simp),af];refine(CR (m:=M.m) Xp).mono ?_;rintro _ kx ⟨rfl,DP⟩;have adj:IsMap kx mi (gp (lb nZ M.now)):=hdm.mono (DP.keep mi (by have:=tl.lt mi (by simp);omega) (by simp));have ald:=(DP.keep π.p (by have:=tl.lt π.p (by simp);omega) (by simp)).trans Xr;obtain⟨LN,w1,w2,_⟩:=IsMap.update adj 0 (.agg (ai (bK M.m)))
  have w3:IsMap (St.set kx mi LN) mi (gp (gH (lb nZ M.now) 0 (bK M.m))):=by
   have:=uN (lb nZ M.now) 0 (bK M.m);rw[<-this];exact w2
  rw[show eC .int (.map mi) (.int .i64 0) (.agg (ai (bK M.m))) kx= .ok .undef (St.set kx mi LN)from w1,aT,az,ald,ar];refine⟨⟨⟨rfl,trivial⟩,trivial,trivial⟩,trivial, ?_⟩;have n17:=DP.next;have adx:mi<kx.next:=by have:=tl.lt mi (by simp);omega
  have L7:Kp [mi] kx (St.set kx mi LN):=(Kp.refl _ kx).set _ (.inl (by simp)) adx;have Vq:Kp [mi] fZ (St.set kx mi LN):=(E7.trans DP (by simp)).trans L7 fun q hq=> .inl hq;have n18:(St.set kx mi LN).next=kx.next:=rfl;generalize St.set kx mi LN=cC at*;have ajD:∀q∈[π.p,mi,π.bn,π.bi,π.bc],q≠mi->cC.mem.get q=fZ.mem.get q:=fun q hq gT=>Vq.keep q (tl.lt q hq) (by simpa using gT);have acq:=(ajD π.p (by simp) v1).trans Jy
  have adb:∀{K:CV->Prop},K (.agg [I M.m.root,I M.m.used,I M.m.head,I M.m.free])->zA 4 10 (.ptr π.p 0) cC K:=fun {K} hK=>by
   unfold zA;rw[bA,af,ah,af,gq (n:=4) acq (by simp),af];exact hK
  refine adb ?_;rw[ja,aT,ja,aT];have y1:(St.new cC (.map [] 0)).next=cC.next+1:=rfl;have y2:(St.new (St.new cC (.map [] 0)) (.map [] 0)).next=cC.next+2:=rfl;rw[y1];have Oq:Kp [] cC (St.new (St.new cC (.map [] 0)) (.map [] 0)):=((Kp.refl [] cC).new _).new _;have z1:c8 (St.new (St.new cC (.map [] 0)) (.map [] 0)) cC.next []:=(c8.new cC).mono (by rw[aW _ _ _ (by simp)]);have z2:c8 (St.new (St.new cC (.map [] 0)) (.map [] 0)) (cC.next+1) []:=c8.new (St.new cC (.map [] 0));generalize St.new (St.new cC (.map [] 0)) (.map [] 0)=jn at*;have akI:π.p<cC.next:=by have:=tl.lt π.p (by simp);omega
  have ala:=(Oq.keep π.p akI (by simp)).trans acq;have pC:bt [.ptr π.a 0, .ptr r' 0,I M.first,I M.aE, .map mi, .map π.bn,I M.kept.root,I M.kept.used,I M.kept.head,I M.kept.free,I M.m.root,I M.m.used,I M.m.head,I M.m.free, .map π.bi, .map π.bc] 6 [I M.m.root,I M.m.used,I M.m.head,I M.m.free]=[.ptr π.a 0, .ptr r' 0,I M.first,I M.aE, .map mi, .map π.bn,I M.m.root,I M.m.used,I M.m.head,I M.m.free,I M.m.root,I M.m.used,I M.m.head,I M.m.free, .map π.bi, .map π.bc]:=rfl;have jR:bt [.ptr π.a 0, .ptr r' 0,I M.first,I M.aE, .map mi, .map π.bn,I M.m.root,I M.m.used,I M.m.head,I M.m.free,I M.m.root,I M.m.used,I M.m.head,I M.m.free, .map π.bi, .map π.bc] 5 [.map cC.next]=[.ptr π.a 0, .ptr r' 0,I M.first,I M.aE, .map mi, .map cC.next,I M.m.root,I M.m.used,I M.m.head,I M.m.free,I M.m.root,I M.m.used,I M.m.head,I M.m.free, .map π.bi, .map π.bc]:=rfl;have De:bt [.ptr π.a 0, .ptr r' 0,I M.first,I M.aE, .map mi, .map cC.next,I M.m.root,I M.m.used,I M.m.head,I M.m.free,I M.m.root,I M.m.used,I M.m.head,I M.m.free, .map π.bi, .map π.bc] 15 [.map (cC.next+1)]=[.ptr π.a 0, .ptr r' 0,I M.first,I M.aE, .map mi, .map cC.next,I M.m.root,I M.m.used,I M.m.head,I M.m.free,I M.m.root,I M.m.used,I M.m.head,I M.m.free, .map π.bi, .map (cC.next+1)]:=rfl
  have Jq:∀{s:St} {l l':List CV} {K:St->Prop},s.mem.get π.p=some (.cells l 158 false)->10<=l.length->bt l 6 [I M.m.root,I M.m.used,I M.m.head,I M.m.free]=l'->K (St.set s π.p (.cells l' 158 false))->nV 4 6 (.ptr π.p 0) (.agg [I M.m.root,I M.m.used,I M.m.head,I M.m.free]) s K:=by
   intro s l l' K hg h3 h4 hK;simp only[nV,bA,ah,af,aH,hg,aS,aU,aAT,h4];exact⟨⟨rfl,rfl,by omega⟩,hK⟩
  have Ut:∀{s:St} {l l':List CV} {o b:Nat} {K:St->Prop},s.mem.get π.p=some (.cells l 158 false)->o<l.length->bt l o [.map b]=l'->K (St.set s π.p (.cells l' 158 false))->nV 1 o (.ptr π.p 0) (.map b) s K:=by
   intro s l l' o b K hg h3 h4 hK;have Sr:(CV.map b).cK=[.map b]:=rfl;simp only[nV,bA,ah,af,aH,hg,aS,Sr,aAT,h4];exact⟨⟨rfl,rfl,h3⟩,hK⟩
  refine Jq ala (by simp) pC ?_;refine Ut (ao _ _ _) (by simp) jR ?_;rw[set_set];refine Ut (ao _ _ _) (by simp) De ?_;rw[set_set];have zo:∀b∈[π.p,mi,π.bn,π.bi,π.bc],b<fZ.next:=tl.lt;have JH:=zo π.p (by simp);have GS:=zo mi (by simp);have hb3:=zo π.bn (by simp);have hb4:=zo π.bi (by simp);have hb5:=zo π.bc (by simp);have n20:=Oq.next;have KT:Kp [π.p] jn (St.set jn π.p (.cells [.ptr π.a 0, .ptr r' 0,I M.first,I M.aE, .map mi, .map cC.next,I M.m.root,I M.m.used,I M.m.head,I M.m.free,I M.m.root,I M.m.used,I M.m.head,I M.m.free, .map π.bi, .map (cC.next+1)] 158 false)):=(Kp.refl _ jn).set _ (.inl (by simp)) (by omega);have Ye:(St.set jn π.p (.cells [.ptr π.a 0, .ptr r' 0,I M.first,I M.aE, .map mi, .map cC.next,I M.m.root,I M.m.used,I M.m.head,I M.m.free,I M.m.root,I M.m.used,I M.m.head,I M.m.free, .map π.bi, .map (cC.next+1)] 158 false)).mem.get π.p=some (.cells [.ptr π.a 0, .ptr r' 0,I M.first,I M.aE, .map mi, .map cC.next,I M.m.root,I M.m.used,I M.m.head,I M.m.free,I M.m.root,I M.m.used,I M.m.head,I M.m.free, .map π.bi, .map (cC.next+1)] 158 false):=ao _ _ _;have n21:(St.set jn π.p (.cells [.ptr π.a 0, .ptr r' 0,I M.first,I M.aE, .map mi, .map cC.next,I M.m.root,I M.m.used,I M.m.head,I M.m.free,I M.m.root,I M.m.used,I M.m.head,I M.m.free, .map π.bi, .map (cC.next+1)] 158 false)).next=jn.next:=rfl;generalize St.set jn π.p (.cells [.ptr π.a 0, .ptr r' 0,I M.first,I M.aE, .map mi, .map cC.next,I M.m.root,I M.m.used,I M.m.head,I M.m.free,I M.m.root,I M.m.used,I M.m.head,I M.m.free, .map π.bi, .map (cC.next+1)] 158 false)=fm at*;have Vp:Kp [π.p] cC fm:=(Oq.mono (by simp)).trans KT fun q hq=> .inl hq;have J8:Kp [π.p,mi] fZ fm:=(Vq.mono (by simp)).trans Vp (by simp);have UT:IsMap fm mi (gp (gH (lb nZ M.now) 0 (bK M.m))):=w3.mono (Vp.keep mi (by omega) (by simp;exact aBU v1));have adu:c8 fm π.bi (sZ M.idle):=tl.idle.mono (J8.keep π.bi hb4 (by simp;exact⟨aBU v3,aBU v6⟩));have agt:c8 fm cC.next []:=z1.mono (KT.keep cC.next (by omega) (by simp;omega))
  have ags:c8 fm (cC.next+1) []:=z2.mono (KT.keep (cC.next+1) (by omega) (by simp;omega))
  have UU:∀n,dh (gH (lb nZ M.now) 0 (bK M.m)) n=dh (dX [] (Ls'++[l])) n:=fun n=>by
   rw[oZ,KC,pY,Bj l _ n (by rw[<-hl,ma];exact SL),UI,<-hA.dir]
   by_cases h0:n=0
   ·rw[aBb h0,aBb h0];rfl
   ·rw[aAZ h0,aAZ h0]
  have Fq:(D2.flush.2).ay.length=π.D.ay.length:=f3.trans (hA.wrote.ay.trans rC);have Uy:=UG.rep;rw[Fq]at Uy
  have abU:=(Uy.congr (M':=⟨M.first,M.aE,gH (lb nZ M.now) 0 (bK M.m),[],M.m,M.m,G.fr,[]⟩) (D':=D2.flush.2) (fun n _=>by
   rw[mU];show(tB M.first M.aE (gH (lb nZ M.now) 0 (bK M.m)) M.m G.fr).get _ n=_;rw[mU,UU,ZI]) Pk rfl rfl rfl rfl ZI rfl).VT M.idle gI.idle gI.xe
  have aqH:∀b∈F3,(b∈D'.ay.map (fun _=>0)\/True)->b∈F'\/fe.next<=b:=fun b hb _=>Dw b hb;have HW:∀b∈[π.p,mi,π.bn,π.bi,π.bc],b<fe.next:=hA.qC.lt
  have adS:∀b∈F3,b∉[π.p,mi,π.bi]/\b<fZ.next:=fun b hb=>by
   refine⟨fun hh=> ?_,Le.lt b hb⟩;rcases Dw b hb with h1|h1
   ·exact hA.Vj b h1 (by simp at hh⊢;rcases hh with hh|hh|hh<;>simp[hh])
   ·have h2:b<fe.next:=by
     simp only[aAX,aBF,aCA]at hh;rcases hh with hh|hh|hh
     ·rw[hh];exact HW _ (by simp)
     ·rw[hh];exact HW _ (by simp)
     ·rw[hh];exact HW _ (by simp)
    omega
  have akp:=Jr.1;have Zn:=hA.rP;simp only[aAX,aBF,aCA,aCr]at Zn;have Sv:=Jr.keep J8 (by simp;exact⟨Zn.1,Zn.2.1⟩);have amn:=Le.keep J8 fun b hb hh=>(adS b hb).1 (by simp at hh⊢;rcases hh with hh|hh<;>simp[hh]);have amg:((gH (lb nZ M.now) 0 (bK M.m)).map (·.1)).Nodup:=im (by rw[<-kv];exact UT.nd)
  have adg:∀e∈gH (lb nZ M.now) 0 (bK M.m),e.1<M.aE/\e.2.length=512:=fun e he=>by
   rcases EB he with h1|h1
   ·unfold lb at h1;rcases aBe.1 h1 with h2|h2
    ·exact hA.wC e (aCS.1 h2).1
    ·exact OO e h2
   ·rw[h1];exact⟨by have:=gI.aE;have:=gI.ok.one;show 0<M.aE;omega,gL _⟩
  have aun:st.next<=bY.next:=YQ.next;refine .inr ⟨rfl,⟨π.p,π.a, .ptr r' 0,mi,cC.next,π.bi,cC.next+1,F3,D2.flush.2,gH (lb nZ M.now) 0 (bK M.m),M.m,1+π.D.ay.length/4⟩,r,rfl,rfl,⟨⟨M.first,M.aE,gH (lb nZ M.now) 0 (bK M.m),[],M.m,M.m,M.idle,[]⟩,⟨Ye,UT,agt,adu,ags, ?_, ?_,⟨rfl,rfl,rfl⟩⟩,abU,amn,f2.dead,fun b hb hh=> ?_,rfl,rfl,ZI⟩,⟨⟨Vk,aaZ+bp (fJ l).length,_,Ls'++[l],r',UG,by have:=hA.T;omega,rfl, ?_, ?_,UU⟩,by show 1+π.D.ay.length/4=1+(D2.flush.2).ay.length/4;rw[Fq],fun e he=> ?_,amg⟩,QP,⟨r',rfl,hA.rN.imp id fun h=>by omega⟩, ?_,fun b hb=> ?_,Fq⟩
  ·simp only[aBi,aAX,aBF,aCA,aCr];exact⟨⟨v1,by omega,v3,by omega⟩,⟨by omega,v6,by omega⟩,⟨by omega,by omega⟩,by omega,not_false,aDr⟩
  ·intro b hb;simp at hb;omega
  ·have h1:=adS b hb;simp only[aAX,aBF,aCA,aCr]at hh h1;rcases hh with hh|hh|hh|hh|hh
   ·exact h1.1.1 hh
   ·exact h1.1.2.1 hh
   ·omega
   ·exact h1.1.2.2 hh
   ·omega
  ·show fF fm r' π.a ⟨1,(D2.flush.2).ay.length/4,Vk,_,_⟩;rw[Fq,<-rC];exact Sv
  ·unfold PI.all;simp only[aAX,aCr];refine⟨Zn.1,Zn.2.1,by omega,Zn.2.2.2.1,by omega,fun hh=> ?_⟩;rcases Dw r' hh with h1|h1
   ·exact hA.rF h1
   ·have:=hA.ring.1;omega
  ·show e.1<(D2.flush.2).ay.length-1-(D2.flush.2).ay.length/4/\_;rw[Fq,<-Pk];exact adg e he
  ·have q1:Kp (r::π.all) st bY:=YQ.mono (by intro q hq;left;simp at hq;subst hq;unfold PI.all;simp);have q2:Kp (r::π.all) st fe:=q1.trans hA.kp fun q hq=> .inl hq
   have q3:Kp (r::π.all) st fZ:=q2.trans nQ fun q hq=>by
    rcases hA.FN q hq with h1|h1
    ·left;simp[PI.wI h1]
    ·right;omega
   exact q3.trans J8 fun q hq=>by
    simp only[aAX,aBF,aCA]at hq;rcases hq with hq|hq
    ·left;rw[hq];unfold PI.all;simp
    ·rcases hA.bdN with h1|h1
     ·left;rw[hq,h1];unfold PI.all;simp
     ·right;omega
  ·unfold PI.all at hb;simp only[aAX]at hb;rcases hb with hb|hb|hb|hb|hb|hb
   ·left;rw[hb];unfold PI.all;simp
   ·rcases hA.bdN with h1|h1
    ·left;rw[hb,h1];unfold PI.all;simp
    ·right;omega
   ·right;omega
   ·left;rw[hb];unfold PI.all;simp
   ·right;omega
   ·rcases Dw b hb with h1|h1
    ·rcases hA.FN b h1 with h2|h2
     ·left;exact PI.wI h2
     ·right;omega
    ·right;omega
end
structure ln (τ:Nat)(π:PI)(st:St)(L Lk:List bB)(T N fr:Nat):Prop where
 ex:∃G Gk,Tg τ π st G/\fv G L/\iD π st Gk T/\fv Gk Lk/\G.aE=Gk.aE/\G.ck=fr
 calm:Calm π.D
 len:π.D.ay.length=N
def own (τ:Nat)(π:PI):List Nat:=τ::((match π.lg with| .ptr r _=>[r]|_=>[])++π.all)
def wH (τ:Nat)(π π':PI)(st st':St):Prop:=Kp (own τ π) st st'/\∀b∈own τ π',b∈own τ π\/st.next<=b
theorem sC {τ:Nat}{π:PI}{b:Nat}(h:b∈π.all):b∈own τ π:=by unfold own;simp[h]
theorem FV {τ:Nat}{π:PI}{st st':St}(h:Kp π.W st st'):wH τ π π st st':=⟨h.mono fun q hq=> .inl (sC (PI.BW hq)),fun b hb=> .inl hb⟩
theorem FW {τ:Nat}{π:PI}{st st':St}(h:Kp [] st st'):wH τ π π st st':=⟨h.mono (by simp),fun b hb=> .inl hb⟩
section
variable {τ:Nat} {π:PI} {st st':St} {L Lk:List bB} {T N fr:Nat}
theorem iD.log {Gk:GM}(h:iD π st Gk T):∃r,π.lg= .ptr r 0/\r∉π.all/\r<st.next:=by
 obtain⟨base,last,P,Ls,r,a,b,c,d,e,f⟩:=h.ex;exact⟨r,c,e,d.1⟩
theorem iD.Uf {Gk:GM}(h:iD π st Gk T)(hk:Kp π.W st st'):iD π st' Gk T:=by
 obtain⟨r,h1,h2,_⟩:=h.log;refine h.keep hk fun r' e=> ?_;rw[h1]at e;cases e;exact fun hh=>h2 (PI.BW hh)
theorem iD.still {Gk:GM}(h:iD π st Gk T)(hk:Kp [] st st'):iD π st' Gk T:=h.keep hk (by simp)
theorem ln.still (h:ln τ π st L Lk T N fr)(hk:Kp [] st st'):ln τ π st' L Lk T N fr:=by
 obtain⟨⟨G,Gk,a,b,c,d,e,e'⟩,f,g⟩:=h;exact⟨⟨G,Gk,a.still hk,b,c.still hk,d,e,e'⟩,f,g⟩
theorem Nv {G:GM}(h:fv G L):G.root=0\/G.bL G.root:=by
 rcases h.tree with h1|⟨hh,ps,_,hs⟩
 ·exact .inl h1.1
 ·obtain⟨n,q,hn,_⟩:=hs;exact .inr hn.bL
def TD (τ:Nat)(π:PI)(L Lk:List bB)(T N fr:Nat)(key v:List UInt8)(st:St)(y:CV)(st':St):Prop:=
 wH τ π π st st'/\(y=I (if 48<key.length\/8192<v.length then 1 else if fr<24+eJ v.length then 3 else 0:Nat))/\∃fr',ln τ π st' (if 48<key.length\/8192<v.length then L else if fr<24+eJ v.length then L else lC L key v) Lk T N fr'
theorem TQ (h:ln τ π st L Lk T N fr)(key v:List UInt8):R 11 [.ptr τ 0, .str key, .str v] st fun y st'=>TD τ π L Lk T N fr key v st y st':=by
 have h0:=h;obtain⟨⟨G,Gk,ht,hL,hk,ZJ,sG,rfl⟩,hc,hl⟩:=h;refine(Ry ht hL key v).mono ?_;intro y st' hy;unfold zX at hy;unfold TD
 by_cases h1:48<key.length\/8192<v.length
 ·rw[aBb h1]at hy;rw[aBb h1,aBb h1];exact⟨FW hy.2,hy.1,_,h0.still hy.2⟩
 ·rw[aAZ h1]at hy;rw[aAZ h1,aAZ h1]
  by_cases h2:G.ck<24+eJ v.length
  ·rw[aBb h2]at hy;rw[aBb h2,aBb h2];exact⟨FW hy.2,hy.1,_,h0.still hy.2⟩
  ·rw[aAZ h2]at hy;rw[aAZ h2,aAZ h2];obtain⟨rfl,k1,G',t',o',hp⟩:=hy;exact⟨FV k1,rfl,_,⟨G',Gk,t',o',hk.Uf k1,ZJ,hp.trans sG,rfl⟩,hc,hl⟩
theorem aal {π:PI}{Gk:GM}(hp:Pg π st Gk)(hf:cT st)(hk:iD π st Gk T)(hL:fv Gk Lk)(hc:Calm π.D)(hl:π.D.ay.length=N):R 24 [.ptr π.p 0] st fun v st'=>∃τ,v= .ptr τ 0/\st.next<=τ/\Kp [] st st'/\ln τ π st' Lk Lk T N Gk.ck:=by
 refine(IN hp hf).mono ?_;rintro v s1 ⟨rfl,k1,t⟩;exact⟨_,rfl,aAU _,k1,⟨Gk,Gk,t,hL,hk.still k1,hL,rfl,rfl⟩,hc,hl⟩
end
structure JZ (τ:Nat)(π:PI)(st:St)(G Gk:GM)(L Lk:List bB)(T N:Nat):Prop where
 tg:Tg τ π st G
 ok:fv G L
 kp:iD π st Gk T
 Y5:fv Gk Lk
 pg:G.aE=Gk.aE
 calm:Calm π.D
 len:π.D.ay.length=N
section
variable {τ:Nat} {π:PI} {st st':St} {G Gk:GM} {L Lk:List bB} {T N:Nat}
theorem JZ.two (h:JZ τ π st G Gk L Lk T N):ln τ π st L Lk T N G.ck:=⟨⟨G,Gk,h.tg,h.ok,h.kp,h.Y5,h.pg,rfl⟩,h.calm,h.len⟩
theorem JZ.still (h:JZ τ π st G Gk L Lk T N)(hk:Kp [] st st'):JZ τ π st' G Gk L Lk T N:=⟨h.tg.still hk,h.ok,h.kp.still hk,h.Y5,h.pg,h.calm,h.len⟩
theorem JZ.to {G':GM}{L':List bB}(h:JZ τ π st G Gk L Lk T N)(hk:Kp π.W st st')(t:Tg τ π st' G')(o:fv G' L')(hp:G'.aE=G.aE):JZ τ π st' G' Gk L' Lk T N/\wH τ π π st st':=⟨⟨t,o,h.kp.Uf hk,h.Y5,hp.trans h.pg,h.calm,h.len⟩,FV hk⟩
theorem Ea (h:JZ τ π st G Gk L Lk T N)(hT:T<=900000000)(hN:N<=8000)(hu:G.used<=N/8):R 40 [.ptr τ 0] st fun v st'=>v=I 0/\∃π',π'.a=π.a/\wH τ π π' st st'/\JZ τ π' st' G G L L (T+10000) N:=by
 obtain⟨ht,hL,hk,ZJ,sG,hc,hl⟩:=h;refine bO ?_;rw[w40];rw[cX,af,ag,aAZ (by decide)];refine ht.get' ?_;refine(HB ht.pg hk ht.fr hT (by omega) (Nv hL) sG).mono ?_;rintro v s1 (⟨rfl,k1,hx⟩|⟨rfl,π',r,e1,e2,hp',FA,QP,⟨r',alp,Ak⟩,k1,fP,hlen⟩)
 ·rw[hl]at hx;omega
 ·obtain⟨r2,l1,l2,l3⟩:=hk.log;obtain⟨ty,g,hg⟩:=ht.get;have hrr:r2=r:=by rw[l1]at QP;cases QP;rfl
  have Dg:τ∉r::π.all:=fun hh=>by
   rcases aAX.1 hh with hh|hh
   ·have hd:=hk.ex;obtain⟨_,_,_,_,r3,_,_,c,d,_,_⟩:=hd;have:r3=r:=by rw[c]at QP;cases QP;rfl
    rw[this]at d;have h1:=d.2;rw[<-hh,hg]at h1;simp at h1
   ·exact ht.not hh
  have alU:wH τ π π' st s1:=by
   refine⟨k1.mono fun q hq=> .inl ?_,fun b hb=> ?_⟩
   ·rcases aAX.1 hq with h1|h1
    ·unfold own;rw[QP];simp[h1]
    ·exact sC h1
   ·unfold own at hb;rw[alp]at hb;rcases aAX.1 hb with h1|h1
    ·left;unfold own;simp[h1]
    ·rcases aBe.1 h1 with h2|h2
     ·have h2:b=r':=by simpa using h2
      rcases Ak with h3|h3
      ·left;unfold own;rw[QP];simp[h2,h3]
      ·right;omega
     ·exact(fP b h2).imp sC id
  refine⟨rfl,π',e2,alU,⟨hp',aBs ht.lt k1.next,fun hh=> ?_,⟨ty,g, ?_⟩,k1.fresh ht.fr⟩,hL,FA,hL,rfl, ?_,hlen.trans hl⟩
  ·rcases fP τ hh with h1|h1
   ·exact ht.not h1
   ·have:=ht.lt;omega
  ·rw[e1];exact(k1.keep τ ht.lt Dg).trans hg
  ·obtain⟨_,_,_,_,_,hok,_⟩:=FA.ex;exact hok.calm
theorem VL (h:JZ τ π st G Gk L Lk T N)(hT:T<=900000000):R 23 [.ptr π.a 0] st fun v st'=>∃π',v= .tuple [.ptr π'.p 0,I 0]/\π'.a=π.a/\Pg π' st' Gk/\cT st'/\iD π' st' Gk T/\Calm π'.D/\π'.D.ay.length=N/\Kp π.Fd st st'/\(∀b∈π'.all,b∈π.Fd\/st.next<=b)/\∃r,π'.lg= .ptr r 0/\st.next<=r:=by
 obtain⟨ht,hL,hk,ZJ,sG,hc,hl⟩:=h;obtain⟨M,hP,gI,hd,tf,hF,hM6,hM7,hM8⟩:=ht.pg;obtain⟨⟨base,last,P,Ls,r,hok,hlT,QP,nG,Ss,Il⟩,hkf,hke,rD⟩:=hk;refine(RR hd ht.fr hok (by omega)).mono ?_;rintro v s1 ⟨π',rfl,e1,hp,FA,k1,fP,_,mW,GK,hlr⟩;obtain⟨⟨b2,l2,P2,Ls2,r2,a1,a2,a3,a4,a5,a6⟩,b1,b2',b3⟩:=FA;exact⟨π',rfl,e1,hp,k1.fresh ht.fr,⟨⟨b2,l2,P2,Ls2,r2,a1,by omega,a3,a4,a5,a6⟩,b1,b2',b3⟩,mW,GK.trans hl,k1,fP,hlr⟩
theorem TS {π:PI}(hp:Pg π st Gk)(hf:cT st)(hk:iD π st Gk T)(hL:fv Gk Lk)(hc:Calm π.D)(hl:π.D.ay.length=N):R 24 [.ptr π.p 0] st fun v st'=>∃τ,v= .ptr τ 0/\st.next<=τ/\Kp [] st st'/\JZ τ π st' Gk Gk Lk Lk T N:=by
 refine(IN hp hf).mono ?_;rintro v s1 ⟨rfl,k1,t⟩;exact⟨_,rfl,aAU _,k1,t,hL,hk.still k1,hL,rfl,hc,hl⟩
theorem M9 (h:JZ τ π st G Gk L Lk T N):R 17 [.ptr τ 0] st fun v st'=>v=I G.ck/\st'=st:=M8 h.tg
end
