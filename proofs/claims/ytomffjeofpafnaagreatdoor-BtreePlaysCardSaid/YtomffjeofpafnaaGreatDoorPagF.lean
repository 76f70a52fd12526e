import Derived.Test.YtomffjeofpafnaaGreatDoorPagE
namespace Lim
open Go
noncomputable section
set_option maxRecDepth 100000
def GM0 (aE:Nat):GM:=⟨aE,1,0,[],fun _=> .blank⟩
def cR:jB:=⟨0,1,0,0⟩
def P0z:Nat->Piece:=fun _=>⟨0,false,[]⟩
theorem Yg (j:Nat):(P0z j).ok:=⟨by show 0<=_;omega,by show 0<=_;omega,fun _=>⟨rfl,rfl⟩,fun h=>absurd rfl h⟩
theorem KK {D D':aT}(Gx:64<=D.ay.length)(h65:D.ay.length<=65536)(hz:∀i,i<D.ay.length->D.cur i=kN)(hc:Calm D')(hw:D'.waits=[])(hl:D'.ay.length=D.ay.length)
 (sX:∀j,D'.cur j=if j=0 then dw 0 else if j=1+D.ay.length/4 then bI cR else D.cur j):jJ D' (GM0 (D.ay.length-1-D.ay.length/4)) 0 0 P0z [] cR:=by
 have TG:(rl (1+D.ay.length/4) (D.ay.length-1-D.ay.length/4) [] cR []).get D' 0=bI cR:=by
  rw[lH,sX,aAH (by omega),aAI (by omega)];rfl
 refine⟨hc,hw,by omega,by omega,by rw[sX,aAI rfl],fun j hj=> ?_,rfl,fun j _=>aAE _,by omega,by simp,by simp, ?_,by rw[hl];exact TG,by decide⟩
 ·rw[hl]at hj;rw[sX,aAH (by omega),aAH (by omega),hz _ (by omega)];exact⟨Qx,Yg j⟩
 ·rw[hl];refine⟨rfl,rfl,rfl,rfl,rfl,fun n=>Iff.rfl,aDc,⟨aAE _, ?_, ?_,aDc,fun n hn=>by cases hn⟩, ?_,fun n hn=> ?_,fun n hn=> ?_,trivial,rfl,aDc,fun n hn=>by cases hn⟩
  ·show 1<=D.ay.length-1-D.ay.length/4;omega
  ·show D.ay.length-1-D.ay.length/4<=65536;omega
  ·show 1+D.ay.length/4+(D.ay.length-1-D.ay.length/4)<=D'.ay.length;omega
  ·have hn:n<1:=hn;have:n=0:=by omega
   subst this;show((rl _ _ [] cR []).get D' 0).length=512;rw[TG];exact gK _
  ·have h1:=hn.1;have h2:n<1:=hn.2.1;omega
theorem ZL (aE:Nat)(h:1<=aE)(h2:aE<=65536):ic (GM0 aE) []:=⟨⟨aAE _,h,h2,aDc,fun n hn=>by cases hn⟩, .inl ⟨rfl,rfl⟩⟩
section
variable {st st':St} {a:Nat} {F:List Nat} {D:aT}
theorem KL (hd:du st a F D)(iE:cY st)(hc:Calm D)(hw:D.waits=[])(Gx:64<=D.ay.length)(hz:∀i,i<D.ay.length->D.cur i=kN):R 42 [.ptr a 0] st (JD a F D (GM0 (D.ay.length-1-D.ay.length/4)) 0 st):=by
 refine bN ?_;rw[w42];have h65:=(show D.ay.length<=65536 from by obtain⟨_,_,_,_,_,_,_,h⟩:=hd;exact h.size);rw[cU,af,ag,aAH (by decide)];refine(tX hd).same ?_;have hlt:aj .lss none true (I D.ay.length) (.int .i64 64) st= .ok (.bool false) st:=by rw[aw,cP,aAB (by omega)]
 rw[hlt,af,ag,aAH (by decide)];refine(IN hd (by omega)).mono ?_;rintro _ s2 ⟨k2,p,bd,bn,bi,bc,rfl,hP2,nN⟩;have Gt:=hd.keep k2 (by simp);have n2:=k2.next;rw[cN];refine(oQ Gt).same ?_;simp only[aJ,aK];refine bK (fun fu vs s=>∃i,fu+i=D.ay.length/4/\vs=[.ptr a 0, .ptr p 0,I ((D.ay.length/4:Nat):Int),I i]/\Kp [] s2 s) ?_ (n:=D.ay.length/4) ⟨0,rfl,rfl,Kp.refl _ _⟩;rintro fu vs s k ⟨i,hi,rfl,hk⟩ next;simp only[aJ,aK];rw[dv,af,ag];have Y6:=Gt.keep hk (by simp);have w7:=hP2.keep hk (by simp);have RO:cY s:=hk.fresh (k2.fresh iE);have e2:∀s,aj .neq (some .int) true (I 0) (.int .i64 0) s= .ok (.bool false) s:=fun s=>rfl
 by_cases zc:i<D.ay.length/4
 ·rw[aAJ zc,aAI rfl]
  have e1:aj .add none true (.int .i64 1) (I i) s= .ok (I ((1+i:Nat):Int)) s:=by
   have:aj .add none true (I ((1:Nat):Int)) (I i) s= .ok (I ((1+i:Nat):Int)) s:=by rw[aw,cE,bz (by omega)];congr 2
   exact this
  rw[e1,af]
  have Wp:D.read ((1+i:Nat):Int)=(0,kN):=by
   have:=hc.read (i:=1+i) (by omega);rw[hz _ (by omega)]at this;exact this
  refine(xz Y6 ((1+i:Nat):Int)).mono ?_;intro v s5 hv;rw[Wp,aAI rfl]at hv;obtain⟨k5,_,b,rfl,gb,Jm,Gu⟩:=hv;rw[aD,af,aN,aD,af,e2,af,ag,aAH (by decide)];have sl5:Sl s5 [] (.slice b 0 512 512 1) 1 (ai kN):= .inr ⟨b,0,512,512,1,rfl,by simp[oO],⟨aAE _, .inr rfl⟩, .inr ⟨by simp,Gu,_,_,_,gb,by simp[oO],by rw[aBg,aAK (by simp[oO])]⟩⟩;have NK:bh .slice (.slice b 0 512 512 1) s5= .ok (I ((512:Nat):Int)) s5:=rfl;rw[NK,af];have RC:=Er (n:=512) (s:=s5) (by omega);rw[RC,aS];have k6:Kp [] s5 (St.new s5 (.cells (ai (List.replicate 512 0)) 5 false)):=(Kp.refl [] s5).new _;have g6:(St.new s5 (.cells (ai (List.replicate 512 0)) 5 false)).mem.get s5.next=some (.cells (ai (List.replicate 512 0)) 5 false):=au _ _;have n6:(St.new s5 (.cells (ai (List.replicate 512 0)) 5 false)).next=s5.next+1:=rfl;generalize St.new s5 (.cells (ai (List.replicate 512 0)) 5 false)=s6 at*;have sl6:Sl s6 [] (.slice s5.next 0 512 512 0) 1 (ai (List.replicate 512 0)):= .inr ⟨s5.next,0,512,512,0,rfl,by simp,⟨aAE _, .inl rfl⟩, .inr ⟨by simp,by omega,_,_,_,g6,by simp,by rw[aBg,aAK (by simp)]⟩⟩;refine(OH (sl5.mono k6) sl6).same ?_;have hbq:(kN==List.replicate 512 0)=true:=beq_self_eq_true _;rw[hbq,dm,af,aAU,ag,aAH (by decide),gF i (by omega),af];exact next (fu-1) _ _ (by omega) ⟨i+1,by omega,rfl,(hk.trans k5 (by simp)).trans k6 (by simp)⟩
 ·rw[aAB zc,aAH (by decide)];have mC:bD [.int .i64 0, .int .i64 0, .int .i64 0, .int .i64 0] [(1,1, .int .i64 1)] s= .ok (.agg [I cR.root,I cR.used,I cR.head,I cR.free]) s:=rfl;rw[mC,af];have Bg:=w7.main;have Wu:=w7.lt p (by simp)
  have I6:∀{s:St} {l:List CV} {o:Nat} {K:St->Prop},s.mem.get p=some (.cells l 158 false)->o+4<=l.length->K (St.set s p (.cells (bp l o [I cR.root,I cR.used,I cR.head,I cR.free]) 158 false))->lz 4 o (.ptr p 0) (.agg [I cR.root,I cR.used,I cR.head,I cR.free]) s K:=by
   intro s l o K hg h3 hK;simp only[lz,br,ah,af,aF,hg,aR,aX,aAF];exact⟨⟨rfl,rfl,h3⟩,hK⟩
  have TJ:∀{s:St} {l:List CV} {K:CV->Prop},s.mem.get p=some (.cells l 158 false)->10<=l.length->(l.drop 6).take 4=[I cR.root,I cR.used,I cR.head,I cR.free]->K (.agg [I cR.root,I cR.used,I cR.head,I cR.free])->zj 4 6 (.ptr p 0) s K:=by
   intro s l K hg h3 h4 hK;unfold zj;rw[br,af,ah,af,gH (n:=4) hg (by omega),af,aAF,h4];exact hK
  refine I6 Bg (by simp) ?_;refine TJ (ao _ _ _) (by simp[bp]) rfl ?_;refine I6 (ao _ _ _) (by simp[bp]) ?_;rw[set_set];refine TJ (ao _ _ _) (by simp[bp]) rfl ?_;have qF:=w7.nd;simp only[aAQ,aAD,aBo,aCg,aBY]at qF
  have xq:cA (St.set s p (.cells (bp (bp [.ptr a 0, .bq,I (eg D.ay.length).first,I (eg D.ay.length).aE, .map bd, .map bn,I (eg D.ay.length).kept.root,I (eg D.ay.length).kept.used,I (eg D.ay.length).kept.head,I (eg D.ay.length).kept.free,I (eg D.ay.length).m.root,I (eg D.ay.length).m.used,I (eg D.ay.length).m.head,I (eg D.ay.length).m.free, .map bi, .map bc] 6 [I cR.root,I cR.used,I cR.head,I cR.free]) 10 [I cR.root,I cR.used,I cR.head,I cR.free]) 158 false)) p a .bq {eg D.ay.length with kept:=cR,m:=cR} bd bn bi bc:=
   ⟨ao _ _ _,w7.dirty.mono (al _ _ _ _ (aBE qF.1.1)),w7.now.mono (al _ _ _ _ (aBE qF.1.2.1)),w7.idle.mono (al _ _ _ _ (aBE qF.1.2.2.1)),w7.count.mono (al _ _ _ _ (aBE qF.1.2.2.2)),w7.nd,w7.lt,⟨rfl,rfl,rfl⟩⟩
  have qy:Kp [p] s (St.set s p (.cells (bp (bp [.ptr a 0, .bq,I (eg D.ay.length).first,I (eg D.ay.length).aE, .map bd, .map bn,I (eg D.ay.length).kept.root,I (eg D.ay.length).kept.used,I (eg D.ay.length).kept.head,I (eg D.ay.length).kept.free,I (eg D.ay.length).m.root,I (eg D.ay.length).m.used,I (eg D.ay.length).m.head,I (eg D.ay.length).m.free, .map bi, .map bc] 6 [I cR.root,I cR.used,I cR.head,I cR.free]) 10 [I cR.root,I cR.used,I cR.head,I cR.free]) 158 false)):=(Kp.refl _ s).set _ (.inl (by simp)) Wu;generalize St.set s p (.cells (bp (bp [.ptr a 0, .bq,I (eg D.ay.length).first,I (eg D.ay.length).aE, .map bd, .map bn,I (eg D.ay.length).kept.root,I (eg D.ay.length).kept.used,I (eg D.ay.length).kept.head,I (eg D.ay.length).kept.free,I (eg D.ay.length).m.root,I (eg D.ay.length).m.used,I (eg D.ay.length).m.head,I (eg D.ay.length).m.free, .map bi, .map bc] 6 [I cR.root,I cR.used,I cR.head,I cR.free]) 10 [I cR.root,I cR.used,I cR.head,I cR.free]) 158 false)=de at*;have zf:∀b∈F,b<st.next:=hd.lt;have akh:=nN p (by simp);have Xn:=Y6.keep qy fun b hb hh=>by have:=zf b hb;simp at hh;omega
  have qB:=hk.next;have akC:=qy.next;refine(Cx (m:=cR) (by intro n hn;simp[lq,cR]at hn;rcases hn with rfl|rfl|rfl|rfl<;>omega)).mono ?_;rintro _ bU ⟨rfl,qH⟩;have PE:=gK cR;have zP:(ai (bI cR)).length=512:=by simpa using PE
  refine kS zP (bB _) ?_;have CE:=qH.page (ai (bI cR));have LM:(St.set (St.new bU (.cells (zr 512) 173 false)) bU.next (.cells (ai (bI cR)) 173 false)).mem.get bU.next=some (.cells (ai (bI cR)) 173 false):=ao _ _ _;have n14:(St.set (St.new bU (.cells (zr 512) 173 false)) bU.next (.cells (ai (bI cR)) 173 false)).next=bU.next+1:=rfl;generalize St.set (St.new bU (.cells (zr 512) 173 false)) bU.next (.cells (ai (bI cR)) 173 false)=eV at*;have R4:=xq.keep CE (by simp);have Xm:=Xn.keep CE (by simp);have WJ:=R4.main;have TI:cY eV:=CE.fresh (qy.fresh RO);have zM:bR 512 1 (.ptr bU.next 0) none none eV= .ok (.slice bU.next 0 512 512 0) eV:=rfl;rw[bt,br,af,ah,af,aA,WJ,aq];simp only[aAF,aAA,aAy,av,zM,af];have M3:=qH.next;have We:Sl eV F (.slice bU.next 0 512 512 0) 1 (ai (bI cR)):= .inr ⟨bU.next,0,512,512,0,rfl,by simp[PE],⟨aAE _, .inl rfl⟩, .inr ⟨fun hh=>by have:=zf _ hh;omega,by omega,_,_,_,LM,by omega,by rw[aBg,aAK (by omega)]⟩⟩;refine(uA Xm (i:=((1+D.ay.length/4:Nat):Int)) TI (by rw[hw];simp) We PE).mono ?_;rintro _ iL ⟨rfl,pe,F2,KB,ze⟩;obtain⟨w1,w2,w3,w4,w5,w6⟩:=hc.write (i:=1+D.ay.length/4) (s:=bI cR) (by omega) PE (by unfold aT.yL;rw[hw];simp);generalize hD1:(D.write ((1+D.ay.length/4:Nat):Int) (bI cR)).2=D1 at*;rw[w1];refine⟨⟨trivial,trivial⟩,trivial, ?_⟩;rw[e2,af,ag,aAH (by decide)];refine(vn KB (by rw[w5,hw];simp)).mono ?_;rintro _ dd ⟨rfl,EK,F3,alS,xE⟩;obtain⟨f1,f2,f3,f4,f5⟩:=w2.flush w4;generalize hD2:D1.flush.2=D2 at*;rw[f1,e2,af,ag,aAH (by decide)];have TH:cY dd:=EK.fresh (pe.fresh TI);refine(Jj TH alS (by rw[f4];simp) (base:=0) (by omega)).mono ?_;rintro _ kO ⟨rfl,Dr,F4,RT,Uc⟩;obtain⟨g1,g2,g3,g4,g5⟩:=f2.head (by unfold aT.yL;rw[f4];simp) (by rw[f3,w3];omega) 0;generalize hD3:(D2.head 0).2=D3 at*;rw[g1,e2,af,ag,aAH (by decide)];have Kx:D3.ay.length=D.ay.length:=by rw[g3,f3,w3]
  have sX:∀j,D3.cur j=if j=0 then dw 0 else if j=1+D.ay.length/4 then bI cR else D.cur j:=fun j=>by
   rw[g5]
   by_cases hj:j=0
   ·rw[aAI hj,aAI hj]
   ·rw[aAH hj,aAH hj,f5,w6]
  have hok:=KK Gx h65 hz g2 g4 Kx sX;refine(oQ RT).same ?_;have acv:cY kO:=Dr.fresh TH;have hRd:rM D3 ⟨1,D3.ay.length/4,0,0,0⟩ P0z:=⟨by show 0<D3.ay.length/4;omega,by show 1+D3.ay.length/4<=_;omega,by omega,aDp _,fun j hj=>hok.pK j hj⟩;refine(ye (base:=0) acv RT g2.dead hRd (by omega)).mono ?_;rintro _ tP ⟨r,xo,Fo,Gg,rfl,k19,lr,Ja,Ze,hr⟩;have n15:=pe.next;have n16:=EK.next;have n17:=Dr.next;have n19:=k19.next;have aud:=CE.next
  have Ub:∀b∈F4,b∈F\/eV.next<=b:=fun b hb=>by
   rcases Uc b hb with h1|h1
   ·rcases xE b h1 with h2|h2
    ·exact ze b h2
    ·right;omega
   ·right;omega
  have adm:∀b∈F3,b∈F\/eV.next<=b:=fun b hb=>by
   rcases xE b hb with h2|h2
   ·exact ze b h2
   ·right;omega
  have yU:∀b∈[p,bd,bn,bi,bc],b<s2.next:=hP2.lt
  have yV:∀(X:List Nat),(∀b∈X,b∈F\/eV.next<=b)->∀b∈[p,bd,bn,bi,bc],b∉X:=fun X hX b hb hh=>by
   have h1:=yU b hb;have h2:=nN b hb;rcases hX b hh with h3|h3
   ·have:=zf b h3;omega
   ·omega
  have Fj:=(((R4.keep pe (yV F fun b hb=> .inl hb)).keep EK (yV F2 ze)).keep Dr (yV F3 adm)).keep k19 (by simp);have alR:=RT.keep k19 (by simp);rw[aD,af,aN,aD,af,aN,aN,aD,af,e2,af,ag,aAH (by decide)];have akG:=Fj.main;have akm:=Fj.lt p (by simp);simp only[lz,br,ah,af,aAF];rw[aF,akG,aR];refine⟨⟨rfl,rfl,by simp⟩, ?_⟩;have Hy:∀T,Kp [p] tP (St.set tP p (.cells T 158 false)):=fun T=>(Kp.refl _ tP).set _ (.inl (by simp)) akm;have h1p:=yU p (by simp);have h1d:=yU bd (by simp);have h1n:=yU bn (by simp);have h1i:=yU bi (by simp);have h1c:=yU bc (by simp);have amE:∀b∈F4,b<kO.next:=RT.lt;have EW:=hok.rep;rw[Kx]at EW;refine⟨⟨p,a, .ptr r 0,bd,bn,bi,bc,F4,D3,[],cR,1+D.ay.length/4⟩,rfl,rfl,⟨{eg D.ay.length with kept:=cR,m:=cR},⟨ao _ _ _,Fj.dirty.mono (al _ _ _ _ (aBE qF.1.1)),Fj.now.mono (al _ _ _ _ (aBE qF.1.2.1)),Fj.idle.mono (al _ _ _ _ (aBE qF.1.2.2.1)),Fj.count.mono (al _ _ _ _ (aBE qF.1.2.2.2)),Fj.nd,Fj.lt,⟨rfl,rfl,rfl⟩⟩,EW,alR.keep (Hy _) fun b hb hh=> ?_,g2.dead,fun b hb hh=> ?_,rfl,rfl,rfl⟩,⟨⟨0,0,P0z,[],r,hok,aAE _,rfl, ?_, ?_,fun n=>rfl⟩,by show 1+D.ay.length/4=1+D3.ay.length/4;rw[Kx],by simp,by simp⟩, ?_, ?_,by show st.next<=p;omega,g2,Kx,r,rfl,by omega⟩
  ·exact yV F4 Ub p (by simp) (by have:b=p:=by simpa using hh
                                  rw[<-this];exact hb)
  ·exact yV F4 Ub b hh hb
  ·have:=(hok.opened).2;rw[this]at lr;exact lr.keep (Hy _) (by simp;omega)
  ·unfold PI.all;simp only[aAD,aBY];exact⟨by omega,by omega,by omega,by omega,by omega,fun hh=>by have:=amE r hh;omega⟩
  ·have q0:Kp F st s:=(k2.trans hk (by simp)).mono (by simp);have q1:Kp F st eV:=(q0.trans qy (by intro q hq;right;simp at hq;omega)).trans CE (by simp);have q2:Kp F st iL:=q1.trans pe fun q hq=> .inl hq;have q3:Kp F st dd:=q2.trans EK fun q hq=>(ze q hq).imp id fun h=>by omega
   have q4:Kp F st kO:=q3.trans Dr fun q hq=>(adm q hq).imp id fun h=>by omega
   exact(q4.trans k19 (by simp)).trans (Hy _) (by intro q hq;right;simp at hq;omega)
  ·intro b hb;unfold PI.all at hb;simp only[aAD]at hb;have h2d:=nN bd (by simp);have h2n:=nN bn (by simp);have h2i:=nN bi (by simp);have h2c:=nN bc (by simp);rcases hb with hb|hb|hb|hb|hb|hb
   ·right;omega
   ·right;omega
   ·right;omega
   ·right;omega
   ·right;omega
   ·rcases Ub b hb with h1|h1
    ·left;exact h1
    ·right;omega
end
theorem aT.DC (D:aT)(L:List (Nat×jl))(w:Nat×jl)(h:(D.writes L).1=0)(h2:((D.writes L).2.write w.1 w.2).1=0):D.writes (L++[w])=(0,((D.writes L).2.write w.1 w.2).2):=by
 induction L generalizing D with
 |nil=>
  simp only[aT.writes]at h h2;simp only[aBf,aT.writes];rw[aAI h2]
 |cons v L ih=>
  simp only[aBC,aT.writes]at h h2⊢
  by_cases hv:(D.write v.1 v.2).1=0
  ·rw[aAI hv]at h h2⊢;rw[aAI hv];exact ih _ h h2
  ·rw[aAH hv]at h;exact absurd h hv
structure O9 (D D':aT)(count:Nat)(P':Nat->Piece)(k:Nat):Prop where
 calm:Calm D'
 yL:D'.yL
 ay:D'.ay.length=D.ay.length
 waits:D'.waits.length=D.waits.length+k
 log:∀j,j<count->D'.cur (1+j)=(P' j).bY/\(P' j).ok
 zero:D'.cur 0=D.cur 0
 rest:∀j,1+count<=j->D'.cur j=D.cur j
theorem MJ {rec:List UInt8}{last i:Nat}(hi:i<bj rec.length)(hl:last<=1000000000)(hp:bj rec.length<=1000000):(cT rec last (bj rec.length) i).ok/\(cT rec last (bj rec.length) i).bY.length=512:=by
 have hlen:(cT rec last (bj rec.length) i).data.length<=501:=by unfold cT;simp;omega
 refine⟨⟨by unfold cT;simp;omega,hlen,fun h=>absurd h (by unfold cT;simp),fun _ h=> ?_⟩,Piece.pJ _ hlen⟩;have gL:¬i+1=bj rec.length:=by unfold cT at h;simpa using h
 have h2:=Eg (len:=rec.length) (i:=i+1) (by omega);unfold cT;simp;omega
theorem JI {D:aT}{count base last top:Nat}{P:Nat->Piece}{rec:List UInt8}(hc:Calm D)(hw:D.yL)(h0:0<count)(KA:1+count<=D.ay.length)(akQ:∀j,j<count->D.cur (1+j)=(P j).bY/\(P j).ok)(hl:last<=1000000000)(hp:bj rec.length<=1000000):
 ∀k,k<=bj rec.length->(D.writes ((List.range k).map (RingM.nM ⟨1,count,base,last,top⟩ rec))).1=0/\O9 D (D.writes ((List.range k).map (RingM.nM ⟨1,count,base,last,top⟩ rec))).2 count (uM P count rec last k) k:=by
 intro k
 induction k with
 |zero=>intro _;exact⟨rfl,hc,hw,rfl,rfl,akQ,rfl,fun _ _=>rfl⟩
 |succ k ih=>
  intro hk;obtain⟨i1,i2⟩:=ih (by omega);obtain⟨p1,p2⟩:=MJ (rec:=rec) (last:=last) (i:=k) (by omega) hl hp;have RA:(last+1+k)%count<count:=Nat.mod_lt _ h0;rw[List.range_succ,aBP,aBh,List.map_nil];generalize hL:(List.range k).map (RingM.nM ⟨1,count,base,last,top⟩ rec)=L at*;have yS:RingM.nM ⟨1,count,base,last,top⟩ rec k=(1+(last+1+k)%count,(cT rec last (bj rec.length) k).bY):=rfl;obtain⟨a1,a2,a3,a4,a5,a6⟩:=i2.calm.write (i:=1+(last+1+k)%count) (s:=(cT rec last (bj rec.length) k).bY) (by rw[i2.ay];omega) p2 i2.yL;have e:=D.DC L (RingM.nM ⟨1,count,base,last,top⟩ rec k) i1 (by rw[yS];exact a1);rw[e,yS];refine⟨rfl,a2,a4,by show(aT.ay _).length=_;rw[a3];exact i2.ay,by show(aT.waits _).length=_;rw[a5,i2.waits];omega,fun j hj=> ?_, ?_,fun j hj=> ?_⟩
  ·show aT.cur _ (1+j)=_/\_;rw[a6];simp only[uM]
   by_cases h:j=(last+1+k)%count
   ·rw[aAI (by omega),aAI h];exact⟨rfl,p1⟩
   ·rw[aAH (by omega),aAH h];exact i2.log j hj
  ·show aT.cur _ 0=_;rw[a6,aAH (by omega)];exact i2.zero
  ·show aT.cur _ j=_;rw[a6,aAH (by omega)];exact i2.rest j hj
theorem sN.X3 {M M':bS}{D D':aT}{G:GM}(h:sN M D G)(hg:∀n,0<n->n<M.aE->M'.get D' n=M.get D n)(h0:(M'.get D' 0).length=512)(h1:M'.aE=M.aE)(h2:M'.m=M.m)(h3:M'.idle=G.fr)(h4:M'.now=[])(h5:M'.count=[])(h6:M'.first=M.first)(h7:D'.ay.length=D.ay.length):sN M' D' G:=by
 have hm:=h.ok.jv;refine⟨h1.trans h.aE,by rw[h2];exact h.used,by rw[h2];exact h.root,by rw[h2];exact h.head,by rw[h2];exact h.free,fun n=>by rw[h3],by rw[h3];exact h.ok.nd,h.ok,by rw[h6,h1,h7];exact h.fits,fun n hn=> ?_,fun n hn=> ?_, ?_,by rw[h4,h5];rfl,by rw[h5];exact aDc,by rw[h5];intro n hn;cases hn⟩
 ·by_cases hz:n=0
  ·rw[hz];exact h0
  ·rw[hg n (by omega) (by rw[h.aE];omega)];exact h.len n hn
 ·rw[hg n hn.1 (by rw[h.aE];have:=hn.2.1;omega)];exact h.cont n hn
 ·have key:∀l:List Nat,(∀n∈l,0<n/\n<M.aE)->LP M D l->LP M' D' l:=by
   intro l
   induction l with
   |nil=>intro _ _;trivial
   |cons n r ih=>intro h1 h2;exact⟨(hg n (h1 n (by simp)).1 (h1 n (by simp)).2).trans h2.1,ih (fun m hm=>h1 m (by simp[hm])) h2.2⟩
  exact key _ (fun n hn=>⟨(h.ok.fr n hn).1,by rw[h.aE];have:=(h.ok.fr n hn).2;omega⟩) h.chain
theorem AT:∀(l d:List eA) (n:Nat),(l.map (·.1)).Nodup->dg (nM d l) n=(dg l n).or (dg d n):=by
 intro l
 induction l with
 |nil=>intro d n _;rfl
 |cons e l ih=>
  intro d n hn;rw[aBh,aAQ]at hn;show dg (nM (gD d e.1 e.2) l) n=_;rw[ih _ n hn.2,oR];simp only[dg]
  by_cases h:n=e.1
  ·subst h;rw[aAI rfl,aAI rfl,lE.2 hn.1];rfl
  ·rw[aAH h,aAH h]
theorem jJ.X4 {D D':aT}{G Gk:GM}{base last:Nat}{P:Nat->Piece}{Ls:List (List eA)}{kept:jB}{M:bS}{l:List eA}(h:jJ D Gk base last P Ls kept)(hr:sN M D G)(hf:M.first=1+D.ay.length/4)(qz:M.aE=D.ay.length-1-D.ay.length/4)
 (Aq:∀n,dg M.dirty n=dg (dV [] Ls) n) (hl:(l.map (·.1)).Nodup) (we:∀n,dg l n=if n=0 then some (bI M.m)else dg M.now n) (Ji:∀e∈l,e.1<M.aE/\e.2.length=512) (Rp:(fH l).length<=1000000) (tw:bj (fH l).length+(last-base)<=D.ay.length/4) (yQ:M.m.root<2147483648)
 (uq:O9 D D' (D.ay.length/4) (uM P (D.ay.length/4) (fH l) last (bj (fH l).length)) (bj (fH l).length)):jJ D'.flush.2 G base (last+bj (fH l).length) (uM P (D.ay.length/4) (fH l) last (bj (fH l).length)) (Ls++[l]) M.m:=by
 obtain⟨f1,f2,f3,f4,f5⟩:=uq.calm.flush uq.yL;have hlen:D'.flush.2.ay.length=D.ay.length:=f3.trans uq.ay;have Gx:=h.least
 have hg:∀n,(rl (1+D.ay.length/4) (D.ay.length-1-D.ay.length/4) (dV [] (Ls++[l])) M.m G.fr).get D'.flush.2 n=if n=0 then bI M.m else M.get D n:=fun n=>by
  rw[lH,pO,AT l _ n hl,we]
  by_cases hn:n=0
  ·rw[aAI hn,aAI hn];rfl
  ·rw[aAH hn,aAH hn,f5,uq.rest _ (by omega),<-Aq];unfold bS.get;rw[hf];cases dg M.now n with
   |some s=>rfl
   |none=>cases dg M.dirty n<;>rfl
 refine⟨f2,f4,by rw[hlen];exact h.least,by rw[hlen];exact h.jv,by rw[f5,uq.zero];exact h.head,fun j hj=> ?_, ?_,fun j hj=> ?_,by rw[hlen];have:=h.laid.le.1;omega,fun l' Gn e he=> ?_,fun l' Gn=> ?_, ?_, ?_,yQ⟩
 ·rw[hlen]at hj;rw[f5];exact uq.log j hj
 ·rw[hlen,aBP];exact h.laid.put tw
 ·rw[hlen]at hj;exact Vq h.le _ (aAE _) j hj
 ·rw[hlen];rcases aAM.1 Gn with h1|h1
  ·exact h.wm l' h1 e he
  ·have:l'=l:=by simpa using h1
   subst this;have:=Ji e he;omega
 ·rcases aAM.1 Gn with h1|h1
  ·exact h.small l' h1
  ·have:l'=l:=by simpa using h1
   rw[this];exact Rp
 ·rw[hlen];refine hr.X3 (fun n h1 h2=>by rw[hg,aAH (by omega)]) (by rw[hg,aAI rfl];exact gK _) qz.symm rfl rfl rfl rfl hf.symm hlen
 ·rw[hlen,hg,aAI rfl]
theorem Ms {l:List eA}{n:Nat}{s:jl}(h:n∉l.map (·.1)):pS (fZ (gD l n s)) n=fZ l:=by
 induction l with
 |nil=>simp[gD,fZ,pS]
 |cons p r ih=>
  simp only[aBh,aAD,aBY]at h;simp only[gD,aAH h.1];show pS ((((p.1:Nat):Int),CV.agg (ai p.2))::fZ (gD r n s)) n=(((p.1:Nat):Int),CV.agg (ai p.2))::fZ r;simp only[pS];rw[aAH (by omega),ih h.2]
theorem Ev {l:List Nat}(h:l.Nodup):(l.map Int.ofNat).Nodup:=by
 induction l with
 |nil=>simp
 |cons a l ih=>
  rw[aAQ]at h;rw[aBh,aAQ];refine⟨fun hh=> ?_,ih h.2⟩;obtain⟨b,hb,e⟩:=aBd.1 hh;exact h.1 (by rw[<-Int.ofNat.inj e];exact hb)
theorem DL {es:List eE}{m:MZ}(h:cM es m):cM (gC es) m:=by
 unfold cM gC at*;rw[aCX];exact h
section
variable {st st':St}
theorem Fu {d:List eE}{s:List eE}{Ld Ls:List eA}(hd:cM d (fZ Ld))(hs:cM s (fZ Ls))(g:eE->Bool)(hg:∀e,g e=true↔¬∃x∈s,x.1=e.1):cM ((gC d).filter g) (fZ (Ld.filter (fun e=>decide (e.1∉Ls.map (·.1))))):=by
 have hk:∀n:Nat,(∃x∈s,x.1=I n)↔n∈Ls.map (·.1):=by
  intro n;obtain⟨k1,k2⟩:=rk hs;constructor
  ·rintro⟨x,hx,e⟩;obtain⟨m,hm,e2⟩:=k2 x hx;rw[e]at e2;have:(n:Int)=(m:Int):=by cases e2;rfl
   have:n=m:=by omega
   rw[this];exact hm
  ·intro hn;have:Int.ofNat n∈iy s:=by rw[k1];exact aBK hn
   unfold iy at this;obtain⟨x,hx,e⟩:=aBd.1 this;obtain⟨m,hm,e2⟩:=k2 x hx;refine⟨x,hx, ?_⟩;rw[e2]at e⊢;have:(m:Int)=(n:Int):=e;rw[this]
 induction d generalizing Ld with
 |nil=>cases Ld with
  |nil=>rfl
  |cons p r=>simp[cM,fZ]at hd
 |cons e d ih=>cases Ld with
  |nil=>simp[cM,fZ]at hd
  |cons p r=>
   have Dx:=hd;simp only[cM,fZ,aBh,aCm,aCn]at Dx;obtain⟨⟨a,b⟩,c⟩:=Dx;have hi:=ih (Ld:=r) c;show cM (((e.1,e.2.1,0)::gC d).filter _) _;rw[aBV,aBV];have a':e.1=I p.1:=a
   by_cases h:p.1∈Ls.map (·.1)
   ·rw[aAH (by rw[hg];show¬¬∃x∈s,x.1=e.1;rw[a',hk];exact fun hh=>hh h),aAH (by simpa using h)];exact hi
   ·rw[aAI (by rw[hg];show¬∃x∈s,x.1=e.1;rw[a',hk];exact h),aAI (by simpa using h)];show cM ((e.1,e.2.1,0)::_) (fZ (p::_));simp only[cM,fZ,aBh,a',b]
    congr 1
theorem Sm {bd bs:Nat}{Ld Ls:List eA}(hd:IsMap st bd (fZ Ld))(hs:IsMap st bs (fZ Ls))(gL:bd≠bs)(Fb:Ld.length<=1000000)(hdk:∀n∈Ld.map (·.1),n<=1000000)(kL:Ls.length<=1000000)(hsk:∀n∈Ls.map (·.1),n<=1000000)(hv:∀e∈Ls,e.2.length=512)(hlt:bd<st.next):
 R 133 [.map bd, .map bs] st fun _ st'=>Kp [bd] st st'/\st'.next=st.next/\IsMap st' bd (fZ (lp Ld Ls)):=by
 obtain⟨ed,d1,d2,d3,d4⟩:=hd.KI Fb hdk;obtain⟨es,s1,s2,s3,s4⟩:=hs.KI kL hsk
 have hvg:FX 512 es:=by
  intro e he;have:(e.1,e.2.1)∈(fZ Ls).map (fun p=>(I p.1,p.2)):=by rw[<-s1];exact aBK he
  obtain⟨q,hq,e2⟩:=aBd.1 this;unfold fZ at hq;obtain⟨x,hx,rfl⟩:=aBd.1 hq;simp only[aCn]at e2;exact⟨ai x.2,e2.2.symm,by simpa using hv x hx,bB _⟩
 have hI:I0 133 [.map bd, .map bs] st=some (.ok .undef ⟨st.mem.put bd (some (.lmap (jX ed es))),st.next⟩):=by
  show FH 512 [.map bd, .map bs] st=_;unfold FH;simp only;rw[d2,s2,aAI ⟨gL,d3,s3,d4,s4,hvg⟩]
 refine Pb hI ?_;have CH:(⟨st.mem.put bd (some (.lmap (jX ed es))),st.next⟩:St)=St.set st bd (.lmap (jX ed es)):=rfl;rw[CH];refine⟨(Kp.refl _ st).set _ (.inl (by simp)) hlt,rfl, .inr ⟨jX ed es,ao _ _ _, ?_, ?_⟩⟩
 ·unfold jX lp;have h1:=Fu d1 s1;have h2:=DL s1;unfold cM at*;rw[aBP,h1,h2]
  ·unfold fZ;simp only[aBP]
  ·intro e;simp
 ·have n1:=hd.nd;have n2:=hs.nd;rw[kg]at n1 n2⊢;have n1':=il n1;have n2':=il n2
  have:((lp Ld Ls).map (·.1)).Nodup:=by
   unfold lp;rw[aBP,aBy];refine⟨List.Sublist.nodup (List.Sublist.map _ List.filter_sublist) n1',n2',fun a ha b hb e=> ?_⟩;obtain⟨x,hx,rfl⟩:=aBd.1 ha;have:=(aCs.1 hx).2;simp only[aBR]at this;exact this (e▸hb)
  exact Ev this
end
section
variable {st st':St} {p a:Nat} {lg:CV} {M:bS} {bd bn bi bc:Nat} {F:List Nat} {D:aT}
theorem Sg (e:eA)(h:e.1<=2147483647)(h2:e.2.length=512):(KQ e).length<=520:=by
 unfold KQ;have h1:=vN e.2;have h3:=(jE e.1 h).2;have h4:=pE (n:=(iO e.2).length) (by omega);simp only[aAG];omega
theorem IB (l:List eA)(h:∀e∈l,e.1<=2147483647/\e.2.length=512):(fH l).length<=520*l.length:=by
 induction l with
 |nil=>exact aAE _
 |cons e l ih=>
  have h1:=Sg e (h e (by simp)).1 (h e (by simp)).2;have h2:=ih fun x hx=>h x (by simp[hx]);have:fH (e::l)=KQ e++fH l:=rfl;rw[this,aAG,aBb];omega
structure aef (N:List eA)(ks:List Nat):Prop where
 mem:∀n∈ks,∃s,dg N n=some s/\n<=100000/\s.length=512
theorem QB {x:CV}{ks:List Nat}{N:List eA}{K:List CV->St->Prop}(hP:cA st p a lg {M with now:=N} bd bn bi bc)(iE:cY st)(hx:∀s,Kp [] st s->Sl s [] x 1 (ck ks))(lI:aef N ks)(Gp:ks.length<=1900)
 (hK:∀s rec,Kp [] st s->(∃Fr,Own s rec 1 5 (ai (fH (dF N ks))) Fr/\∀b∈Fr,st.next<=b/\b<s.next)->K [.ptr p 0,rec,x,I ks.length,I ks.length] s):
 c8 (fun te s6 Tb=>
 us (aj .lss (none) false (ar 4 te) (ar 3 te) s6) fun jz=>
 aB jz (
 Lim.idx 1 (ar 2 te) (ar 4 te) s6 fun jy=>
 fm 5 (ar 0 te) s6 fun jN=>
 us (iw .int (.agg (zr 512)) false jN jy s6) fun jq=>
 upon (dD 173 (zr 512) s6) fun iV s7=>
 upon (aP 512 iV jq s7) fun _ s8=>
 bT (
 R 129 [(ar 1 te),jy] s8 fun jK s9=>
 us (bR 512 1 iV none none s9) fun jM=>
 R 130 [jM,(.str [0])] s9 fun jn df=>
 us (dB .strOf jn df) fun lY=>
 R 128 [jK,lY] df fun mF de=>
 ((True)/\True)/\(True)/\
 us (aj .add (none) true (ar 4 te) (.int .i64 1) de) fun oz=>
 Tb [(ar 0 te),mF,(ar 2 te),(ar 3 te),oz] de)) (K te s6)) [.ptr p 0, .ae,x,I ks.length,I ((0:Nat):Int)] st:=by
 have yR:∀i,i<=ks.length->(fH (dF N (ks.take i))).length<=990000:=fun i hi=>by
  have h1:=IB (dF N (ks.take i)) fun e he=>by
   unfold dF at he;obtain⟨n,hn,rfl⟩:=aBd.1 he;obtain⟨s,h1,h2,h3⟩:=lI.mem n (aBp hn);simp only[h1,aCc];exact⟨by omega,h3⟩
  have h2:(dF N (ks.take i)).length<=1900:=by unfold dF;simp;omega
  omega
 refine bK (fun fu vs s=>∃i rec,fu+i=ks.length/\vs=[.ptr p 0,rec,x,I ks.length,I i]/\Kp [] st s/\∃Fr,Own s rec 1 5 (ai (fH (dF N (ks.take i)))) Fr/\∀b∈Fr,st.next<=b/\b<s.next) ?_ (n:=ks.length) ⟨0, .ae,rfl,rfl,Kp.refl _ _,[], .inl ⟨rfl,rfl,rfl⟩,by simp⟩;rintro fu vs s k ⟨i,rec,hi,rfl,hk,Fr,own,Og⟩ next;simp only[aJ,aK];rw[dv,af,ag];have w7:=hP.keep hk (by simp);have Bg:=w7.main;have qB:=hk.next
 by_cases zc:i<ks.length
 ·rw[aAJ zc,aAI rfl];refine(hx s hk).idx (i:=i) (by simpa using zc) _ ?_;have e9:(ck ks)[i]'(by simpa using zc)=I ks[i]:=by simp[ck]
  rw[e9];obtain⟨sec,hg,hnp,kL⟩:=lI.mem ks[i] (aAW zc);have yX:=IsMap.lookup (.inl w7.now) (.agg (zr 512)) false ks[i] s rfl;rw[aAH (by decide),uK,show dg ({M with now:=N}:bS).now ks[i]=some sec from hg]at yX;simp only[aBL,aCc]at yX;simp only[fm,br,ah,af,aA,aAF,Bg,aq,aAA,aAy,av,yX];have zP:(ai sec).length=512:=by simpa using kL
  refine kS zP (bB _) ?_;have k8:=(Kp.refl [] s).page (ai sec);have g8:(St.set (St.new s (.cells (zr 512) 173 false)) s.next (.cells (ai sec) 173 false)).mem.get s.next=some (.cells (ai sec) 173 false):=ao _ _ _;have n8:(St.set (St.new s (.cells (zr 512) 173 false)) s.next (.cells (ai sec) 173 false)).next=s.next+1:=rfl;generalize St.set (St.new s (.cells (zr 512) 173 false)) s.next (.cells (ai sec) 173 false)=s8 at*;have ait:=own.keep k8 fun b hb=>⟨(Og b hb).2,by simp⟩;rw[bt];have apS:=yR i (by omega);refine(rB (ait.sl (X:=[]) fun b hb=>⟨by simp,by have:=(Og b hb).2;omega⟩) (by omega) (by omega)).mono ?_;intro jK s9 hm9;have k9:=hm9.kp;have n9:=k9.next;have zM:bR 512 1 (.ptr s.next 0) none none s9= .ok (.slice s.next 0 512 512 0) s9:=rfl;rw[zM,af];have g9:=(k9.keep s.next (by omega) (by simp)).trans g8;have Wh:kK s9 [s.next] (.slice s.next 0 512 512 0) 1 (ai sec):=fun X hX=> .inr ⟨s.next,0,512,512,0,rfl,by simp[kL],⟨aAE _, .inl rfl⟩, .inr ⟨hX s.next (by simp),by omega,_,_,_,g9,by omega,by rw[aBg,aAK (by omega)]⟩⟩;refine(Qm Wh (by omega) (by omega)).mono ?_;rintro jn df ⟨hst,rfl⟩;rw[hst.nil.str,af];have htl:=vN sec;have hub:=xP ks[i];have hul:=(jE ks[i] (by omega)).2;refine(BK (hm9.sl [] (by simp)) (by simp;omega) (by omega)).mono ?_;intro mF de NG;refine⟨⟨trivial,trivial⟩,trivial, ?_⟩;rw[gF i (by omega),af];have qy:=NG.kp;obtain⟨F11,q1,q2,q3⟩:=NG
  have PU:fH (dF N (ks.take (i+1)))=fH (dF N (ks.take i))++uv ks[i]++(uv (iO sec).length++iO sec):=by
   rw[aAR zc];unfold dF;rw[aBP,Ea];simp[fH,KQ,hg]
  rw[<-PU]at q2;have k89:Kp [] st _:=((hk.trans k8 (by simp)).trans k9 (by simp)).trans qy (by simp);exact next (fu-1) _ _ (by omega) ⟨i+1,mF,by omega,rfl,k89,F11,q2,fun b hb=>⟨by have:=(q3 b hb).1;omega,(q3 b hb).2⟩⟩
 ·rw[aAB zc,aAH (by decide)];rw[aAK (by omega)]at own;have hii:i=ks.length:=by omega
  subst hii;exact hK s rec hk ⟨Fr,own,Og⟩
end
