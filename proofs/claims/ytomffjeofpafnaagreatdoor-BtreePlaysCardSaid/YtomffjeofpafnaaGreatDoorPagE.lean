import Derived.Test.YtomffjeofpafnaaGreatDoorPagD
namespace Lim
open Go
noncomputable section
set_option maxRecDepth 100000
section
variable {st st':St}
def ni (l:List Nat):List Nat:=l.mergeSort fun a b=>decide (a<=b)
theorem tN (l:List Nat):(ni l).Perm l:=List.mergeSort_perm l _
theorem rT {l:List Nat}{n:Nat}:n∈ni l↔n∈l:=(tN l).mem_iff
theorem wF {l:List Nat}(h:l.Nodup):(ni l).Nodup:=(tN l).nodup_iff.2 h
theorem vQ (l:List Nat):(ni l).length=l.length:=(tN l).length_eq
theorem rk {es:List eE}{L:List (Nat×jl)}(h:cM es (fZ L)):iy es=(L.map (·.1)).map Int.ofNat/\(∀e∈es,∃n:Nat,n∈L.map (·.1)/\e.1=I n):=by
 induction es generalizing L with
 |nil=>cases L with
  |nil=>exact⟨rfl,by simp⟩
  |cons p r=>simp[cM,fZ]at h
 |cons e es ih=>cases L with
  |nil=>simp[cM,fZ]at h
  |cons p r=>
   have h':=h;simp only[cM,fZ,aBh,aCm,aCn]at h';obtain⟨⟨a,b⟩,c⟩:=h';obtain⟨i1,i2⟩:=ih (L:=r) c;refine⟨?_, ?_⟩
   ·show(match e.1 with| .int _ a=>a|_=>0)::iy es=_;rw[a,i1];rfl
   ·intro x hx;rcases aAD.1 hx with rfl|hx
    ·exact⟨p.1,by simp,a⟩
    ·obtain⟨n,hn,e⟩:=i2 x hx;exact⟨n,by simp at hn⊢;exact .inr hn,e⟩
theorem kg (L:List (Nat×jl)):(fZ L).map (·.1)=(L.map (·.1)).map Int.ofNat:=by unfold fZ;simp
theorem il {l:List Nat}(h:(l.map Int.ofNat).Nodup):l.Nodup:=by
 induction l with
 |nil=>simp
 |cons a l ih=>
  simp only[aBh,aAQ]at h;exact aAQ.2 ⟨fun hh=>h.1 (aBK hh),ih h.2⟩
theorem IsMap.KI {b:Nat}{L:List (Nat×jl)}(h:IsMap st b (fZ L))(hl:L.length<=1000000)(hk:∀n∈L.map (·.1),n<=1000000):∃es,cM es (fZ L)/\lM (st.mem.get b)=es/\mU (st.mem.get b) es/\ie es:=by
 have iQ:=h.nd
 have KI:∀es,cM es (fZ L)->ie es:=fun es he=>by
  obtain⟨k1,k2⟩:=rk he;refine⟨fun e RQ=> ?_,by rw[k1,<-kg];exact iQ,by rw[he.len];unfold fZ;simp;omega⟩;obtain⟨n,hn,e⟩:=k2 e RQ;exact⟨n,e,by omega,by have:=hk n hn;omega⟩
 rcases h with⟨es,c,h1,h2,_,h4,h5⟩|⟨es,h1,h2,_⟩
 ·exact⟨es,h2,by rw[h1];rfl,by rw[h1];exact⟨rfl,h5,h4⟩,KI es h2⟩
 ·exact⟨es,h2,by rw[h1];rfl,by rw[h1];exact rfl,KI es h2⟩
theorem IW {mb:Nat}:R 122 [.map mb] st fun v st'=>v= .func (.func 163) [] [.ptr st.next 0]/\st'.mem.get st.next=some (.cells [.map mb] 153 false)/\Kp [] st st'/\st'.next=st.next+1:=by
 refine bN ?_;rw[aht];rw[cn];refine⟨rfl, ?_⟩;rw[l6,af];exact⟨rfl,au _ _,(Kp.refl _ _).new _,rfl⟩
theorem AJ {mb bb:Nat}{t:TypeId}{g:Bool}{L:List (Nat×jl)}(hb:st.mem.get bb=some (.cells [.map mb] t g))(h:IsMap st mb (fZ L))(hl:L.length<=1000000)(hk:∀n∈L.map (·.1),n<=1000000):
 R 121 [.func (.func 163) [] [.ptr bb 0]] st (Made 1 3 (ck (ni (L.map (·.1)))) st):=by
 obtain⟨es,e1,e2,e3,e4⟩:=h.KI hl hk
 have hI:I0 121 [.func (.func 163) [] [.ptr bb 0]] st=some (uI 3 es st):=by
  show DQ 163 3 [.func (.func 163) [] [.ptr bb 0]] st=_;unfold DQ;simp only[hb];rw[e2,aAI ⟨rfl,e3,e4⟩]
 have hlen:es.length=L.length:=by rw[e1.len];unfold fZ;simp
 unfold uI at hI
 by_cases h0:es=[]
 ·rw[aAI h0]at hI;refine Pb hI ?_;have:L=[]:=by rw[h0]at hlen;exact aBa.1 hlen.symm
  subst this;exact⟨[],Kp.refl _ _, .inl ⟨rfl,by simp[ni,ck],rfl⟩,by simp⟩
 ·rw[aAH h0]at hI;refine Pb hI ?_
  have hs:(nU (iy es)).map I=ck (ni (L.map (·.1))):=by
   rw[(rk e1).1];unfold nU ni ck;rw[<-List.map_mergeSort (r:=fun a b=>decide (a<=b)) (f:=Int.ofNat) (s:=fun a b=>decide (a<=b)) (fun a _ b _=>by simp)];rw[aCX];rfl
  rw[hs];refine⟨[st.next],(Kp.refl [] st).new _, .inr (.inr ⟨st.next,es.length,rfl,aCK.2 h0, ?_,rfl,au _ _⟩),by simp⟩;rw[oY,vQ,aBJ,hlen];omega
def lp (d s:List (Nat×jl)):List (Nat×jl):=d.filter (fun e=>decide (e.1∉s.map (·.1)))++s
theorem Ej (a b:List (Nat×jl))(n:Nat):dg (a++b) n=(dg a n).or (dg b n):=by
 induction a with
 |nil=>rfl
 |cons p r ih=>simp only[aBC,dg];split;rfl;exact ih
theorem lE {l:List (Nat×jl)}{n:Nat}:dg l n=none↔n∉l.map (·.1):=by
 induction l with
 |nil=>simp[dg]
 |cons p r ih=>simp only[dg,aBh,aAD,aBY];split;simp_all;rw[ih];simp_all
theorem J8 (d s:List (Nat×jl))(n:Nat):dg (lp d s) n=(dg s n).or (dg d n):=by
 unfold lp;rw[Ej]
 have key:dg (d.filter (fun e=>decide (e.1∉s.map (·.1)))) n=if n∈s.map (·.1)then none else dg d n:=by
  induction d with
  |nil=>simp[dg]
  |cons p r ih=>
   rw[aBV]
   by_cases h:p.1∈s.map (·.1)
   ·rw[aAH (by simpa using h),ih];simp only[dg]
    by_cases hn:n=p.1
    ·subst hn;rw[aAI h,aAI h]
    ·rw[aAH hn]
   ·rw[aAI (by simpa using h)];simp only[dg,ih]
    by_cases hn:n=p.1
    ·subst hn;rw[aAI rfl,aAH h,aAI rfl]
    ·rw[aAH hn,aAH hn]
 rw[key]
 by_cases h:n∈s.map (·.1)
 ·rw[aAI h];cases hs:dg s n with
  |none=>exact absurd h (lE.1 hs)
  |some x=>rfl
 ·rw[aAH h,lE.2 h];cases dg d n<;>rfl
end
def aT.lay (D:aT)(first:Nat)(l:List eA):aT:=l.foldl (fun D e=>(D.write (Int.ofNat (first+e.1)) e.2).2) D
theorem aT.EG (D:aT)(first:Nat)(l:List eA)(e:eA):D.lay first (l++[e])=((D.lay first l).write (Int.ofNat (first+e.1)) e.2).2:=by unfold aT.lay;rw[aDn];rfl
structure Pe (D:aT)(first:Nat)(l:List eA):Prop where
 calm:Calm (D.lay first l)
 yL:(D.lay first l).yL
 ay:(D.lay first l).ay=D.ay
 waits:(D.lay first l).waits.length=D.waits.length+l.length
 low:∀j,j<first->(D.lay first l).cur j=D.cur j
 other:∀n,n∉l.map (·.1)->(D.lay first l).cur (first+n)=D.cur (first+n)
 at_:(l.map (·.1)).Nodup->∀e∈l,(D.lay first l).cur (first+e.1)=e.2
theorem aat {D:aT}{first:Nat}(h:Calm D)(hw:D.yL):∀l:List eA,(∀e∈l,first+e.1<D.ay.length/\e.2.length=512)->Pe D first l:=by
 intro l
 suffices key:∀r:List eA,(∀e∈r.reverse,first+e.1<D.ay.length/\e.2.length=512)->Pe D first r.reverse by
  intro hl;have:=key l.reverse (by rwa [aCu])
  rwa [aCu]at this
 intro r
 induction r with
 |nil=>intro _;exact⟨h,hw,rfl,rfl,fun _ _=>rfl,fun _ _=>rfl,fun _ e he=>by cases he⟩
 |cons e r ih=>
  intro hl;rw[List.reverse_cons]at hl⊢;have hi:=ih fun x hx=>hl x (by simp at hx⊢;exact .inl hx);have he:=hl e (by simp);obtain⟨a1,a2,a3,a4,a5,a6⟩:=hi.calm.write (i:=first+e.1) (s:=e.2) (by rw[hi.ay];exact he.1) he.2 hi.yL;have e1:D.lay first (r.reverse++[e])=((D.lay first r.reverse).write ((first+e.1:Nat):Int) e.2).2:=D.EG first r.reverse e
  refine⟨by rw[e1];exact a2,by rw[e1];exact a4,by rw[e1,a3];exact hi.ay,by rw[e1,a5,hi.waits];simp;omega,fun j hj=> ?_,fun n hn=> ?_,fun iQ x hx=> ?_⟩
  ·rw[e1,a6,aAH (by omega)];exact hi.low j hj
  ·rw[e1,a6,aAH (fun hh=>hn (by simp;exact .inr (by omega)))];exact hi.other n fun hh=>hn (by simp at hh⊢;exact .inl hh)
  ·rw[e1,a6];rw[aBP,aBy]at iQ;rcases aAM.1 hx with hx|hx
   ·have gL:x.1≠e.1:=iQ.2.2 x.1 (aBK hx) e.1 (by simp);rw[aAH (by omega)];exact hi.at_ iQ.1 x hx
   ·have:x=e:=by simpa using hx
    subst this;rw[aAI rfl]
def dF (d:List eA)(ks:List Nat):List eA:=ks.map fun n=>(n,(dg d n).getD [])
theorem mi (d:List eA)(ks:List Nat):(dF d ks).map (·.1)=ks:=by unfold dF;rw[aCX];exact List.map_id ks
theorem Ei {d:List eA}{n:Nat}{s:jl}(h:dg d n=some s):(n,s)∈d:=by
 induction d with
 |nil=>cases h
 |cons p r ih=>
  simp only[dg]at h
  split at h
  ·rename_i hn;cases h;subst hn;exact aBF
  ·exact aBk _ (ih h)
section
variable {st st':St} {p a:Nat} {lg:CV} {M:bS} {bd bn bi bc:Nat} {F:List Nat} {D:aT}
def Pd (p a:Nat)(M:bS)(bn bi bc:Nat)(F:List Nat)(D:aT)(base count:Nat)(P:Nat->Piece)(st:St)(v:CV)(st':St):Prop:=
 v=I 0/\Kp (p::F) st st'/\∃r mo F' D',cA st' p a (.ptr r 0) {M with dirty:=[]} mo bn bi bc/\du st' a F' D'/\Calm D'/\D'.waits=[]/\D'.ay.length=D.ay.length/\fE st' r a (RingM.opened 1 count base P)/\st.next<=r/\st.next<=mo/\r≠mo/\(∀b∈F',(b∈F\/st.next<=b)/\b≠r/\b≠mo)/\
  (∀j,D'.cur j=if j=0 then dw base else if j<M.first then D.cur j else (dg M.dirty (j-M.first)).getD (D.cur j))
theorem yk (h:cA st p a lg M bd bn bi bc)(hd:du st a F D)(hc:Calm D)(hw:D.yL)(YN:D.waits.length<=1000000)(iE:cY st)(hF:∀b∈F,b∉[p,bd,bn,bi,bc])(Fb:M.dirty.length<=1000000)(Aq:∀e∈M.dirty,e.1<M.aE/\e.2.length=512)(KA:M.first+M.aE=D.ay.length)(CR:M.first=1+D.ay.length/4)(h4:4<=D.ay.length)
 {base:Nat} (hb:base<=1000000000) {P:Nat->Piece} (hP:∀j,j<D.ay.length/4->D.cur (1+j)=(P j).bY/\(P j).ok):
 R 73 [.ptr p 0,I base] st (Pd p a M bn bi bc F D base (D.ay.length/4) P st):=by
 refine bN ?_;rw[w73];have hsz:=(show D.ay.length<=65536 from by obtain⟨_,_,_,_,_,_,_,h⟩:=hd;exact h.size);rw[cN];simp only[fm,br,ah,af,aA,h.main,aq,aAF,Nat.reduceAdd,aAA,aAy,av];refine IW.mono ?_;rintro _ ep ⟨rfl,qa,qG,n13⟩;have adb:=h.keep qG (by simp);refine(AJ qa adb.dirty Fb (fun n hn=> ?_)).mono ?_
 ·obtain⟨e,he,rfl⟩:=aBd.1 hn;have:=(Aq e he).1;omega
 intro x eV EV;have CE:=EV.kp;have K14:Kp [] st eV:=qG.trans CE (by simp);have R4:=adb.keep CE (by simp);have Xm:=hd.keep K14 (by simp);have n14:=K14.next;have KF:∀b∈F,b<st.next:=hd.lt
 have Np:Sl eV (p::F) x 1 (ck (ni (M.dirty.map (·.1)))):=EV.sl _ fun b hb=>by
  rcases aAD.1 hb with rfl|hb
  ·have:=h.lt b (by simp);omega
  ·have:=KF b hb;omega
 have avz:(ni (M.dirty.map (·.1))).length=M.dirty.length:=by rw[vQ,aBJ]
 have PJ:(M.dirty.map (·.1)).Nodup:=il (by rw[<-kg];exact h.dirty.nd);have RI:=wF PJ
 have TD:∀n∈ni (M.dirty.map (·.1)),∃s,dg M.dirty n=some s/\n<M.aE/\s.length=512:=fun n hn=>by
  rw[rT]at hn;cases hg:dg M.dirty n with
  |none=>exact absurd hn (lE.1 hg)
  |some s=>have:=Aq _ (Ei hg);exact⟨s,rfl,this.1,this.2⟩
 generalize lI:ni (M.dirty.map (·.1))=ks at*;have hlen:=Np.len ks.length (by simp) (by omega) eV;rw[hlen,af];simp only[aJ,aK]
 have RG:∀i,i<=ks.length->Pe D M.first (dF M.dirty (ks.take i)):=fun i hi=>aat hc hw _ fun e he=>by
  unfold dF at he;obtain⟨n,hn,rfl⟩:=aBd.1 he;obtain⟨s,h1,h2,h3⟩:=TD n (aBp hn);simp only[h1,aCc];exact⟨by omega,h3⟩
 refine bK (fun fu vs s=>∃i F1,fu+i=ks.length/\vs=[.ptr p 0,I base,x,I ks.length,I i]/\Kp F eV s/\du s a F1 (D.lay M.first (dF M.dirty (ks.take i)))/\(∀b∈F1,b∈F\/eV.next<=b)) ?_ (n:=ks.length) ⟨0,F,rfl,rfl,Kp.refl _ _,Xm,fun b hb=> .inl hb⟩;rintro fu vs s k ⟨i,F1,hi,rfl,hk,TO,zf⟩ next;simp only[aJ,aK];rw[dv,af,ag];have w7:=R4.keep hk fun b hb hh=>hF b hh hb;have Bg:=w7.main;have qB:=hk.next;have RO:cY s:=hk.fresh (K14.fresh iE)
 have yU:∀b∈[p,bd,bn,bi,bc],b∉F1:=fun b hb hh=>by
  rcases zf b hh with h1|h1
  ·exact hF b h1 hb
  ·have:=h.lt b hb;omega
 by_cases zc:i<ks.length
 ·rw[aAJ zc,aAI rfl];refine((Np.dM (Y:=F) (by intro q hq;left;simp[hq])).mono hk).idx (i:=i) (by simpa using zc) _ ?_;have e9:(ck ks)[i]'(by simpa using zc)=I ks[i]:=by simp[ck]
  rw[e9];obtain⟨sec,hg,hnp,kL⟩:=TD ks[i] (aAW zc);have yX:=IsMap.lookup w7.dirty (.agg (zr 512)) false ks[i] s rfl;rw[aAH (by decide),uK,hg]at yX;simp only[aBL,aCc]at yX;simp only[br,ah,af,aA,aAF,Bg,aq,aAA,aAy,av,yX];have zP:(ai sec).length=512:=by simpa using kL
  refine kS zP (bB _) ?_;have k4:=(Kp.refl [] s).page (ai sec);have g4:(St.set (St.new s (.cells (zr 512) 173 false)) s.next (.cells (ai sec) 173 false)).mem.get s.next=some (.cells (ai sec) 173 false):=ao _ _ _;have n4:(St.set (St.new s (.cells (zr 512) 173 false)) s.next (.cells (ai sec) 173 false)).next=s.next+1:=rfl;generalize St.set (St.new s (.cells (zr 512) 173 false)) s.next (.cells (ai sec) 173 false)=s4 at*;have PO:=w7.keep k4 (by simp);have hd4:=TO.keep k4 (by simp);have hm4:=PO.main;have zM:bR 512 1 (.ptr s.next 0) none none s4= .ok (.slice s.next 0 512 512 0) s4:=rfl;have e1:aj .add none false (I M.first) (I ks[i]) s4= .ok (I ((M.first+ks[i]:Nat):Int)) s4:=by rw[aw,cE,bz (by omega)];congr 2
  have adp:=TO.lt;have We:Sl s4 F1 (.slice s.next 0 512 512 0) 1 (ai sec):= .inr ⟨s.next,0,512,512,0,rfl,by simp[kL],⟨aAE _, .inl rfl⟩, .inr ⟨fun hh=>by have:=adp _ hh;omega,by omega,_,_,_,g4,by omega,by rw[aBg,aAK (by omega)]⟩⟩;have hL:=RG i (by omega);simp only[bt,hm4,aq,aAA,aAy,av,e1,af,zM];have awb:(dF M.dirty (ks.take i)).length<=1000000:=by unfold dF;simp;omega
  refine(uA hd4 (i:=((M.first+ks[i]:Nat):Int)) (k4.fresh RO) (by rw[hL.waits];omega) We kL).mono ?_;rintro _ s5 ⟨rfl,k5,F2,hd5,ze⟩;obtain⟨w1,w2,w3,w4,w5,w6⟩:=hL.calm.write (i:=M.first+ks[i]) (s:=sec) (by rw[hL.ay];omega) kL hL.yL;rw[w1];have e2:aj .neq (some .int) true (I 0) (.int .i64 0) s5= .ok (.bool false) s5:=rfl;refine⟨⟨trivial,trivial,trivial⟩,trivial, ?_⟩;simp only[e2,af,ag,aAz,aAO,gF i (by omega)]
  have PU:dF M.dirty (ks.take (i+1))=dF M.dirty (ks.take i)++[(ks[i],sec)]:=by
   rw[aAR zc];unfold dF;rw[aBP];simp[hg]
  refine next (fu-1) _ _ (by omega) ⟨i+1,F2,by omega,rfl, ?_, ?_,fun b hb=> ?_⟩
  ·exact(hk.trans k4 (by simp)).trans k5 fun q hq=>zf q hq
  ·rw[PU,aT.EG];exact hd5
  ·rcases ze b hb with h1|h1
   ·exact zf b h1
   ·right;omega
 ·rw[aAB zc,aAH (by decide)];have yO:ks.take i=ks:=aAK (by omega);rw[yO]at TO;have hL:=RG ks.length (aAE _);rw[List.take_length]at hL;have hel:(dF M.dirty ks).length=ks.length:=by unfold dF;simp
  generalize Zf:D.lay M.first (dF M.dirty ks)=D1 at*;simp only[br,ah,af,aA,aAF,Bg,aq,aAA,aAy,av];refine(vn TO (by rw[<-Zf,hL.waits];omega)).mono ?_;rintro _ s6 ⟨rfl,k6,F2,za,ze⟩;obtain⟨f1,f2,f3,f4,f5⟩:=hL.calm.flush hL.yL;rw[Zf]at f1 f2 f3 f4 f5;have WQ:=hL.ay;rw[Zf]at WQ;have e2:∀s,aj .neq (some .int) true (I 0) (.int .i64 0) s= .ok (.bool false) s:=fun s=>rfl;have XB:=w7.keep k6 yU;have ND:=XB.main;have RP:cY s6:=k6.fresh RO;have n6:=k6.next
  have XG:∀b∈F2,b∈F\/eV.next<=b:=fun b hb=>by
   rcases ze b hb with h1|h1
   ·exact zf b h1
   ·right;omega
  have abu:∀b∈[p,bd,bn,bi,bc],b∉F2:=fun b hb hh=>by
   rcases XG b hh with h1|h1
   ·exact hF b h1 hb
   ·have:=h.lt b hb;omega
  generalize hD2:D1.flush.2=D2 at*;rw[f1];simp only[e2,af,ag,aAz,aAO,ND,aq,aAA,aAy,av];refine(Jj RP za (by rw[f4];simp) (base:=base) (by omega)).mono ?_;rintro _ s7 ⟨rfl,k7,F3,CU,xE⟩;obtain⟨g1,g2,g3,g4,g5⟩:=f2.head (by unfold aT.yL;rw[f4];simp) (by rw[f3,WQ];omega) base;have Jn:=XB.keep k7 abu;have YZ:=Jn.main;have alx:cY s7:=k7.fresh RP;have n7:=k7.next
  have Oj:∀b∈F3,b∈F\/eV.next<=b:=fun b hb=>by
   rcases xE b hb with h1|h1
   ·exact XG b h1
   ·right;omega
  generalize hD3:(D2.head base).2=D3 at*;rw[g1];have Kx:D3.ay.length=D.ay.length:=by rw[g3,f3,WQ]
  simp only[e2,af,ag,aAz,aAO,bt,YZ,aq,aAA,aAy,av];refine(oQ CU).same ?_;rw[Kx]
  have sX:∀j,D3.cur j=if j=0 then dw base else if j<M.first then D.cur j else (dg M.dirty (j-M.first)).getD (D.cur j):=by
   intro j;rw[g5]
   by_cases hj:j=0
   ·rw[aAI hj,aAI hj]
   ·rw[aAH hj,aAH hj,f5]
    by_cases hj2:j<M.first
    ·rw[aAI hj2];have:=hL.low j hj2
     rwa [Zf]at this
    ·rw[aAH hj2];obtain⟨n,rfl⟩:∃n,j=M.first+n:=⟨j-M.first,by omega⟩;rw[aCE];cases hg:dg M.dirty n with
     |none=>
      have:=hL.other n (by rw[mi,<-lI,rT];exact lE.1 hg)
      rwa [Zf]at this
     |some s'=>
      have kW:(n,s')∈dF M.dirty ks:=by
       unfold dF;refine aBd.2 ⟨n, ?_,by rw[hg];rfl⟩;rw[<-lI,rT];exact aBd.2 ⟨_,Ei hg,rfl⟩
      have:=hL.at_ (by rw[mi];exact RI) _ kW;rw[Zf]at this;exact this
  have hRd:rM D3 ⟨1,D.ay.length/4,base,base,base⟩ P:=⟨by show 0<D.ay.length/4;omega,by show 1+D.ay.length/4<=_;omega,by omega,by show base<=_;omega,fun j hj=>by
   have hj:j<D.ay.length/4:=hj;show D3.cur (1+j)=_/\_;rw[sX,aAH (by omega),aAI (by omega)];exact hP j hj⟩
  refine(ye alx CU g2.dead hRd hb).mono ?_;rintro _ s9 ⟨r,xo,Fo,Gg,rfl,k9,lr,Ja,Ze,hr⟩;have n9:=k9.next;have hP9:=Jn.keep k9 (by simp);have hd9:=CU.keep k9 (by simp);have hm9:=hP9.main;rw[aD,af,aN,aD,af,aN,aN,aD,af];refine⟨⟨⟨by rw[YZ];exact rfl,trivial⟩,trivial,trivial⟩,trivial, ?_⟩;rw[e2,af,ag,aAH (by decide),ja,aS];have kA:Kp [] s9 (St.new s9 (.map [] 0)):=(Kp.refl [] s9).new _;have mA:da (St.new s9 (.map [] 0)) s9.next []:=da.new s9;have nA:(St.new s9 (.map [] 0)).next=s9.next+1:=rfl;generalize St.new s9 (.map [] 0)=sA at*;have hPA:=hP9.keep kA (by simp);have hdA:=hd9.keep kA (by simp);have hmA:=hPA.main
  have EP:∀{s:St} {l:List CV} {x:CV} {o:Nat} {K:St->Prop},s.mem.get p=some (.cells l 158 false)->x.cD=[x]->cr x=true->o<l.length->K (St.set s p (.cells (bp l o [x]) 158 false))->lz 1 o (.ptr p 0) x s K:=by
   intro s l x o K hg h1 h2 h3 hK;simp only[lz,br,ah,af,aF,hg,aR,h1,aAF];exact⟨⟨rfl,by simp[h2],h3⟩,hK⟩
  refine EP hmA rfl rfl (by decide:(1:Nat)<16) ?_;refine EP (ao _ _ _) rfl rfl (by exact(by decide:(4:Nat)<16)) ?_;rw[set_set];have jZ:bp (bp [.ptr a 0,lg,I M.first,I M.aE, .map bd, .map bn,I M.kept.root,I M.kept.used,I M.kept.head,I M.kept.free,I M.m.root,I M.m.used,I M.m.head,I M.m.free, .map bi, .map bc] 1 [.ptr r 0]) 4 [.map s9.next]=[.ptr a 0, .ptr r 0,I M.first,I M.aE, .map s9.next, .map bn,I M.kept.root,I M.kept.used,I M.kept.head,I M.kept.free,I M.m.root,I M.m.used,I M.m.head,I M.m.free, .map bi, .map bc]:=rfl;rw[jZ];have akg:=hPA.lt p (by simp);have qF:=h.nd;simp only[aAQ,aAD,aBo,aCg,aBY]at qF;have kB:Kp [p] sA (St.set sA p (.cells [.ptr a 0, .ptr r 0,I M.first,I M.aE, .map s9.next, .map bn,I M.kept.root,I M.kept.used,I M.kept.head,I M.kept.free,I M.m.root,I M.m.used,I M.m.head,I M.m.free, .map bi, .map bc] 158 false)):=(Kp.refl _ sA).set _ (.inl (by simp)) akg;have Ud:∀b∈F3,b<s7.next:=CU.lt
  have akl:∀b∈F3,b∉[p]:=fun b hb hh=>by
   have hh:b=p:=by simpa using hh
   subst hh;rcases Oj b hb with h1|h1
   ·exact hF b h1 (by simp)
   ·have:=h.lt b (by simp);omega
  have Jb:∀b∈[p,bd,bn,bi,bc],b<st.next:=h.lt;have Tx:=Jb p (by simp);have Dt:=Jb bn (by simp);have hp3:=Jb bi (by simp);have hp4:=Jb bc (by simp);have Nt:r<s9.next:=lr.1;refine⟨rfl, ?_,r,s9.next,F3,D3,⟨ao _ _ _, .inl (mA.mono (al _ _ _ _ (by omega))),hPA.now.mono (al _ _ _ _ (aBE qF.1.2.1)),hPA.idle.mono (al _ _ _ _ (aBE qF.1.2.2.1)),hPA.count.mono (al _ _ _ _ (aBE qF.1.2.2.2)), ?_, ?_,⟨rfl,rfl,rfl⟩⟩,hdA.keep kB akl,g2,g4,Kx, ?_,by omega,by omega,by omega,fun b hb=>⟨(Oj b hb).imp id fun h=>by omega, ?_, ?_⟩,sX⟩
  ·have q1:Kp (p::F) st s:=(K14.mono (by simp)).trans hk fun q hq=> .inl (by simp[hq]);have q2:Kp (p::F) st s6:=q1.trans k6 fun q hq=>(zf q hq).imp (fun h=>by simp[h]) fun h=>by omega
   have q3:Kp (p::F) st s7:=q2.trans k7 fun q hq=>(XG q hq).imp (fun h=>by simp[h]) fun h=>by omega
   exact((q3.trans k9 (by simp)).trans kA (by simp)).trans kB fun q hq=> .inl (by simp at hq;simp[hq])
  ·simp only[aAQ,aAD,aBo,aCg,aBY];exact⟨⟨by omega,qF.1.2.1,qF.1.2.2.1,qF.1.2.2.2⟩,⟨by omega,by omega,by omega⟩,qF.2.2⟩
  ·intro b hb;simp at hb;show b<sA.next;omega
  ·exact(lr.keep kA (by simp)).keep kB (by simp;omega)
  ·have:=Ud b hb;omega
  ·have:=Ud b hb;omega
end
def rl (first aE:Nat)(dirty:List eA)(kept:jB)(fr:List Nat):bS:=⟨first,aE,dirty,[],kept,kept,fr,[]⟩
theorem lH {first aE:Nat}{dirty:List eA}{kept:jB}{fr:List Nat}(D:aT)(n:Nat):(rl first aE dirty kept fr).get D n=(dg dirty n).getD (D.cur (first+n)):=by
 unfold rl bS.get;simp only[dg];cases dg dirty n<;>rfl
theorem sN.congr {M M':bS}{D D':aT}{G:GM}(h:sN M D G)(hg:∀n,n<M.aE->M'.get D' n=M.get D n)(h1:M'.aE=M.aE)(h2:M'.m=M.m)(h3:M'.idle=M.idle)(h4:M'.now=M.now)(h5:M'.count=M.count)(h6:M'.first=M.first)(h7:D'.ay.length=D.ay.length):sN M' D' G:=by
 have hm:=h.ok.jv;refine⟨h1.trans h.aE,by rw[h2];exact h.used,by rw[h2];exact h.root,by rw[h2];exact h.head,by rw[h2];exact h.free,by rw[h3];exact h.idle,by rw[h3];exact h.wU,h.ok,by rw[h6,h1,h7];exact h.fits,fun n hn=> ?_,fun n hn=> ?_, ?_,by rw[h4,h5];exact h.count,by rw[h5];exact h.rC,by rw[h5];exact h.tl⟩
 ·rw[hg n (by rw[h.aE];omega)];exact h.len n hn
 ·rw[hg n (by rw[h.aE];have:=hn.2.1;omega)];exact h.cont n hn
 ·have key:∀l:List Nat,(∀n∈l,n<M.aE)->LP M D l->LP M' D' l:=by
   intro l
   induction l with
   |nil=>intro _ _;trivial
   |cons n r ih=>intro h1 h2;exact⟨(hg n (h1 n (by simp))).trans h2.1,ih (fun m hm=>h1 m (by simp[hm])) h2.2⟩
  exact key _ (fun n hn=>by rw[h.aE];have:=(h.ok.fr n hn).2;omega) h.chain
structure jJ (D:aT)(Gk:GM)(base last:Nat)(P:Nat->Piece)(Ls:List (List eA))(kept:jB):Prop where
 calm:Calm D
 waits:D.waits=[]
 least:64<=D.ay.length
 jv:D.ay.length<=65536
 head:D.cur 0=dw base
 pK:∀j,j<D.ay.length/4->D.cur (1+j)=(P j).bY/\(P j).ok
 laid:jU P (D.ay.length/4) base (Ls.map fH) last
 le:∀j,j<D.ay.length/4->(P j).n<=last
 room:last<=base+D.ay.length/4
 wm:∀l∈Ls,∀e∈l,e.1<D.ay.length-1-D.ay.length/4/\e.2.length=512
 small:∀l∈Ls,(fH l).length<=1000000
 rep:sN (rl (1+D.ay.length/4) (D.ay.length-1-D.ay.length/4) (dV [] Ls) kept Gk.fr) D Gk
 zero:(rl (1+D.ay.length/4) (D.ay.length-1-D.ay.length/4) (dV [] Ls) kept Gk.fr).get D 0=bI kept
 root:kept.root<2147483648
theorem jU.count {P:Nat->Piece}{count:Nat}:∀{rs:List (List UInt8)} {s e:Nat},jU P count s rs e->s+rs.length<=e:=by
 intro rs
 induction rs with
 |nil=>intro s e h;have h:e=s:=h;simp[h]
 |cons r rs ih=>intro s e h;have:=ih h.2;have:=nY r.length;simp;omega
theorem MV {m:jB}(h1:m.root<4294967296)(h2:m.used<4294967296)(h3:m.head<4294967296)(h4:m.free<4294967296):QQ (bI m)=m:=by
 have e:bI m=be 4 m.root++(be 4 m.used++(be 4 m.head++(be 4 m.free++List.replicate 496 0))):=by
  unfold bI ri lq;generalize List.replicate 496 (0:UInt8)=z;simp only[aBh,List.map_nil,aBU,List.flatten_nil,aBz,aBn]
 have t:∀(n:Nat) (r:List UInt8),(be 4 n++r).take 4=be 4 n:=fun n r=>aBW (gU 4 n);have d:∀(n:Nat) (r:List UInt8),(be 4 n++r).drop 4=r:=fun n r=>aCW (gU 4 n);unfold QQ;rw[show 8=4+4 from rfl,show 12=4+(4+4)from rfl];simp only[<-aCU];rw[e,t,d,t,d,t,d,t,uj 4 _ (by omega),uj 4 _ (by omega),uj 4 _ (by omega),uj 4 _ (by omega)]
theorem jJ.SY {D:aT}{Gk:GM}{base last:Nat}{P:Nat->Piece}{Ls:List (List eA)}{kept:jB}(h:jJ D Gk base last P Ls kept):QQ (bI kept)=kept:=by
 have h1:=h.rep.ok.jv;have h2:=h.rep.ok.size;have h3:=h.rep.used;have h4:=h.rep.head;have h5:=h.rep.free;have iE:Gk.fr.length<=Gk.used:=kR Gk.used Gk.fr h.rep.ok.nd fun x hx=>(h.rep.ok.fr x hx).2
 have h6:Gk.fr.headD 0<=Gk.used:=by
  cases hf:Gk.fr with
  |nil=>simp
  |cons n r=>have:=(h.rep.ok.fr n (by rw[hf];simp)).2;simp;omega
 have h3:kept.used=Gk.used:=h3;have h4:kept.head=Gk.fr.headD 0:=h4;have h5:kept.free=Gk.fr.length:=h5;exact MV (by have:=h.root;omega) (by omega) (by omega) (by omega)
theorem jJ.settled {D D':aT}{Gk:GM}{base last:Nat}{P:Nat->Piece}{Ls:List (List eA)}{kept:jB}{dirty:List eA}(h:jJ D Gk base last P Ls kept)(hd:∀n,dg dirty n=dg (dV [] Ls) n)(hc:Calm D')(hw:D'.waits=[])(hl:D'.ay.length=D.ay.length)
 (sX:∀j,D'.cur j=if j=0 then dw last else if j<1+D.ay.length/4 then D.cur j else (dg dirty (j-(1+D.ay.length/4))).getD (D.cur j)):jJ D' Gk last last P [] kept:=by
 have hg:∀n,(rl (1+D.ay.length/4) (D.ay.length-1-D.ay.length/4) [] kept Gk.fr).get D' n=(rl (1+D.ay.length/4) (D.ay.length-1-D.ay.length/4) (dV [] Ls) kept Gk.fr).get D n:=fun n=>by
  rw[lH,lH,sX,aAH (by omega),aAH (by omega),aCE,hd];rfl
 refine⟨hc,hw,by rw[hl];exact h.least,by rw[hl];exact h.jv,by rw[sX,aAI rfl],fun j hj=> ?_,rfl,by rw[hl];exact h.le,by omega,by simp,by simp, ?_, ?_,h.root⟩
 ·rw[hl]at hj;rw[sX,aAH (by omega),aAI (by omega)];exact h.pK j hj
 ·rw[hl];exact h.rep.congr (fun n _=>hg n) rfl rfl rfl rfl rfl rfl hl
 ·rw[hl];exact(hg 0).trans h.zero
theorem jJ.opened {D:aT}{Gk:GM}{base last:Nat}{P:Nat->Piece}{Ls:List (List eA)}{kept:jB}(h:jJ D Gk base last P Ls kept):mG P (D.ay.length/4) (D.ay.length/4) base [] [] base=(Ls.map fH,last)/\RingM.opened 1 (D.ay.length/4) base P=⟨1,D.ay.length/4,base,last,last⟩:=by
 have h0:0<D.ay.length/4:=by have:=h.least;omega
 have hn:(P ((last+1)%(D.ay.length/4))).n≠last+1:=by
  have:=h.le ((last+1)%(D.ay.length/4)) (Nat.mod_lt _ h0);omega
 have e:=MD h.laid hn (D.ay.length/4) [] h.room;rw[aBf]at e;refine⟨e, ?_⟩;unfold RingM.opened;rw[e,Qo h.laid h0 h.le]
structure jm (π:PI)(st:St)(Gk:GM)(T:Nat):Prop where
 ex:∃base last P Ls r,jJ π.D Gk base last P Ls π.kept/\last<=T/\π.lg= .ptr r 0/\fE st r π.a ⟨1,π.D.ay.length/4,base,last,last⟩/\r∉π.all/\∀n,dg π.dirty n=dg (dV [] Ls) n
 first:π.first=1+π.D.ay.length/4
 wm:∀e∈π.dirty,e.1<π.D.ay.length-1-π.D.ay.length/4/\e.2.length=512
 nd:(π.dirty.map (·.1)).Nodup
section
variable {π:PI} {st st':St} {Gk:GM} {T:Nat}
theorem jm.keep {X:List Nat}(h:jm π st Gk T)(hk:Kp X st st')(hx:∀r,π.lg= .ptr r 0->r∉X):jm π st' Gk T:=by
 obtain⟨base,last,P,Ls,r,a,b,c,d,e,f⟩:=h.ex;exact⟨⟨base,last,P,Ls,r,a,b,c,d.keep hk (hx r c),e,f⟩,h.first,h.wm,h.nd⟩
end
theorem O4 (l:List UInt8)(i:Nat):nb (l.take i)<=nb l:=by
 have key:∀(b:List UInt8) (acc:Nat),acc<=b.foldl (fun a b=>a*256+b.toNat) acc:=by
  intro b
  induction b with
  |nil=>intro acc;exact aAE _
  |cons x b ih=>intro acc;rw[List.foldl_cons];exact aBS (by omega) (ih _)
 have e:nb l=(l.drop i).foldl (fun a b=>a*256+b.toNat) (nb (l.take i)):=by
  unfold nb;rw[<-aDn,aBm]
 rw[e];exact key _ _
theorem Ef {d:List eA}{n:Nat}{s:jl}{e:eA}(h:e∈gD d n s):e∈d\/e=(n,s):=by
 induction d with
 |nil=>right;simpa[gD]using h
 |cons p r ih=>
  simp only[gD]at h
  split at h
  ·rcases aAD.1 h with h|h
   ·exact .inr h
   ·exact .inl (aBk _ h)
  ·rcases aAD.1 h with h|h
   ·exact .inl (by rw[h];exact aBF)
   ·exact(ih h).imp (aBk _) id
theorem J7 {Q:eA->Prop}:∀{l d:List eA},(∀e∈l,Q e)->(∀e∈d,Q e)->∀e∈nM d l,Q e:=by
 intro l
 induction l with
 |nil=>intro d _ h;exact h
 |cons x l ih=>
  intro d h1 h2;show∀e∈nM (gD d x.1 x.2) l,Q e;refine ih (fun e he=>h1 e (by simp[he])) fun e he=> ?_;rcases Ef he with h|h
  ·exact h2 e h
  ·rw[h];exact h1 x (by simp)
theorem BZ {Q:eA->Prop}:∀{Ls:List (List eA)} {d:List eA},(∀l∈Ls,∀e∈l,Q e)->(∀e∈d,Q e)->∀e∈dV d Ls,Q e:=by
 intro Ls
 induction Ls with
 |nil=>intro d _ h;exact h
 |cons l Ls ih=>intro d h1 h2;exact ih (fun l' Gn=>h1 l' (by simp[Gn])) (J7 (h1 l (by simp)) h2)
def JD (a:Nat)(F:List Nat)(D:aT)(Gk:GM)(T:Nat)(st:St)(v:CV)(st':St):Prop:=
 ∃π:PI,v= .tuple [.ptr π.p 0,I 0]/\π.a=a/\Pg π st' Gk/\jm π st' Gk T/\Kp F st st'/\(∀b∈π.all,b∈F\/st.next<=b)/\st.next<=π.p/\Calm π.D/\π.D.ay.length=D.ay.length/\∃r,π.lg= .ptr r 0/\st.next<=r
section
variable {st st':St} {a:Nat} {F:List Nat} {D:aT}
theorem QK (hd:du st a F D)(iE:cY st){Gk:GM}{base last:Nat}{P:Nat->Piece}{Ls:List (List eA)}{kept:jB}(h:jJ D Gk base last P Ls kept)(hb:last<=1000000000):R 23 [.ptr a 0] st (JD a F D Gk last st):=by
 refine bN ?_;rw[w23];have avw:=h.least;have akV:=h.jv;have sY:=h.laid.le.1;rw[cU,af,ag,aAH (by decide)];have An:=xz hd 0
 have Wp:D.read 0=(0,dw base):=by
  have:=h.calm.read (i:=0) (by omega);rw[h.head]at this;exact this
 refine An.mono ?_;intro v s1 hv;rw[Wp,aAI rfl]at hv;obtain⟨k1,_,b,rfl,gb,Jm,Gu⟩:=hv;rw[aD,af,aN,aD,af];have e2:∀s,aj .neq (some .int) true (I 0) (.int .i64 0) s= .ok (.bool false) s:=fun s=>rfl;rw[e2,af,ag,aAH (by decide)];have PK:=hd.keep k1 (by simp);refine(tX PK).same ?_;have hlt:aj .lss none true (I D.ay.length) (.int .i64 64) s1= .ok (.bool false) s1:=by rw[aw,cP,aAB (by omega)]
 have hhl:=pY base;have sl1:Sl s1 [] (.slice b 0 512 512 1) 1 (ai (dw base)):= .inr ⟨b,0,512,512,1,rfl,by simp[hhl],⟨aAE _, .inr rfl⟩, .inr ⟨by simp,Gu,_,_,_,gb,by simp[hhl],by rw[aBg,aAK (by simp[hhl])]⟩⟩;have hbc:(ai (dw base)).length=512*1:=by simp[hhl]
 obtain⟨v8,q1,q2⟩:=sl1.hi (by omega) hbc (h:=8) (by omega) s1;have OK:dw base=[98,117,116,116,101,114,121,49]++(be 8 base++List.replicate 496 0):=by unfold dw;rw[aBn]
 have PU:(ai (dw base)).take (8*1)=ai [98,117,116,116,101,114,121,49]:=by
  rw[OK,bE,aBW (by simp)]
 rw[PU]at q2;have q3:=q2.str;have q1':aL 1 (.slice b 0 512 512 1) none (some (.int .i64 8)) s1= .ok v8 s1:=q1
 have e8:(dw base)[8]?=some (UInt8.ofNat (base/256^7%256)):=by
  rw[OK,aBO (by simp),xI];rfl
 have e80:UInt8.ofNat (base/256^7%256)=0:=by
  have:base/256^7=0:=Nat.div_eq_of_lt (by omega);rw[this];rfl
 have Y3:cQ 1 (.slice b 0 512 512 1) (.int .i64 8) s1= .ok (.ptr b 8) s1:=by
  have:=gf (size:=1) (off:=0) (cap:=512) (grow:=1) (i:=8) (len:=512) (by omega) (.inr (by omega)) s1 (b:=b);exact this
 have mJ:(ai (dw base))[8]?=some (.int .u8 0):=by
  unfold ai;rw[aBw,e8,e80];rfl
 have Bj:aj .gtr none true (.int .u8 0) (.int .u8 127) s1= .ok (.bool false) s1:=rfl;rw[hlt,af];simp only[aH,aAz,aAO,aAT,bo,af,q1',q3,dX,kQ,aBA,aAU,aG,yN,Y3,aA,gb,aq,mJ,av,Bj,ag];refine(IN PK (by omega)).mono ?_;rintro _ s3 ⟨k3,p,bd,bn,bi,bc,rfl,Od,acn⟩;have hd3:=PK.keep k3 (by simp);have n1:=k1.next;have n3:=k3.next;rw[bt];refine(oQ hd3).same ?_;have sl3:=sl1.mono k3;obtain⟨mr,r1,r2⟩:=sl3.both (by omega) hbc (l:=8) (h:=16) (by omega) (by omega) s3
 have anM:((ai (dw base)).drop (8*1)).take ((16-8)*1)=ai (be 8 base):=by
  rw[OK,bE,aCW (by simp),bE,aBW (by simp[gU])]
 rw[anM]at r2;have r1':aL 1 (.slice b 0 512 512 1) (some (.int .i64 8)) (some (.int .i64 16)) s3= .ok mr s3:=r1;rw[r1',af];have hbe:nb (be 8 base)=base:=uj 8 base (by omega);refine(rZ r2 (by rw[gU];omega) (fun i=>by have:=O4 (be 8 base) i;omega)).same ?_;rw[hbe];have acq:cY s3:=k3.fresh (k1.fresh iE);have hRd:rM D ⟨1,D.ay.length/4,base,base,base⟩ P:=⟨by show 0<D.ay.length/4;omega,by show 1+D.ay.length/4<=_;omega,akV,by show base<=_;omega,fun j hj=>h.pK j hj⟩;refine(ye acq hd3 h.calm.dead hRd (by omega)).mono ?_;rintro _ s6 ⟨r,xo,Fo,Gg,rfl,k6,lr,Ja,Ze,hr⟩;obtain⟨o1,o2⟩:=h.opened;rw[o1]at Ja;rw[o2]at lr;have n6:=k6.next;have XB:=Od.keep k6 (by simp);have za:=hd3.keep k6 (by simp);refine⟨trivial,trivial, ?_⟩;have e01:aj .eql (some .int) true (I 0) (.int .i64 1) s6= .ok (.bool false) s6:=rfl;have e00:aj .eql (some .int) true (I 0) (.int .i64 0) s6= .ok (.bool true) s6:=rfl;have e02:aj .neq (some .int) true (I 0) (.int .i64 0) s6= .ok (.bool false) s6:=rfl;rw[e01,af];simp only[aH,aAz,aAO,aAT,bo,af,e00,aAY,fh];have KC:∀b∈[p,bd,bn,bi,bc],b<s3.next:=Od.lt;have acP:=KC bd (by simp);have acF:=h.laid.count;rw[aBJ]at acF;have tw:=h.room;refine(JX (M:=eg D.ay.length) (Ls:=Ls) XB Ja (fun b hb e=>by have:=Ze b (.inl hb);omega) (fun b hb e=>by have:=Ze b (.inr hb);omega) (fun l hl e he=>h.wm l hl e he) h.small (by omega) (by show D.ay.length-1-D.ay.length/4<=_;omega)).mono ?_;rintro _ s7 ⟨rfl,k7,Jn⟩;have Xl:dV (eg D.ay.length).dirty Ls=dV [] Ls:=rfl;rw[Xl]at Jn;have n7:=k7.next;have zf:∀b∈F,b<st.next:=hd.lt
 have CU:=za.keep k7 fun b hb hh=>by
  have:=zf b hb;have:=acn bd (by simp);simp at hh;omega
 have Wo:=lr.keep k7 (by simp;omega);have X0:∀s,aj .neq (some .int) true (I 0) (.int .i64 0) s= .ok (.bool false) s:=fun s=>rfl;simp only[dm,aAU,af,aG,aAY,aAz,aAO,ag,X0];have YZ:=Jn.main
 have EP:∀{s:St} {l:List CV} {x:CV} {o:Nat} {K:St->Prop},s.mem.get p=some (.cells l 158 false)->x.cD=[x]->cr x=true->o<l.length->K (St.set s p (.cells (bp l o [x]) 158 false))->lz 1 o (.ptr p 0) x s K:=by
  intro s l x o K hg h1 h2 h3 hK;simp only[lz,br,ah,af,aF,hg,aR,h1,aAF];exact⟨⟨rfl,by simp[h2],h3⟩,hK⟩
 refine EP YZ rfl rfl (by decide:(1:Nat)<16) ?_;have qF:=Jn.nd;simp only[aAQ,aAD,aBo,aCg,aBY]at qF;have HE:=Jn.lt p (by simp)
 have hP8:cA (St.set s7 p (.cells (bp [.ptr a 0, .bq,I (1+D.ay.length/4:Nat),I (D.ay.length-1-D.ay.length/4:Nat), .map bd, .map bn,I fS.root,I fS.used,I fS.head,I fS.free,I fS.root,I fS.used,I fS.head,I fS.free, .map bi, .map bc] 1 [.ptr r 0]) 158 false)) p a (.ptr r 0) {eg D.ay.length with dirty:=dV [] Ls} bd bn bi bc:=
  ⟨ao _ _ _,Jn.dirty.mono (al _ _ _ _ (aBE qF.1.1)),Jn.now.mono (al _ _ _ _ (aBE qF.1.2.1)),Jn.idle.mono (al _ _ _ _ (aBE qF.1.2.2.1)),Jn.count.mono (al _ _ _ _ (aBE qF.1.2.2.2)),Jn.nd,Jn.lt,⟨rfl,rfl,rfl⟩⟩
 have k8:Kp [p] s7 (St.set s7 p (.cells (bp [.ptr a 0, .bq,I (1+D.ay.length/4:Nat),I (D.ay.length-1-D.ay.length/4:Nat), .map bd, .map bn,I fS.root,I fS.used,I fS.head,I fS.free,I fS.root,I fS.used,I fS.head,I fS.free, .map bi, .map bc] 1 [.ptr r 0]) 158 false)):=(Kp.refl _ s7).set _ (.inl (by simp)) HE;have n8:(St.set s7 p (.cells (bp [.ptr a 0, .bq,I (1+D.ay.length/4:Nat),I (D.ay.length-1-D.ay.length/4:Nat), .map bd, .map bn,I fS.root,I fS.used,I fS.head,I fS.free,I fS.root,I fS.used,I fS.head,I fS.free, .map bi, .map bc] 1 [.ptr r 0]) 158 false)).next=s7.next:=rfl;generalize hS8:St.set s7 p (.cells (bp [.ptr a 0, .bq,I (1+D.ay.length/4:Nat),I (D.ay.length-1-D.ay.length/4:Nat), .map bd, .map bn,I fS.root,I fS.used,I fS.head,I fS.free,I fS.root,I fS.used,I fS.head,I fS.free, .map bi, .map bc] 1 [.ptr r 0]) 158 false)=s8 at*;rw[show St.set s7 p (.cells (bp [.ptr a 0, .bq,I (eg D.ay.length).first,I (eg D.ay.length).aE, .map bd, .map bn,I (eg D.ay.length).kept.root,I (eg D.ay.length).kept.used,I (eg D.ay.length).kept.head,I (eg D.ay.length).kept.free,I (eg D.ay.length).m.root,I (eg D.ay.length).m.used,I (eg D.ay.length).m.head,I (eg D.ay.length).m.free, .map bi, .map bc] 1 [.ptr r 0]) 158 false)=s8 from hS8];have nN:∀b∈[p,bd,bn,bi,bc],s1.next<=b:=acn;have akh:=nN p (by simp);have aqp:=nN bd (by simp);have aqn:=nN bn (by simp);have aqo:=nN bi (by simp);have aqq:=nN bc (by simp);have Gs:=CU.keep k8 fun b hb hh=>by have:=zf b hb;simp at hh;omega
 have yU:=KC p (by simp);have Wn:=Wo.keep k8 (by simp;omega);refine(L9 Wn).same ?_;have Xd:cY s8:=k8.fresh (k7.fresh (k6.fresh acq));have PJ:((dV [] Ls).map (·.1)).Nodup:=il (by rw[<-kg];exact Jn.dirty.nd);have Ji:=BZ h.wm (d:=[]) (by simp)
 have Fb:(dV [] Ls).length<=65536:=by
  have:=kR 65536 ((dV [] Ls).map (·.1)) PJ fun x hx=>by
   obtain⟨e,he,rfl⟩:=aBd.1 hx;have:=(Ji e he).1;omega
  rwa [aBJ]at this
 have hFd:∀b∈F,b∉[p,bd,bn,bi,bc]:=fun b hb hh=>by
  have:=zf b hb;have:=nN b hh;omega
 refine(yk (M:={eg D.ay.length with dirty:=dV [] Ls}) hP8 Gs h.calm (by unfold aT.yL;rw[h.waits];simp) (by rw[h.waits];simp) Xd hFd (by show(dV [] Ls).length<=_;omega) (fun e he=>Ji e he) (by show 1+D.ay.length/4+(D.ay.length-1-D.ay.length/4)=_;omega) rfl (by omega) hb h.pK).mono ?_;rintro _ df ⟨rfl,so,r2,bd2,F2,D2,xr,RV,LJ,I3,Dv,I9,Be,KD,gL,ze,sX⟩;have Nz:jJ D2 Gk last last P [] kept:=h.settled (dirty:=dV [] Ls) (fun n=>rfl) LJ I3 Dv sX;rw[X0,af,ag,aAH (by decide)];have hz:=Nz.zero;have gE:=Nz.rep;rw[Dv]at hz gE;have TA:=gE.ok.jv;have avg:D.ay.length-1-D.ay.length/4=Gk.aE:=gE.aE;have M5:=so.next
 have XF:∀b∈F2,b≠p:=fun b hb e=>by
  rcases(ze b hb).1 with h1|h1
  ·have:=zf b h1;omega
  ·omega
 refine(FW (m':=kept) (frs:=Gk.fr) xr RV LJ.dead XF hz Nz.SY (by show 1+D.ay.length/4+(D.ay.length-1-D.ay.length/4)<=_;omega) (by show 0<D.ay.length-1-D.ay.length/4;omega) gE.head (fun n hn=>⟨(gE.ok.fr n hn).1,by show n<D.ay.length-1-D.ay.length/4;have:=(gE.ok.fr n hn).2;omega⟩) gE.ok.nd (gE.chain.congr fun n _=>rfl)).mono ?_;rintro _ de ⟨rfl,qy,PV,PW,PX,xq,ji⟩;have h11:=xq.lt;have I8:=I9.keep qy (by simp;omega);have ado:∀b∈F2,b<df.next:=RV.lt;have apF:=I9.1;have amk:=xr.lt bd2 (by simp);have Xn:=RV.keep qy fun b hb hh=>XF b hb (by simpa using hh);have Bf:=ji PV (by simp);have YY:=ji PW (by simp);have hn3:=ji PX (by simp);rw[X0,af,ag,aAH (by decide)];refine⟨⟨p,a, .ptr r2 0,bd2,PV,PW,PX,F2,D2,[],kept,1+D.ay.length/4⟩,rfl,rfl,⟨_,xq,gE,Xn,LJ.dead,fun b hb hh=> ?_,rfl,rfl,rfl⟩,⟨⟨last,last,P,[],r2,Nz,aAE _,rfl, ?_, ?_,fun n=>rfl⟩,by show 1+D.ay.length/4=1+D2.ay.length/4;rw[Dv],by simp,by simp⟩, ?_, ?_,by show st.next<=p;omega,LJ,Dv,r2,rfl,by omega⟩
 ·have h1:=ado b hb;have h2:=ze b hb;have h3:=XF b hb;simp at hh;rcases hh with hh|hh|hh|hh|hh
  ·exact h3 hh
  ·exact h2.2.2 hh
  ·omega
  ·omega
  ·omega
 ·have:=(Nz.opened).2;rw[Dv]at this;rw[this]at I8;show fE de r2 a ⟨1,D2.ay.length/4,last,last,last⟩;rw[Dv];exact I8
 ·unfold PI.all;simp only[aAD,aBY];exact⟨by omega,gL,by omega,by omega,by omega,fun hh=>(ze r2 hh).2.1 rfl⟩
 ·have q0:Kp F st s6:=((k1.trans k3 (by simp)).trans k6 (by simp)).mono (by simp);have q1:Kp F st s7:=q0.trans k7 (by intro q hq;right;simp at hq;omega);have q2:Kp F st s8:=q1.trans k8 (by intro q hq;right;simp at hq;omega);have q3:Kp F st df:=q2.trans so (by intro q hq;rcases aAD.1 hq with rfl|hq;right;omega;left;exact hq);exact q3.trans qy (by intro q hq;right;simp at hq;omega)
 ·intro b hb;unfold PI.all at hb;simp only[aAD]at hb;rcases hb with hb|hb|hb|hb|hb|hb
  ·right;omega
  ·right;omega
  ·right;omega
  ·right;omega
  ·right;omega
  ·rcases(ze b hb).1 with h1|h1
   ·left;exact h1
   ·right;omega
end
