import Derived.Test.YtomffjeofpafnaaGreatDoorPagD
namespace Lim
open Go
noncomputable section
set_option maxRecDepth 100000
section
variable {st st':St}
def nh (l:List Nat):List Nat:=l.mergeSort fun a b=>decide (a<=b)
theorem tZ (l:List Nat):(nh l).Perm l:=List.mergeSort_perm l _
theorem so {l:List Nat}{n:Nat}:n∈nh l↔n∈l:=(tZ l).mem_iff
theorem wN {l:List Nat}(h:l.Nodup):(nh l).Nodup:=(tZ l).nodup_iff.2 h
theorem vZ (l:List Nat):(nh l).length=l.length:=(tZ l).length_eq
theorem rA {es:List eE}{L:List (Nat×jk)}(h:cQ es (gp L)):iC es=(L.map (·.1)).map Int.ofNat/\(∀e∈es,∃n:Nat,n∈L.map (·.1)/\e.1=I n):=by
 induction es generalizing L with
 |nil=>cases L with
  |nil=>exact⟨rfl,by simp⟩
  |cons p r=>simp[cQ,gp]at h
 |cons e es ih=>cases L with
  |nil=>simp[cQ,gp]at h
  |cons p r=>
   have h':=h;simp only[cQ,gp,aBA,aCC,aCD]at h';obtain⟨⟨a,b⟩,c⟩:=h';obtain⟨i1,i2⟩:=ih (L:=r) c;refine⟨?_, ?_⟩
   ·show(match e.1 with| .int _ a=>a|_=>0)::iC es=_;rw[a,i1];rfl
   ·intro x hx;rcases aAX.1 hx with rfl|hx
    ·exact⟨p.1,by simp,a⟩
    ·obtain⟨n,hn,e⟩:=i2 x hx;exact⟨n,by simp at hn⊢;exact .inr hn,e⟩
theorem kv (L:List (Nat×jk)):(gp L).map (·.1)=(L.map (·.1)).map Int.ofNat:=by unfold gp;simp
theorem im {l:List Nat}(h:(l.map Int.ofNat).Nodup):l.Nodup:=by
 induction l with
 |nil=>simp
 |cons a l ih=>
  simp only[aBA,aBi]at h;exact aBi.2 ⟨fun hh=>h.1 (aCb hh),ih h.2⟩
theorem IsMap.Lo {b:Nat}{L:List (Nat×jk)}(h:IsMap st b (gp L))(hl:L.length<=1000000)(hk:∀n∈L.map (·.1),n<=1000000):∃es,cQ es (gp L)/\lH (st.mem.get b)=es/\mQ (st.mem.get b) es/\ic es:=by
 have iL:=h.nd
 have Lo:∀es,cQ es (gp L)->ic es:=fun es he=>by
  obtain⟨k1,k2⟩:=rA he;refine⟨fun e SR=> ?_,by rw[k1,<-kv];exact iL,by rw[he.len];unfold gp;simp;omega⟩;obtain⟨n,hn,e⟩:=k2 e SR;exact⟨n,e,by omega,by have:=hk n hn;omega⟩
 rcases h with⟨es,c,h1,h2,_,h4,h5⟩|⟨es,h1,h2,_⟩
 ·exact⟨es,h2,by rw[h1];rfl,by rw[h1];exact⟨rfl,h5,h4⟩,Lo es h2⟩
 ·exact⟨es,h2,by rw[h1];rfl,by rw[h1];exact rfl,Lo es h2⟩
theorem Jj {mb:Nat}:R 122 [.map mb] st fun v st'=>v= .func (.func 163) [] [.ptr st.next 0]/\st'.mem.get st.next=some (.cells [.map mb] 153 false)/\Kp [] st st'/\st'.next=st.next+1:=by
 refine bO ?_;rw[ahR];rw[cr];refine⟨rfl, ?_⟩;rw[lW,af];exact⟨rfl,aq _ _,(Kp.refl _ _).new _,rfl⟩
theorem A9 {mb bb:Nat}{t:TypeId}{g:Bool}{L:List (Nat×jk)}(hb:st.mem.get bb=some (.cells [.map mb] t g))(h:IsMap st mb (gp L))(hl:L.length<=1000000)(hk:∀n∈L.map (·.1),n<=1000000):
 R 121 [.func (.func 163) [] [.ptr bb 0]] st (Made 1 3 (bU (nh (L.map (·.1)))) st):=by
 obtain⟨es,e1,e2,e3,e4⟩:=h.Lo hl hk
 have hI:I0 121 [.func (.func 163) [] [.ptr bb 0]] st=some (uM 3 es st):=by
  show Eh 163 3 [.func (.func 163) [] [.ptr bb 0]] st=_;unfold Eh;simp only[hb];rw[e2,aBb ⟨rfl,e3,e4⟩]
 have hlen:es.length=L.length:=by rw[e1.len];unfold gp;simp
 unfold uM at hI
 by_cases h0:es=[]
 ·rw[aBb h0]at hI;refine Qj hI ?_;have:L=[]:=by rw[h0]at hlen;exact aBn.1 hlen.symm
  subst this;exact⟨[],Kp.refl _ _, .inl ⟨rfl,by simp[nh,bU],rfl⟩,by simp⟩
 ·rw[aAZ h0]at hI;refine Qj hI ?_
  have hs:(oo (iC es)).map I=bU (nh (L.map (·.1))):=by
   rw[(rA e1).1];unfold oo nh bU;rw[<-List.map_mergeSort (r:=fun a b=>decide (a<=b)) (f:=Int.ofNat) (s:=fun a b=>decide (a<=b)) (fun a _ b _=>by simp)];rw[aDo];rfl
  rw[hs];refine⟨[st.next],(Kp.refl [] st).new _, .inr (.inr ⟨st.next,es.length,rfl,aDd.2 h0, ?_,rfl,aq _ _⟩),by simp⟩;rw[py,vZ,aCa,hlen];omega
def lb (d s:List (Nat×jk)):List (Nat×jk):=d.filter (fun e=>decide (e.1∉s.map (·.1)))++s
theorem EF (a b:List (Nat×jk))(n:Nat):dh (a++b) n=(dh a n).or (dh b n):=by
 induction a with
 |nil=>rfl
 |cons p r ih=>simp only[aBR,dh];split;rfl;exact ih
theorem lD {l:List (Nat×jk)}{n:Nat}:dh l n=none↔n∉l.map (·.1):=by
 induction l with
 |nil=>simp[dh]
 |cons p r ih=>simp only[dh,aBA,aAX,aCr];split;simp_all;rw[ih];simp_all
theorem KC (d s:List (Nat×jk))(n:Nat):dh (lb d s) n=(dh s n).or (dh d n):=by
 unfold lb;rw[EF]
 have key:dh (d.filter (fun e=>decide (e.1∉s.map (·.1)))) n=if n∈s.map (·.1)then none else dh d n:=by
  induction d with
  |nil=>simp[dh]
  |cons p r ih=>
   rw[aCe]
   by_cases h:p.1∈s.map (·.1)
   ·rw[aAZ (by simpa using h),ih];simp only[dh]
    by_cases hn:n=p.1
    ·subst hn;rw[aBb h,aBb h]
    ·rw[aAZ hn]
   ·rw[aBb (by simpa using h)];simp only[dh,ih]
    by_cases hn:n=p.1
    ·subst hn;rw[aBb rfl,aAZ h,aBb rfl]
    ·rw[aAZ hn,aAZ hn]
 rw[key]
 by_cases h:n∈s.map (·.1)
 ·rw[aBb h];cases hs:dh s n with
  |none=>exact absurd h (lD.1 hs)
  |some x=>rfl
 ·rw[aAZ h,lD.2 h];cases dh d n<;>rfl
end
def aV.lay (D:aV)(first:Nat)(l:List eB):aV:=l.foldl (fun D e=>(D.write (Int.ofNat (first+e.1)) e.2).2) D
theorem aV.E0 (D:aV)(first:Nat)(l:List eB)(e:eB):D.lay first (l++[e])=((D.lay first l).write (Int.ofNat (first+e.1)) e.2).2:=by unfold aV.lay;rw[aDB];rfl
structure Qo (D:aV)(first:Nat)(l:List eB):Prop where
 calm:Calm (D.lay first l)
 zi:(D.lay first l).zi
 ay:(D.lay first l).ay=D.ay
 waits:(D.lay first l).waits.length=D.waits.length+l.length
 low:∀j,j<first->(D.lay first l).cur j=D.cur j
 other:∀n,n∉l.map (·.1)->(D.lay first l).cur (first+n)=D.cur (first+n)
 at_:(l.map (·.1)).Nodup->∀e∈l,(D.lay first l).cur (first+e.1)=e.2
theorem aaX {D:aV}{first:Nat}(h:Calm D)(hw:D.zi):∀l:List eB,(∀e∈l,first+e.1<D.ay.length/\e.2.length=512)->Qo D first l:=by
 intro l
 suffices key:∀r:List eB,(∀e∈r.reverse,first+e.1<D.ay.length/\e.2.length=512)->Qo D first r.reverse by
  intro hl;have:=key l.reverse (by rwa [aCL])
  rwa [aCL]at this
 intro r
 induction r with
 |nil=>intro _;exact⟨h,hw,rfl,rfl,fun _ _=>rfl,fun _ _=>rfl,fun _ e he=>by cases he⟩
 |cons e r ih=>
  intro hl;rw[List.reverse_cons]at hl⊢;have hi:=ih fun x hx=>hl x (by simp at hx⊢;exact .inl hx);have he:=hl e (by simp);obtain⟨a1,a2,a3,a4,a5,a6⟩:=hi.calm.write (i:=first+e.1) (s:=e.2) (by rw[hi.ay];exact he.1) he.2 hi.zi;have e1:D.lay first (r.reverse++[e])=((D.lay first r.reverse).write ((first+e.1:Nat):Int) e.2).2:=D.E0 first r.reverse e
  refine⟨by rw[e1];exact a2,by rw[e1];exact a4,by rw[e1,a3];exact hi.ay,by rw[e1,a5,hi.waits];simp;omega,fun j hj=> ?_,fun n hn=> ?_,fun iL x hx=> ?_⟩
  ·rw[e1,a6,aAZ (by omega)];exact hi.low j hj
  ·rw[e1,a6,aAZ (fun hh=>hn (by simp;exact .inr (by omega)))];exact hi.other n fun hh=>hn (by simp at hh⊢;exact .inl hh)
  ·rw[e1,a6];rw[aCj,aBP]at iL;rcases aBe.1 hx with hx|hx
   ·have gT:x.1≠e.1:=iL.2.2 x.1 (aCb hx) e.1 (by simp);rw[aAZ (by omega)];exact hi.at_ iL.1 x hx
   ·have:x=e:=by simpa using hx
    subst this;rw[aBb rfl]
def dF (d:List eB)(ks:List Nat):List eB:=ks.map fun n=>(n,(dh d n).getD [])
theorem ma (d:List eB)(ks:List Nat):(dF d ks).map (·.1)=ks:=by unfold dF;rw[aDo];exact List.map_id ks
theorem EE {d:List eB}{n:Nat}{s:jk}(h:dh d n=some s):(n,s)∈d:=by
 induction d with
 |nil=>cases h
 |cons p r ih=>
  simp only[dh]at h
  split at h
  ·rename_i hn;cases h;subst hn;exact aBW
  ·exact aCd _ (ih h)
section
variable {st st':St} {p a:Nat} {lg:CV} {M:bR} {bd bn bi bc:Nat} {F:List Nat} {D:aV}
def Qm (p a:Nat)(M:bR)(bn bi bc:Nat)(F:List Nat)(D:aV)(base count:Nat)(P:Nat->Piece)(st:St)(v:CV)(st':St):Prop:=
 v=I 0/\Kp (p::F) st st'/\∃r mi F' D',cG st' p a (.ptr r 0) {M with dirty:=[]} mi bn bi bc/\dt st' a F' D'/\Calm D'/\D'.waits=[]/\D'.ay.length=D.ay.length/\fF st' r a (RingM.opened 1 count base P)/\st.next<=r/\st.next<=mi/\r≠mi/\(∀b∈F',(b∈F\/st.next<=b)/\b≠r/\b≠mi)/\
  (∀j,D'.cur j=if j=0 then dv base else if j<M.first then D.cur j else (dh M.dirty (j-M.first)).getD (D.cur j))
theorem yJ (h:cG st p a lg M bd bn bi bc)(hd:dt st a F D)(hc:Calm D)(hw:D.zi)(WE:D.waits.length<=1000000)(jy:cT st)(hF:∀b∈F,b∉[p,bd,bn,bi,bc])(GP:M.dirty.length<=1000000)(Il:∀e∈M.dirty,e.1<M.aE/\e.2.length=512)(Lc:M.first+M.aE=D.ay.length)(Ds:M.first=1+D.ay.length/4)(h4:4<=D.ay.length)
 {base:Nat} (hb:base<=1000000000) {P:Nat->Piece} (hP:∀j,j<D.ay.length/4->D.cur (1+j)=(P j).bX/\(P j).ok):
 R 73 [.ptr p 0,I base] st (Qm p a M bn bi bc F D base (D.ay.length/4) P st):=by
 refine bO ?_;rw[w73];have hsz:=(show D.ay.length<=65536 from by obtain⟨_,_,_,_,_,_,_,h⟩:=hd;exact h.size);rw[db];simp only[fH,bA,ah,af,az,h.main,ar,aAT,Nat.reduceAdd,aAS,aAQ,au];refine Jj.mono ?_;rintro _ eh ⟨rfl,nH,pI,n13⟩;have adJ:=h.keep pI (by simp);refine(A9 nH adJ.dirty GP (fun n hn=> ?_)).mono ?_
 ·obtain⟨e,he,rfl⟩:=aBv.1 hn;have:=(Il e he).1;omega
 intro x fe Fj;have zd:=Fj.kp;have K14:Kp [] st fe:=pI.trans zd (by simp);have Ta:=adJ.keep zd (by simp);have XQ:=hd.keep K14 (by simp);have n14:=K14.next;have Tb:∀b∈F,b<st.next:=hd.lt
 have OB:Sl fe (p::F) x 1 (bU (nh (M.dirty.map (·.1)))):=Fj.sl _ fun b hb=>by
  rcases aAX.1 hb with rfl|hb
  ·have:=h.lt b (by simp);omega
  ·have:=Tb b hb;omega
 have avJ:(nh (M.dirty.map (·.1))).length=M.dirty.length:=by rw[vZ,aCa]
 have QR:(M.dirty.map (·.1)).Nodup:=im (by rw[<-kv];exact h.dirty.nd);have SL:=wN QR
 have UK:∀n∈nh (M.dirty.map (·.1)),∃s,dh M.dirty n=some s/\n<M.aE/\s.length=512:=fun n hn=>by
  rw[so]at hn;cases hg:dh M.dirty n with
  |none=>exact absurd hn (lD.1 hg)
  |some s=>have:=Il _ (EE hg);exact⟨s,rfl,this.1,this.2⟩
 generalize lO:nh (M.dirty.map (·.1))=ks at*;have hlen:=OB.len ks.length (by simp) (by omega) fe;rw[hlen,af];simp only[aK,aL]
 have SJ:∀i,i<=ks.length->Qo D M.first (dF M.dirty (ks.take i)):=fun i hi=>aaX hc hw _ fun e he=>by
  unfold dF at he;obtain⟨n,hn,rfl⟩:=aBv.1 he;obtain⟨s,h1,h2,h3⟩:=UK n (aBD hn);simp only[h1,aCl];exact⟨by omega,h3⟩
 refine bM (fun fu vs s=>∃i F1,fu+i=ks.length/\vs=[.ptr p 0,I base,x,I ks.length,I i]/\Kp F fe s/\dt s a F1 (D.lay M.first (dF M.dirty (ks.take i)))/\(∀b∈F1,b∈F\/fe.next<=b)) ?_ (n:=ks.length) ⟨0,F,rfl,rfl,Kp.refl _ _,XQ,fun b hb=> .inl hb⟩;rintro fu vs s k ⟨i,F1,hi,rfl,hk,UW,xG⟩ next;simp only[aK,aL];rw[dM,af,ag];have xj:=Ta.keep hk fun b hb hh=>hF b hh hb;have BE:=xj.main;have rD:=hk.next;have SP:cT s:=hk.fresh (K14.fresh jy)
 have AO:∀b∈[p,bd,bn,bi,bc],b∉F1:=fun b hb hh=>by
  rcases xG b hh with h1|h1
  ·exact hF b h1 hb
  ·have:=h.lt b hb;omega
 by_cases zw:i<ks.length
 ·rw[aBc zw,aBb rfl];refine((OB.ef (Y:=F) (by intro q hq;left;simp[hq])).mono hk).idx (i:=i) (by simpa using zw) _ ?_;have e9:(bU ks)[i]'(by simpa using zw)=I ks[i]:=by simp[bU]
  rw[e9];obtain⟨sec,hg,hnp,kN⟩:=UK ks[i] (aBq zw);have zp:=IsMap.lookup xj.dirty (.agg (zr 512)) false ks[i] s rfl;rw[aAZ (by decide),uO,hg]at zp;simp only[aCf,aCl]at zp;simp only[bA,ah,af,az,aAT,BE,ar,aAS,aAQ,au,zp];have Am:(ai sec).length=512:=by simpa using kN
  refine kR Am (bE _) ?_;have k4:=(Kp.refl [] s).page (ai sec);have g4:(St.set (St.new s (.cells (zr 512) 173 false)) s.next (.cells (ai sec) 173 false)).mem.get s.next=some (.cells (ai sec) 173 false):=ao _ _ _;have n4:(St.set (St.new s (.cells (zr 512) 173 false)) s.next (.cells (ai sec) 173 false)).next=s.next+1:=rfl;generalize St.set (St.new s (.cells (zr 512) 173 false)) s.next (.cells (ai sec) 173 false)=s4 at*;have QX:=xj.keep k4 (by simp);have hd4:=UW.keep k4 (by simp);have hm4:=QX.main;have Ai:bP 512 1 (.ptr s.next 0) none none s4= .ok (.slice s.next 0 512 512 0) s4:=rfl;have e1:aj .add none false (I M.first) (I ks[i]) s4= .ok (I ((M.first+ks[i]:Nat):Int)) s4:=by rw[av,cN,bD (by omega)];congr 2
  have adU:=UW.lt;have WS:Sl s4 F1 (.slice s.next 0 512 512 0) 1 (ai sec):= .inr ⟨s.next,0,512,512,0,rfl,by simp[kN],⟨aAU _, .inl rfl⟩, .inr ⟨fun hh=>by have:=adU _ hh;omega,by omega,_,_,_,g4,by omega,by rw[aBx,aBa (by omega)]⟩⟩;have hL:=SJ i (by omega);simp only[bG,hm4,ar,aAS,aAQ,au,e1,af,Ai];have awl:(dF M.dirty (ks.take i)).length<=1000000:=by unfold dF;simp;omega
  refine(uD hd4 (i:=((M.first+ks[i]:Nat):Int)) (k4.fresh SP) (by rw[hL.waits];omega) WS kN).mono ?_;rintro _ s5 ⟨rfl,k5,F2,hd5,zx⟩;obtain⟨w1,w2,w3,w4,w5,w6⟩:=hL.calm.write (i:=M.first+ks[i]) (s:=sec) (by rw[hL.ay];omega) kN hL.zi;rw[w1];have e2:aj .neq (some .int) true (I 0) (.int .i64 0) s5= .ok (.bool false) s5:=rfl;refine⟨⟨trivial,trivial,trivial⟩,trivial, ?_⟩;simp only[e2,af,ag,aAR,aBf,ik i (by omega)]
  have etk:dF M.dirty (ks.take (i+1))=dF M.dirty (ks.take i)++[(ks[i],sec)]:=by
   rw[aBl zw];unfold dF;rw[aCj];simp[hg]
  refine next (fu-1) _ _ (by omega) ⟨i+1,F2,by omega,rfl, ?_, ?_,fun b hb=> ?_⟩
  ·exact(hk.trans k4 (by simp)).trans k5 fun q hq=>xG q hq
  ·rw[etk,aV.E0];exact hd5
  ·rcases zx b hb with h1|h1
   ·exact xG b h1
   ·right;omega
 ·rw[aAW zw,aAZ (by decide)];have AK:ks.take i=ks:=aBa (by omega);rw[AK]at UW;have hL:=SJ ks.length (aAU _);rw[List.take_length]at hL;have hel:(dF M.dirty ks).length=ks.length:=by unfold dF;simp
  generalize ZL:D.lay M.first (dF M.dirty ks)=D1 at*;simp only[bA,ah,af,az,aAT,BE,ar,aAS,aAQ,au];refine(vF UW (by rw[<-ZL,hL.waits];omega)).mono ?_;rintro _ s6 ⟨rfl,k6,F2,zt,zx⟩;obtain⟨f1,f2,f3,f4,f5⟩:=hL.calm.flush hL.zi;rw[ZL]at f1 f2 f3 f4 f5;have Xw:=hL.ay;rw[ZL]at Xw;have e2:∀s,aj .neq (some .int) true (I 0) (.int .i64 0) s= .ok (.bool false) s:=fun s=>rfl;have X7:=xj.keep k6 AO;have hm6:=X7.main;have SQ:cT s6:=k6.fresh SP;have n6:=k6.next
  have X9:∀b∈F2,b∈F\/fe.next<=b:=fun b hb=>by
   rcases zx b hb with h1|h1
   ·exact xG b h1
   ·right;omega
  have abX:∀b∈[p,bd,bn,bi,bc],b∉F2:=fun b hb hh=>by
   rcases X9 b hh with h1|h1
   ·exact hF b h1 hb
   ·have:=h.lt b hb;omega
  generalize hD2:D1.flush.2=D2 at*;rw[f1];simp only[e2,af,ag,aAR,aBf,hm6,ar,aAS,aAQ,au];refine(JF SQ zt (by rw[f4];simp) (base:=base) (by omega)).mono ?_;rintro _ s7 ⟨rfl,k7,F3,Dv,Dw⟩;obtain⟨g1,g2,g3,g4,g5⟩:=f2.head (by unfold aV.zi;rw[f4];simp) (by rw[f3,Xw];omega) base;have JI:=X7.keep k7 abX;have Zw:=JI.main;have alV:cT s7:=k7.fresh SQ;have n7:=k7.next
  have Pq:∀b∈F3,b∈F\/fe.next<=b:=fun b hb=>by
   rcases Dw b hb with h1|h1
   ·exact X9 b h1
   ·right;omega
  generalize hD3:(D2.head base).2=D3 at*;rw[g1];have K1:D3.ay.length=D.ay.length:=by rw[g3,f3,Xw]
  simp only[e2,af,ag,aAR,aBf,bG,Zw,ar,aAS,aAQ,au];refine(oY Dv).same ?_;rw[K1]
  have th:∀j,D3.cur j=if j=0 then dv base else if j<M.first then D.cur j else (dh M.dirty (j-M.first)).getD (D.cur j):=by
   intro j;rw[g5]
   by_cases hj:j=0
   ·rw[aBb hj,aBb hj]
   ·rw[aAZ hj,aAZ hj,f5]
    by_cases hj2:j<M.first
    ·rw[aBb hj2];have:=hL.low j hj2
     rwa [ZL]at this
    ·rw[aAZ hj2];obtain⟨n,rfl⟩:∃n,j=M.first+n:=⟨j-M.first,by omega⟩;rw[aCX];cases hg:dh M.dirty n with
     |none=>
      have:=hL.other n (by rw[ma,<-lO,so];exact lD.1 hg)
      rwa [ZL]at this
     |some s'=>
      have jx:(n,s')∈dF M.dirty ks:=by
       unfold dF;refine aBv.2 ⟨n, ?_,by rw[hg];rfl⟩;rw[<-lO,so];exact aBv.2 ⟨_,EE hg,rfl⟩
      have:=hL.at_ (by rw[ma];exact SL) _ jx;rw[ZL]at this;exact this
  have hRd:rZ D3 ⟨1,D.ay.length/4,base,base,base⟩ P:=⟨by show 0<D.ay.length/4;omega,by show 1+D.ay.length/4<=_;omega,by omega,by show base<=_;omega,fun j hj=>by
   have hj:j<D.ay.length/4:=hj;show D3.cur (1+j)=_/\_;rw[th,aAZ (by omega),aBb (by omega)];exact hP j hj⟩
  refine(yD alV Dv g2.dead hRd hb).mono ?_;rintro _ s9 ⟨r,xo,Fo,Gg,rfl,k9,nG,Ju,ZK,hr⟩;have n9:=k9.next;have hP9:=JI.keep k9 (by simp);have hd9:=Dv.keep k9 (by simp);have hm9:=hP9.main;rw[aD,af,aJ,aD,af,aJ,aJ,aD,af];refine⟨⟨⟨by rw[Zw];exact rfl,trivial⟩,trivial,trivial⟩,trivial, ?_⟩;rw[e2,af,ag,aAZ (by decide),ja,aT];have kA:Kp [] s9 (St.new s9 (.map [] 0)):=(Kp.refl [] s9).new _;have mA:c8 (St.new s9 (.map [] 0)) s9.next []:=c8.new s9;have nA:(St.new s9 (.map [] 0)).next=s9.next+1:=rfl;generalize St.new s9 (.map [] 0)=sA at*;have hPA:=hP9.keep kA (by simp);have hdA:=hd9.keep kA (by simp);have hmA:=hPA.main
  have Fa:∀{s:St} {l:List CV} {x:CV} {o:Nat} {K:St->Prop},s.mem.get p=some (.cells l 158 false)->x.cK=[x]->cq x=true->o<l.length->K (St.set s p (.cells (bt l o [x]) 158 false))->nV 1 o (.ptr p 0) x s K:=by
   intro s l x o K hg h1 h2 h3 hK;simp only[nV,bA,ah,af,aH,hg,aS,h1,aAT];exact⟨⟨rfl,by simp[h2],h3⟩,hK⟩
  refine Fa hmA rfl rfl (by decide:(1:Nat)<16) ?_;refine Fa (ao _ _ _) rfl rfl (by exact(by decide:(4:Nat)<16)) ?_;rw[set_set];have kg:bt (bt [.ptr a 0,lg,I M.first,I M.aE, .map bd, .map bn,I M.kept.root,I M.kept.used,I M.kept.head,I M.kept.free,I M.m.root,I M.m.used,I M.m.head,I M.m.free, .map bi, .map bc] 1 [.ptr r 0]) 4 [.map s9.next]=[.ptr a 0, .ptr r 0,I M.first,I M.aE, .map s9.next, .map bn,I M.kept.root,I M.kept.used,I M.kept.head,I M.kept.free,I M.m.root,I M.m.used,I M.m.head,I M.m.free, .map bi, .map bc]:=rfl;rw[kg];have akA:=hPA.lt p (by simp);have qR:=h.nd;simp only[aBi,aAX,aBF,aCA,aCr]at qR;have kB:Kp [p] sA (St.set sA p (.cells [.ptr a 0, .ptr r 0,I M.first,I M.aE, .map s9.next, .map bn,I M.kept.root,I M.kept.used,I M.kept.head,I M.kept.free,I M.m.root,I M.m.used,I M.m.head,I M.m.free, .map bi, .map bc] 158 false)):=(Kp.refl _ sA).set _ (.inl (by simp)) akA;have U9:∀b∈F3,b<s7.next:=Dv.lt
  have akG:∀b∈F3,b∉[p]:=fun b hb hh=>by
   have hh:b=p:=by simpa using hh
   subst hh;rcases Pq b hb with h1|h1
   ·exact hF b h1 (by simp)
   ·have:=h.lt b (by simp);omega
  have Jv:∀b∈[p,bd,bn,bi,bc],b<st.next:=h.lt;have Zs:=Jv p (by simp);have HY:=Jv bn (by simp);have Zr:=Jv bi (by simp);have hp4:=Jv bc (by simp);have Su:r<s9.next:=nG.1;refine⟨rfl, ?_,r,s9.next,F3,D3,⟨ao _ _ _, .inl (mA.mono (ak _ _ _ _ (by omega))),hPA.now.mono (ak _ _ _ _ (aBU qR.1.2.1)),hPA.idle.mono (ak _ _ _ _ (aBU qR.1.2.2.1)),hPA.count.mono (ak _ _ _ _ (aBU qR.1.2.2.2)), ?_, ?_,⟨rfl,rfl,rfl⟩⟩,hdA.keep kB akG,g2,g4,K1, ?_,by omega,by omega,by omega,fun b hb=>⟨(Pq b hb).imp id fun h=>by omega, ?_, ?_⟩,th⟩
  ·have q1:Kp (p::F) st s:=(K14.mono (by simp)).trans hk fun q hq=> .inl (by simp[hq]);have q2:Kp (p::F) st s6:=q1.trans k6 fun q hq=>(xG q hq).imp (fun h=>by simp[h]) fun h=>by omega
   have q3:Kp (p::F) st s7:=q2.trans k7 fun q hq=>(X9 q hq).imp (fun h=>by simp[h]) fun h=>by omega
   exact((q3.trans k9 (by simp)).trans kA (by simp)).trans kB fun q hq=> .inl (by simp at hq;simp[hq])
  ·simp only[aBi,aAX,aBF,aCA,aCr];exact⟨⟨by omega,qR.1.2.1,qR.1.2.2.1,qR.1.2.2.2⟩,⟨by omega,by omega,by omega⟩,qR.2.2⟩
  ·intro b hb;simp at hb;show b<sA.next;omega
  ·exact(nG.keep kA (by simp)).keep kB (by simp;omega)
  ·have:=U9 b hb;omega
  ·have:=U9 b hb;omega
end
def tB (first aE:Nat)(dirty:List eB)(kept:jA)(fr:List Nat):bR:=⟨first,aE,dirty,[],kept,kept,fr,[]⟩
theorem mU {first aE:Nat}{dirty:List eB}{kept:jA}{fr:List Nat}(D:aV)(n:Nat):(tB first aE dirty kept fr).get D n=(dh dirty n).getD (D.cur (first+n)):=by
 unfold tB bR.get;simp only[dh];cases dh dirty n<;>rfl
theorem tm.congr {M M':bR}{D D':aV}{G:GM}(h:tm M D G)(hg:∀n,n<M.aE->M'.get D' n=M.get D n)(h1:M'.aE=M.aE)(h2:M'.m=M.m)(h3:M'.idle=M.idle)(h4:M'.now=M.now)(h5:M'.count=M.count)(h6:M'.first=M.first)(h7:D'.ay.length=D.ay.length):tm M' D' G:=by
 have hm:=h.ok.jF;refine⟨h1.trans h.aE,by rw[h2];exact h.used,by rw[h2];exact h.root,by rw[h2];exact h.head,by rw[h2];exact h.free,by rw[h3];exact h.idle,by rw[h3];exact h.xe,h.ok,by rw[h6,h1,h7];exact h.fits,fun n hn=> ?_,fun n hn=> ?_, ?_,by rw[h4,h5];exact h.count,by rw[h5];exact h.qt,by rw[h5];exact h.rp⟩
 ·rw[hg n (by rw[h.aE];omega)];exact h.len n hn
 ·rw[hg n (by rw[h.aE];have:=hn.2.1;omega)];exact h.cont n hn
 ·have key:∀l:List Nat,(∀n∈l,n<M.aE)->Mj M D l->Mj M' D' l:=by
   intro l
   induction l with
   |nil=>intro _ _;trivial
   |cons n r ih=>intro h1 h2;exact⟨(hg n (h1 n (by simp))).trans h2.1,ih (fun m hm=>h1 m (by simp[hm])) h2.2⟩
  exact key _ (fun n hn=>by rw[h.aE];have:=(h.ok.fr n hn).2;omega) h.chain
structure jJ (D:aV)(Gk:GM)(base last:Nat)(P:Nat->Piece)(Ls:List (List eB))(kept:jA):Prop where
 calm:Calm D
 waits:D.waits=[]
 least:64<=D.ay.length
 jF:D.ay.length<=65536
 head:D.cur 0=dv base
 pT:∀j,j<D.ay.length/4->D.cur (1+j)=(P j).bX/\(P j).ok
 laid:jW P (D.ay.length/4) base (Ls.map fJ) last
 le:∀j,j<D.ay.length/4->(P j).n<=last
 room:last<=base+D.ay.length/4
 wC:∀l∈Ls,∀e∈l,e.1<D.ay.length-1-D.ay.length/4/\e.2.length=512
 small:∀l∈Ls,(fJ l).length<=1000000
 rep:tm (tB (1+D.ay.length/4) (D.ay.length-1-D.ay.length/4) (dX [] Ls) kept Gk.fr) D Gk
 zero:(tB (1+D.ay.length/4) (D.ay.length-1-D.ay.length/4) (dX [] Ls) kept Gk.fr).get D 0=bK kept
 root:kept.root<2147483648
theorem jW.count {P:Nat->Piece}{count:Nat}:∀{rs:List (List UInt8)} {s e:Nat},jW P count s rs e->s+rs.length<=e:=by
 intro rs
 induction rs with
 |nil=>intro s e h;have h:e=s:=h;simp[h]
 |cons r rs ih=>intro s e h;have:=ih h.2;have:=ov r.length;simp;omega
theorem NW {m:jA}(h1:m.root<4294967296)(h2:m.used<4294967296)(h3:m.head<4294967296)(h4:m.free<4294967296):RX (bK m)=m:=by
 have e:bK m=be 4 m.root++(be 4 m.used++(be 4 m.head++(be 4 m.free++List.replicate 496 0))):=by
  unfold bK ry ld;generalize List.replicate 496 (0:UInt8)=z;simp only[aBA,List.map_nil,aCo,List.flatten_nil,aBQ,aBE]
 have t:∀(n:Nat) (r:List UInt8),(be 4 n++r).take 4=be 4 n:=fun n r=>aCm (gV 4 n);have d:∀(n:Nat) (r:List UInt8),(be 4 n++r).drop 4=r:=fun n r=>aDn (gV 4 n);unfold RX;rw[show 8=4+4 from rfl,show 12=4+(4+4)from rfl];simp only[<-aDk];rw[e,t,d,t,d,t,d,t,ux 4 _ (by omega),ux 4 _ (by omega),ux 4 _ (by omega),ux 4 _ (by omega)]
theorem jJ.aaS {D:aV}{Gk:GM}{base last:Nat}{P:Nat->Piece}{Ls:List (List eB)}{kept:jA}(h:jJ D Gk base last P Ls kept):RX (bK kept)=kept:=by
 have h1:=h.rep.ok.jF;have h2:=h.rep.ok.size;have h3:=h.rep.used;have h4:=h.rep.head;have h5:=h.rep.free;have jy:Gk.fr.length<=Gk.used:=kQ Gk.used Gk.fr h.rep.ok.nd fun x hx=>(h.rep.ok.fr x hx).2
 have h6:Gk.fr.headD 0<=Gk.used:=by
  cases hf:Gk.fr with
  |nil=>simp
  |cons n r=>have:=(h.rep.ok.fr n (by rw[hf];simp)).2;simp;omega
 have h3:kept.used=Gk.used:=h3;have h4:kept.head=Gk.fr.headD 0:=h4;have h5:kept.free=Gk.fr.length:=h5;exact NW (by have:=h.root;omega) (by omega) (by omega) (by omega)
theorem jJ.settled {D D':aV}{Gk:GM}{base last:Nat}{P:Nat->Piece}{Ls:List (List eB)}{kept:jA}{dirty:List eB}(h:jJ D Gk base last P Ls kept)(hd:∀n,dh dirty n=dh (dX [] Ls) n)(hc:Calm D')(hw:D'.waits=[])(hl:D'.ay.length=D.ay.length)
 (th:∀j,D'.cur j=if j=0 then dv last else if j<1+D.ay.length/4 then D.cur j else (dh dirty (j-(1+D.ay.length/4))).getD (D.cur j)):jJ D' Gk last last P [] kept:=by
 have hg:∀n,(tB (1+D.ay.length/4) (D.ay.length-1-D.ay.length/4) [] kept Gk.fr).get D' n=(tB (1+D.ay.length/4) (D.ay.length-1-D.ay.length/4) (dX [] Ls) kept Gk.fr).get D n:=fun n=>by
  rw[mU,mU,th,aAZ (by omega),aAZ (by omega),aCX,hd];rfl
 refine⟨hc,hw,by rw[hl];exact h.least,by rw[hl];exact h.jF,by rw[th,aBb rfl],fun j hj=> ?_,rfl,by rw[hl];exact h.le,by omega,by simp,by simp, ?_, ?_,h.root⟩
 ·rw[hl]at hj;rw[th,aAZ (by omega),aBb (by omega)];exact h.pT j hj
 ·rw[hl];exact h.rep.congr (fun n _=>hg n) rfl rfl rfl rfl rfl rfl hl
 ·rw[hl];exact(hg 0).trans h.zero
theorem jJ.opened {D:aV}{Gk:GM}{base last:Nat}{P:Nat->Piece}{Ls:List (List eB)}{kept:jA}(h:jJ D Gk base last P Ls kept):mB P (D.ay.length/4) (D.ay.length/4) base [] [] base=(Ls.map fJ,last)/\RingM.opened 1 (D.ay.length/4) base P=⟨1,D.ay.length/4,base,last,last⟩:=by
 have h0:0<D.ay.length/4:=by have:=h.least;omega
 have hn:(P ((last+1)%(D.ay.length/4))).n≠last+1:=by
  have:=h.le ((last+1)%(D.ay.length/4)) (Nat.mod_lt _ h0);omega
 have e:=NB h.laid hn (D.ay.length/4) [] h.room;rw[aBw]at e;refine⟨e, ?_⟩;unfold RingM.opened;rw[e,Rz h.laid h0 h.le]
structure iD (π:PI)(st:St)(Gk:GM)(T:Nat):Prop where
 ex:∃base last P Ls r,jJ π.D Gk base last P Ls π.kept/\last<=T/\π.lg= .ptr r 0/\fF st r π.a ⟨1,π.D.ay.length/4,base,last,last⟩/\r∉π.all/\∀n,dh π.dirty n=dh (dX [] Ls) n
 first:π.first=1+π.D.ay.length/4
 wC:∀e∈π.dirty,e.1<π.D.ay.length-1-π.D.ay.length/4/\e.2.length=512
 nd:(π.dirty.map (·.1)).Nodup
section
variable {π:PI} {st st':St} {Gk:GM} {T:Nat}
theorem iD.keep {X:List Nat}(h:iD π st Gk T)(hk:Kp X st st')(hx:∀r,π.lg= .ptr r 0->r∉X):iD π st' Gk T:=by
 obtain⟨base,last,P,Ls,r,a,b,c,d,e,f⟩:=h.ex;exact⟨⟨base,last,P,Ls,r,a,b,c,d.keep hk (hx r c),e,f⟩,h.first,h.wC,h.nd⟩
end
theorem Qd (l:List UInt8)(i:Nat):mY (l.take i)<=mY l:=by
 have key:∀(b:List UInt8) (acc:Nat),acc<=b.foldl (fun a b=>a*256+b.toNat) acc:=by
  intro b
  induction b with
  |nil=>intro acc;exact aAU _
  |cons x b ih=>intro acc;rw[List.foldl_cons];exact aCq (by omega) (ih _)
 have e:mY l=(l.drop i).foldl (fun a b=>a*256+b.toNat) (mY (l.take i)):=by
  unfold mY;rw[<-aDB,aBK]
 rw[e];exact key _ _
theorem EB {d:List eB}{n:Nat}{s:jk}{e:eB}(h:e∈gH d n s):e∈d\/e=(n,s):=by
 induction d with
 |nil=>right;simpa[gH]using h
 |cons p r ih=>
  simp only[gH]at h
  split at h
  ·rcases aAX.1 h with h|h
   ·exact .inr h
   ·exact .inl (aCd _ h)
  ·rcases aAX.1 h with h|h
   ·exact .inl (by rw[h];exact aBW)
   ·exact(ih h).imp (aCd _) id
theorem KB {Q:eB->Prop}:∀{l d:List eB},(∀e∈l,Q e)->(∀e∈d,Q e)->∀e∈nW d l,Q e:=by
 intro l
 induction l with
 |nil=>intro d _ h;exact h
 |cons x l ih=>
  intro d h1 h2;show∀e∈nW (gH d x.1 x.2) l,Q e;refine ih (fun e he=>h1 e (by simp[he])) fun e he=> ?_;rcases EB he with h|h
  ·exact h2 e h
  ·rw[h];exact h1 x (by simp)
theorem Cx {Q:eB->Prop}:∀{Ls:List (List eB)} {d:List eB},(∀l∈Ls,∀e∈l,Q e)->(∀e∈d,Q e)->∀e∈dX d Ls,Q e:=by
 intro Ls
 induction Ls with
 |nil=>intro d _ h;exact h
 |cons l Ls ih=>intro d h1 h2;exact ih (fun l' GK=>h1 l' (by simp[GK])) (KB (h1 l (by simp)) h2)
def J7 (a:Nat)(F:List Nat)(D:aV)(Gk:GM)(T:Nat)(st:St)(v:CV)(st':St):Prop:=
 ∃π:PI,v= .tuple [.ptr π.p 0,I 0]/\π.a=a/\Pg π st' Gk/\iD π st' Gk T/\Kp F st st'/\(∀b∈π.all,b∈F\/st.next<=b)/\st.next<=π.p/\Calm π.D/\π.D.ay.length=D.ay.length/\∃r,π.lg= .ptr r 0/\st.next<=r
section
variable {st st':St} {a:Nat} {F:List Nat} {D:aV}
theorem RR (hd:dt st a F D)(jy:cT st){Gk:GM}{base last:Nat}{P:Nat->Piece}{Ls:List (List eB)}{kept:jA}(h:jJ D Gk base last P Ls kept)(hb:last<=1000000000):R 23 [.ptr a 0] st (J7 a F D Gk last st):=by
 refine bO ?_;rw[w23];have avG:=h.least;have alr:=h.jF;have tk:=h.laid.le.1;rw[cX,af,ag,aAZ (by decide)];have AN:=xU hd 0
 have Xd:D.read 0=(0,dv base):=by
  have:=h.calm.read (i:=0) (by omega);rw[h.head]at this;exact this
 refine AN.mono ?_;intro v s1 hv;rw[Xd,aBb rfl]at hv;obtain⟨k1,_,b,rfl,gb,JH,GS⟩:=hv;rw[aD,af,aJ,aD,af];have e2:∀s,aj .neq (some .int) true (I 0) (.int .i64 0) s= .ok (.bool false) s:=fun s=>rfl;rw[e2,af,ag,aAZ (by decide)];have QS:=hd.keep k1 (by simp);refine(wo QS).same ?_;have hlt:aj .lss none true (I D.ay.length) (.int .i64 64) s1= .ok (.bool false) s1:=by rw[av,de,aAW (by omega)]
 have hhl:=qk base;have sl1:Sl s1 [] (.slice b 0 512 512 1) 1 (ai (dv base)):= .inr ⟨b,0,512,512,1,rfl,by simp[hhl],⟨aAU _, .inr rfl⟩, .inr ⟨by simp,GS,_,_,_,gb,by simp[hhl],by rw[aBx,aBa (by simp[hhl])]⟩⟩;have hbc:(ai (dv base)).length=512*1:=by simp[hhl]
 obtain⟨v8,q1,q2⟩:=sl1.hi (by omega) hbc (h:=8) (by omega) s1;have PO:dv base=[98,117,116,116,101,114,121,49]++(be 8 base++List.replicate 496 0):=by unfold dv;rw[aBE]
 have etk:(ai (dv base)).take (8*1)=ai [98,117,116,116,101,114,121,49]:=by
  rw[PO,bH,aCm (by simp)]
 rw[etk]at q2;have q3:=q2.str;have q1':aN 1 (.slice b 0 512 512 1) none (some (.int .i64 8)) s1= .ok v8 s1:=q1
 have e8:(dv base)[8]?=some (UInt8.ofNat (base/256^7%256)):=by
  rw[PO,aCi (by simp),yf];rfl
 have e80:UInt8.ofNat (base/256^7%256)=0:=by
  have:base/256^7=0:=Nat.div_eq_of_lt (by omega);rw[this];rfl
 have UM:cU 1 (.slice b 0 512 512 1) (.int .i64 8) s1= .ok (.ptr b 8) s1:=by
  have:=gu (size:=1) (off:=0) (cap:=512) (grow:=1) (i:=8) (len:=512) (by omega) (.inr (by omega)) s1 (b:=b);exact this
 have lj:(ai (dv base))[8]?=some (.int .u8 0):=by
  unfold ai;rw[aBN,e8,e80];rfl
 have Al:aj .gtr none true (.int .u8 0) (.int .u8 127) s1= .ok (.bool false) s1:=rfl;rw[hlt,af];simp only[aG,aAR,aBf,aBk,bh,af,q1',q3,eT,nq,aBV,aBm,aF,zk,UM,az,gb,ar,lj,au,Al,ag];refine(Jb QS (by omega)).mono ?_;rintro _ s3 ⟨k3,p,bd,bn,bi,bc,rfl,Ph,acS⟩;have hd3:=QS.keep k3 (by simp);have n1:=k1.next;have n3:=k3.next;rw[bG];refine(oY hd3).same ?_;have sl3:=sl1.mono k3;obtain⟨ml,r1,r2⟩:=sl3.both (by omega) hbc (l:=8) (h:=16) (by omega) (by omega) s3
 have aoj:((ai (dv base)).drop (8*1)).take ((16-8)*1)=ai (be 8 base):=by
  rw[PO,bH,aDn (by simp),bH,aCm (by simp[gV])]
 rw[aoj]at r2;have r1':aN 1 (.slice b 0 512 512 1) (some (.int .i64 8)) (some (.int .i64 16)) s3= .ok ml s3:=r1;rw[r1',af];have hbe:mY (be 8 base)=base:=ux 8 base (by omega);refine(sD r2 (by rw[gV];omega) (fun i=>by have:=Qd (be 8 base) i;omega)).same ?_;rw[hbe];have acV:cT s3:=k3.fresh (k1.fresh jy);have hRd:rZ D ⟨1,D.ay.length/4,base,base,base⟩ P:=⟨by show 0<D.ay.length/4;omega,by show 1+D.ay.length/4<=_;omega,alr,by show base<=_;omega,fun j hj=>h.pT j hj⟩;refine(yD acV hd3 h.calm.dead hRd (by omega)).mono ?_;rintro _ s6 ⟨r,xo,Fo,Gg,rfl,k6,nG,Ju,ZK,hr⟩;obtain⟨o1,o2⟩:=h.opened;rw[o1]at Ju;rw[o2]at nG;have n6:=k6.next;have X7:=Ph.keep k6 (by simp);have zt:=hd3.keep k6 (by simp);refine⟨trivial,trivial, ?_⟩;have e01:aj .eql (some .int) true (I 0) (.int .i64 1) s6= .ok (.bool false) s6:=rfl;have Yx:aj .eql (some .int) true (I 0) (.int .i64 0) s6= .ok (.bool true) s6:=rfl;have e02:aj .neq (some .int) true (I 0) (.int .i64 0) s6= .ok (.bool false) s6:=rfl;rw[e01,af];simp only[aG,aAR,aBf,aBk,bh,af,Yx,aBr,ea];have Pb:∀b∈[p,bd,bn,bi,bc],b<s3.next:=Ph.lt;have adv:=Pb bd (by simp);have adl:=h.laid.count;rw[aCa]at adl;have tE:=h.room;refine(Kx (M:=dY D.ay.length) (Ls:=Ls) X7 Ju (fun b hb e=>by have:=ZK b (.inl hb);omega) (fun b hb e=>by have:=ZK b (.inr hb);omega) (fun l hl e he=>h.wC l hl e he) h.small (by omega) (by show D.ay.length-1-D.ay.length/4<=_;omega)).mono ?_;rintro _ s7 ⟨rfl,k7,JI⟩;have XP:dX (dY D.ay.length).dirty Ls=dX [] Ls:=rfl;rw[XP]at JI;have n7:=k7.next;have xG:∀b∈F,b<st.next:=hd.lt
 have Dv:=zt.keep k7 fun b hb hh=>by
  have:=xG b hb;have:=acS bd (by simp);simp at hh;omega
 have Xb:=nG.keep k7 (by simp;omega);have Yw:∀s,aj .neq (some .int) true (I 0) (.int .i64 0) s= .ok (.bool false) s:=fun s=>rfl;simp only[du,aBm,af,aF,aBr,aAR,aBf,ag,Yw];have Zw:=JI.main
 have Fa:∀{s:St} {l:List CV} {x:CV} {o:Nat} {K:St->Prop},s.mem.get p=some (.cells l 158 false)->x.cK=[x]->cq x=true->o<l.length->K (St.set s p (.cells (bt l o [x]) 158 false))->nV 1 o (.ptr p 0) x s K:=by
  intro s l x o K hg h1 h2 h3 hK;simp only[nV,bA,ah,af,aH,hg,aS,h1,aAT];exact⟨⟨rfl,by simp[h2],h3⟩,hK⟩
 refine Fa Zw rfl rfl (by decide:(1:Nat)<16) ?_;have qR:=JI.nd;simp only[aBi,aAX,aBF,aCA,aCr]at qR;have HX:=JI.lt p (by simp)
 have hP8:cG (St.set s7 p (.cells (bt [.ptr a 0, .bz,I (1+D.ay.length/4:Nat),I (D.ay.length-1-D.ay.length/4:Nat), .map bd, .map bn,I fS.root,I fS.used,I fS.head,I fS.free,I fS.root,I fS.used,I fS.head,I fS.free, .map bi, .map bc] 1 [.ptr r 0]) 158 false)) p a (.ptr r 0) {dY D.ay.length with dirty:=dX [] Ls} bd bn bi bc:=
  ⟨ao _ _ _,JI.dirty.mono (ak _ _ _ _ (aBU qR.1.1)),JI.now.mono (ak _ _ _ _ (aBU qR.1.2.1)),JI.idle.mono (ak _ _ _ _ (aBU qR.1.2.2.1)),JI.count.mono (ak _ _ _ _ (aBU qR.1.2.2.2)),JI.nd,JI.lt,⟨rfl,rfl,rfl⟩⟩
 have k8:Kp [p] s7 (St.set s7 p (.cells (bt [.ptr a 0, .bz,I (1+D.ay.length/4:Nat),I (D.ay.length-1-D.ay.length/4:Nat), .map bd, .map bn,I fS.root,I fS.used,I fS.head,I fS.free,I fS.root,I fS.used,I fS.head,I fS.free, .map bi, .map bc] 1 [.ptr r 0]) 158 false)):=(Kp.refl _ s7).set _ (.inl (by simp)) HX;have n8:(St.set s7 p (.cells (bt [.ptr a 0, .bz,I (1+D.ay.length/4:Nat),I (D.ay.length-1-D.ay.length/4:Nat), .map bd, .map bn,I fS.root,I fS.used,I fS.head,I fS.free,I fS.root,I fS.used,I fS.head,I fS.free, .map bi, .map bc] 1 [.ptr r 0]) 158 false)).next=s7.next:=rfl;generalize hS8:St.set s7 p (.cells (bt [.ptr a 0, .bz,I (1+D.ay.length/4:Nat),I (D.ay.length-1-D.ay.length/4:Nat), .map bd, .map bn,I fS.root,I fS.used,I fS.head,I fS.free,I fS.root,I fS.used,I fS.head,I fS.free, .map bi, .map bc] 1 [.ptr r 0]) 158 false)=s8 at*;rw[show St.set s7 p (.cells (bt [.ptr a 0, .bz,I (dY D.ay.length).first,I (dY D.ay.length).aE, .map bd, .map bn,I (dY D.ay.length).kept.root,I (dY D.ay.length).kept.used,I (dY D.ay.length).kept.head,I (dY D.ay.length).kept.free,I (dY D.ay.length).m.root,I (dY D.ay.length).m.used,I (dY D.ay.length).m.head,I (dY D.ay.length).m.free, .map bi, .map bc] 1 [.ptr r 0]) 158 false)=s8 from hS8];have nY:∀b∈[p,bd,bn,bi,bc],s1.next<=b:=acS;have akB:=nY p (by simp);have aqO:=nY bd (by simp);have aqM:=nY bn (by simp);have aqN:=nY bi (by simp);have aqP:=nY bc (by simp);have GQ:=Dv.keep k8 fun b hb hh=>by have:=xG b hb;simp at hh;omega
 have AO:=Pb p (by simp);have Xa:=Xb.keep k8 (by simp;omega);refine(M5 Xa).same ?_;have XH:cT s8:=k8.fresh (k7.fresh (k6.fresh acV));have QR:((dX [] Ls).map (·.1)).Nodup:=im (by rw[<-kv];exact JI.dirty.nd);have JD:=Cx h.wC (d:=[]) (by simp)
 have GP:(dX [] Ls).length<=65536:=by
  have:=kQ 65536 ((dX [] Ls).map (·.1)) QR fun x hx=>by
   obtain⟨e,he,rfl⟩:=aBv.1 hx;have:=(JD e he).1;omega
  rwa [aCa]at this
 have hFd:∀b∈F,b∉[p,bd,bn,bi,bc]:=fun b hb hh=>by
  have:=xG b hb;have:=nY b hh;omega
 refine(yJ (M:={dY D.ay.length with dirty:=dX [] Ls}) hP8 GQ h.calm (by unfold aV.zi;rw[h.waits];simp) (by rw[h.waits];simp) XH hFd (by show(dX [] Ls).length<=_;omega) (fun e he=>JD e he) (by show 1+D.ay.length/4+(D.ay.length-1-D.ay.length/4)=_;omega) rfl (by omega) hb h.pT).mono ?_;rintro _ dd ⟨rfl,qj,r2,bd2,F2,D2,xF,SY,QV,Jn,GJ,Jt,Aj,Lg,gT,zx,th⟩;have ON:jJ D2 Gk last last P [] kept:=h.settled (dirty:=dX [] Ls) (fun n=>rfl) QV Jn GJ th;rw[Yw,af,ag,aAZ (by decide)];have hz:=ON.zero;have gI:=ON.rep;rw[GJ]at hz gI;have acm:=gI.ok.jF;have avn:D.ay.length-1-D.ay.length/4=Gk.aE:=gI.aE;have QC:=qj.next
 have X8:∀b∈F2,b≠p:=fun b hb e=>by
  rcases(zx b hb).1 with h1|h1
  ·have:=xG b h1;omega
  ·omega
 refine(Qg (m':=kept) (frs:=Gk.fr) xF SY QV.dead X8 hz ON.aaS (by show 1+D.ay.length/4+(D.ay.length-1-D.ay.length/4)<=_;omega) (by show 0<D.ay.length-1-D.ay.length/4;omega) gI.head (fun n hn=>⟨(gI.ok.fr n hn).1,by show n<D.ay.length-1-D.ay.length/4;have:=(gI.ok.fr n hn).2;omega⟩) gI.ok.nd (gI.chain.congr fun n _=>rfl)).mono ?_;rintro _ dm ⟨rfl,pJ,bn',bi',bc',xE,kh⟩;have h11:=xE.lt;have Js:=Jt.keep pJ (by simp;omega);have adT:∀b∈F2,b<dd.next:=SY.lt;have aqc:=Jt.1;have amH:=xF.lt bd2 (by simp);have XR:=SY.keep pJ fun b hb hh=>X8 b hb (by simpa using hh);have Dk:=kh bn' (by simp);have hn2:=kh bi' (by simp);have hn3:=kh bc' (by simp);rw[Yw,af,ag,aAZ (by decide)];refine⟨⟨p,a, .ptr r2 0,bd2,bn',bi',bc',F2,D2,[],kept,1+D.ay.length/4⟩,rfl,rfl,⟨_,xE,gI,XR,QV.dead,fun b hb hh=> ?_,rfl,rfl,rfl⟩,⟨⟨last,last,P,[],r2,ON,aAU _,rfl, ?_, ?_,fun n=>rfl⟩,by show 1+D.ay.length/4=1+D2.ay.length/4;rw[GJ],by simp,by simp⟩, ?_, ?_,by show st.next<=p;omega,QV,GJ,r2,rfl,by omega⟩
 ·have h1:=adT b hb;have h2:=zx b hb;have h3:=X8 b hb;simp at hh;rcases hh with hh|hh|hh|hh|hh
  ·exact h3 hh
  ·exact h2.2.2 hh
  ·omega
  ·omega
  ·omega
 ·have:=(ON.opened).2;rw[GJ]at this;rw[this]at Js;show fF dm r2 a ⟨1,D2.ay.length/4,last,last,last⟩;rw[GJ];exact Js
 ·unfold PI.all;simp only[aAX,aCr];exact⟨by omega,gT,by omega,by omega,by omega,fun hh=>(zx r2 hh).2.1 rfl⟩
 ·have q0:Kp F st s6:=((k1.trans k3 (by simp)).trans k6 (by simp)).mono (by simp);have q1:Kp F st s7:=q0.trans k7 (by intro q hq;right;simp at hq;omega);have q2:Kp F st s8:=q1.trans k8 (by intro q hq;right;simp at hq;omega);have q3:Kp F st dd:=q2.trans qj (by intro q hq;rcases aAX.1 hq with rfl|hq;right;omega;left;exact hq);exact q3.trans pJ (by intro q hq;right;simp at hq;omega)
 ·intro b hb;unfold PI.all at hb;simp only[aAX]at hb;rcases hb with hb|hb|hb|hb|hb|hb
  ·right;omega
  ·right;omega
  ·right;omega
  ·right;omega
  ·right;omega
  ·rcases(zx b hb).1 with h1|h1
   ·left;exact h1
   ·right;omega
end
