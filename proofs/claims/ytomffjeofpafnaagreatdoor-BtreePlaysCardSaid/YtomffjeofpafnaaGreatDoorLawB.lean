import Derived.Test.YtomffjeofpafnaaGreatDoorLawA
namespace Lim
open Go
noncomputable section
set_option maxRecDepth 100000
section
variable {st st':St}
theorem Z6 (a:Int)(m:Nat)(hm:0<m)(PF:m<=100000):∃n:Nat,n<m/\∀(s:St) (K:CV->Prop),K (I n)->us (dB (.toInt .u64) (I a) s) fun x7=>us (aj .rem none true x7 (.int .u64 m) s) fun x8=>us (dB (.toInt .i64) x8 s) K:=by
 have h1:0<=IntKind.u64.wrap a:=by rw[IntKind.wrap_u64];omega
 have h2:(IntKind.u64.wrap a).tmod m=(IntKind.u64.wrap a)%m:=Int.tmod_eq_emod_of_nonneg h1;have h3:0<=(IntKind.u64.wrap a)%m:=Int.emod_nonneg _ (by omega);have h4:(IntKind.u64.wrap a)%m<m:=Int.emod_lt_of_pos _ (by omega);refine⟨((IntKind.u64.wrap a)%m).toNat,by omega,fun st K hK=> ?_⟩;have e1:dB (.toInt .u64) (I a) st= .ok (.int .u64 (IntKind.u64.wrap a)) st:=rfl;rw[e1,af,aw,MN,aAH (by omega),af];have e2:dB (.toInt .i64) (.int .u64 ((IntKind.u64.wrap a).tmod m)) st= .ok (.int .i64 (IntKind.i64.wrap ((IntKind.u64.wrap a).tmod m))) st:=rfl;rw[e2,af,h2,bz (by omega)];rw[Int.toNat_of_nonneg h3]at hK;exact hK
theorem Qb {k many:Int}{key val:List UInt8}(hv:val.length<=100000):R 12 [.agg [I k, .str key, .str val,I many]] st fun v st'=>Kp [] st st'/\∃s:List UInt8,v= .str s/\s.length<=200000:=by
 refine bN ?_;rw[w12];rw[cn];refine⟨rfl, ?_⟩;rw[aX,cN];simp only[aJ,aK];obtain⟨m,hm,hK⟩:=Z6 many 600 (by omega) (by omega);generalize Gi:St.new st (.cells [I k, .str key, .str val,I many] 31 false)=s1;have k1:Kp [] st s1:=by rw[<-Gi];exact(Kp.refl [] st).new _
 have g1:s1.mem.get st.next=some (.cells [I k, .str key, .str val,I many] 31 false):=by rw[<-Gi];simp
 refine bK (fun fu vs s=>∃(i:Nat) (x:List UInt8),fu+i=600/\vs=[.ptr st.next 0, .str x,I i]/\x.length<=200000/\s=s1) ?_ (n:=600) ⟨0,[],rfl,rfl,by simp,rfl⟩;rintro fu vs s K ⟨i,x,hi,rfl,hx,rfl⟩ next;simp only[aJ,aK]
 have f3:∀K:CV->Prop,K (I many)->fl 3 (.ptr st.next 0) s K:=fun K h=>by
  simp only[fl,ah,af,aA,g1,aq];exact h
 have f2:∀K:CV->Prop,K (.str val)->fl 2 (.ptr st.next 0) s K:=fun K h=>by
  simp only[fl,ah,af,aA,g1,aq];exact h
 refine f3 _ ?_;refine hK s _ ?_;rw[dv,af];have fin:Kp [] st s/\∃t:List UInt8,CV.str x= .str t/\t.length<=200000:=⟨k1,x,rfl,hx⟩
 by_cases hc:i<m
 ·have e9:aj .lss none true (I x.length) (.int .i64 9000) s= .ok (.bool (decide (x.length<9000))) s:=by rw[aw,cP];congr 2;simp only[aBc];omega
  simp only[aAJ hc,aH,aAY,bo,af,fe,e9,aG,ag]
  by_cases h9:x.length<9000
  ·rw[aAJ h9,aAI rfl];refine f2 _ ?_;have OL:aj .add none false (.str x) (.str val) s= .ok (.str (x++val)) s:=by rw[dX];unfold qY;rw[aAI (by omega)]
   rw[OL,af,gF i (by omega),af];exact next (fu-1) _ _ (by omega) ⟨i+1,x++val,by omega,rfl,by rw[aAG];omega,rfl⟩
  ·rw[aAB h9,aAH (by decide)];exact fin
 ·simp only[aAB hc,aH,aAz,aAO,cB,af,aG,ag];exact fin
end
section
variable {st st':St}
theorem KJ {L:List bA}(hs:iP L)(key:cc){p:bA}(h:L[bH L key]?=some p)(hk:p.1=key):kJ L key=some p.2:=by
 obtain⟨p1,p2⟩:=ml hs key;unfold kJ;obtain⟨hlt,he⟩:=aAP.1 h
 have hf:L.find? (fun x=>decide (x.1=key))=some p:=by
  rw[List.find?_eq_some_iff_append];refine⟨by simpa using hk,L.take (bH L key),L.drop (bH L key+1), ?_, ?_⟩
  ·rw[<-he,List.getElem_cons_drop,aBm]
  ·intro a ha;rw[<-p1,aCs]at ha;have h2:=ha.2;simp only[aBR]at h2;simp only[Bool.not_eq_eq_eq_not,aAU,aDb];intro e;rw[e]at h2;exact gq key h2
 rw[hf];rfl
theorem QH {s:St}{x:CV}{L':List CV}{F:List Nat}{i:Nat}(ho:Own s x 2 41 L' F)(hF:∀b∈F,b<s.next)(hi:i*2<L'.length){K:St->Prop}(hK:∀s' L'',L''.length=L'.length->Own s' x 2 41 L'' F->Kp F s s'->K s'):
 Rl 2 0 x (I i) s fun tb=>upon (aP 1 tb (.str [63]) s) fun _ s8=>K s8:=by
 rcases ho with⟨_,rfl,_⟩|⟨b,l,t,g,_,rfl,_⟩|⟨b,n,rfl,h2,h3,rfl,h5⟩
 ·simp at hi
 ·simp at hi
 ·unfold Rl;rw[gf (by omega) (.inr (aAE _)),af,ah,af,aF,h5,aR];refine⟨⟨rfl,rfl,by omega⟩, ?_⟩;have hlt:=hF b (by simp)
  have hlen:(bp L' (0+i*2+0) (CV.cD (.str [63]))).length=L'.length:=by
   unfold bp;simp only[xY,aAG,aAN,aAX,aBb,aCb];omega
  refine hK _ _ hlen (.inr (.inr ⟨b,n,rfl,h2,by rw[hlen];exact h3,rfl,ao _ _ _⟩)) ((Kp.refl [b] s).set _ (by simp) hlt)
theorem ic.sorted {G:GM}{L:List bA}(h:ic G L):iP L:=by
 rcases h.tree with⟨_,rfl⟩|⟨hh,ps,_,hs⟩
 ·exact List.Pairwise.nil
 ·exact hs.facts.sorted
theorem Ox {L:List bA}(hs:iP L){key:cc}(h:(kJ L key).isSome=true):∃hi:bH L key<L.length,(kJ L key).getD []=L[bH L key].2:=by
 rw[wh hs]at h;have h:∃p,L[bH L key]?=some p/\p.1=key:=by simpa using h
 obtain⟨p,h1,h2⟩:=h;obtain⟨hlt,he⟩:=aAP.1 h1;exact⟨hlt,by rw[KJ hs key h1 h2,he];rfl⟩
theorem Ew {L:List bA}{key:cc}(h:(kJ L key).isSome=false):(kJ L key).getD []=[]:=by
 cases hg:kJ L key with
 |none=>rfl
 |some x=>rw[hg]at h;cases h
def wy (st:St)(y:CV)(st':St):Prop:=y= .bool true/\Kp [] st st'
theorem wE {τ:Nat}{π:PI}{L Lk:List bA}{T N fr:Nat}{s:St}(h:gO τ π s L Lk T N fr){v:CV}(hv:Sl s [] v 2 (bZ L))(hl:L.length<=100000)(key:List UInt8)(Q:CV->St->Prop)(hQ:∀s',Kp [] s s'->Q (.bool true) s'):
 R 14 [(.ptr τ 0),(.str key),(.str [])] s fun iV s3=>
 us (az iV 0 s3) fun jK=>
 us (az iV 1 s3) fun jM=>
 us (aj .neq (some .int) true jM (.int .i64 0) s3) fun jn=>
 us (aY (ak false jn) s3 (.ok jK s3)) fun lY=>
 us (aY (ak false jn) s3 (.ok v s3)) fun mF=>
 us (aY (ak false jn) s3 (.ok (.str key) s3)) fun oz=>
 fp (ak false jn) s3 (fun k=>R 61 [mF,oz,(.str [])] s3 k) fun lX s4=>
 fp (ak false jn) s4 (fun k=>R 25 [lY,lX] s4 k) fun ow s5=>
 us (aY (ak false jn) s5 (lj .not ow s5)) fun qj=>
 us (ba jn (.bool true) qj s5) fun oL=>
 aB oL (
 Q (.bool false) s5) (
 dR (fun LZ s6=>
 c8 (fun vM s7 k51=>
 us (bh .slice (ar 3 vM) s7) fun qK=>
 us (aj .lss (none) false (ar 4 vM) qK s7) fun qE=>
 aB qE (
 Rl 2 0 (ar 3 vM) (ar 4 vM) s7 fun tb=>
 upon (aP 1 tb (.str [63]) s7) fun _ s8=>
 us (aj .add (none) true (ar 4 vM) (.int .i64 1) s8) fun uw=>
 k51 [(ar 0 vM),(ar 1 vM),(ar 2 vM),(ar 3 vM),uw] s8) (
 R 14 [(ar 0 vM),(.str []),(ar 2 vM)] s7 fun oK s9=>
 us (az oK 0 s9) fun tI=>
 us (az oK 1 s9) fun mq=>
 us (aj .eql (some .int) true mq (.int .i64 0) s9) fun oJ=>
 us (aY (ak true oJ) s9 (.ok tI s9)) fun tH=>
 us (aY (ak true oJ) s9 (.ok (ar 1 vM) s9)) fun oI=>
 us (aY (ak true oJ) s9 (.ok (ar 2 vM) s9)) fun vK=>
 fp (ak true oJ) s9 (fun k=>R 61 [oI,(.str []),vK] s9 k) fun lW df=>
 fp (ak true oJ) df (fun k=>R 25 [tH,lW] df k) fun wC de=>
 us (ba oJ wC (.bool false) de) fun wB=>
 Q wB de)) [(ar 0 LZ),(ar 1 LZ),(ar 2 LZ),(ar 3 LZ),(ar 4 LZ)] s6) fun k49=>
 k49 [(.ptr τ 0),v,(.str key),jK,(.int .i64 0)] s5):=by
 have h0:=h;obtain⟨⟨G,Gk,ht,hL,_⟩,_⟩:=h;have Zm:∀s,aj .neq (some .int) true (I 0) (.int .i64 0) s= .ok (.bool false) s:=fun s=>rfl;have e20:∀s,aj .eql (some .int) true (I 0) (.int .i64 0) s= .ok (.bool true) s:=fun s=>rfl;refine(Eb ht hL key []).mono ?_;rintro _ s3 ⟨jK,rfl,F3,k3,o3,xE⟩;rw[aD,af,aN,aD,af,Zm,af,aH];simp only[aAz,aAO,aAT,bo,af,fh];refine(IC (hv.mono k3) hl key []).mono ?_;rintro lX s4 ⟨F4,k4,o4,Uc⟩;have n3:=k3.next;have n4:=k4.next;have o3':Own s4 jK 2 41 (bZ (L.filter (sI key []))) F3:=o3.mono fun b hb=>k4.keep b (xE b hb).2 (by simp);have fV:(L.filter (sI key [])).length<=100000:=aBS (aDk _ _) hl;refine(JA (X:=[]) (Y:=[]) (o3'.sl fun b hb=>⟨by simp,by have:=(xE b hb).2;omega⟩) (o4.sl fun b hb=>⟨by simp,(Uc b hb).2⟩) fV fV).same ?_;rw[aAJ rfl,dm,af,aG,aAH (by decide),af,ag,aAU,aAH (by decide),cN];simp only[aJ,aK];have K4:Kp [] s s4:=k3.trans k4 (by simp);refine bK (fun fu vs s7=>∃(i:Nat) (L':List CV),fu+i=(L.filter (sI key [])).length/\vs=[.ptr τ 0,v, .str key,jK,I i]/\Kp [] s s7/\Own s7 jK 2 41 L' F3/\L'.length=(L.filter (sI key [])).length*2/\(∀b∈F3,s.next<=b/\b<s7.next)) ?_ (n:=(L.filter (sI key [])).length) ⟨0,_,rfl,rfl,K4,o3',by rw[dA],fun b hb=>⟨(xE b hb).1,by have:=(xE b hb).2;omega⟩⟩;rintro fu vs s7 K ⟨i,L',hi,rfl,hk,own,hlen,hF⟩ next;have MT:Sl s7 [] jK 2 L':=own.sl fun b hb=>⟨by simp,(hF b hb).2⟩;simp only[aJ,aK];rw[MT.len _ hlen (by omega) s7,af,dv,af,ag]
 by_cases hc:i<(L.filter (sI key [])).length
 ·rw[aAJ hc,aAI rfl];refine QH own (fun b hb=>(hF b hb).2) (by omega) ?_;intro s8 L8 hl8 o8 k8;rw[gF i (by omega),af];have n8:=k8.next;exact next (fu-1) _ _ (by omega) ⟨i+1,L8,by omega,rfl,hk.trans k8 (fun q hq=> .inr (hF q hq).1),o8,by omega,fun b hb=>⟨(hF b hb).1,by have:=(hF b hb).2;omega⟩⟩
 ·rw[aAB hc,aAH (by decide)];refine(Eb (ht.still hk) hL [] key).mono ?_;rintro _ s9 ⟨tI,rfl,F9,k9,o9,hF9⟩;rw[aD,af,aN,aD,af,e20,af,aH];simp only[aAY,bo,af,fh];have K9:Kp [] s s9:=hk.trans k9 (by simp);refine(IC (hv.mono K9) hl [] key).mono ?_;rintro lW df ⟨F10,so,o10,amF⟩;have M5:=so.next;have o9':Own df tI 2 41 (bZ (L.filter (sI [] key))) F9:=o9.mono fun b hb=>so.keep b (hF9 b hb).2 (by simp);have fV:(L.filter (sI [] key)).length<=100000:=aBS (aDk _ _) hl;refine(JA (X:=[]) (Y:=[]) (o9'.sl fun b hb=>⟨by simp,by have:=(hF9 b hb).2;omega⟩) (o10.sl fun b hb=>⟨by simp,(amF b hb).2⟩) fV fV).same ?_;rw[aAJ rfl,aG,aAI rfl,af];exact hQ _ (K9.trans so (by simp))
theorem Mh {τ:Nat}{π:PI}{L Lk:List bA}{T N fr:Nat}(h:gO τ π st L Lk T N fr){X:List Nat}{v:CV}(hv:Sl st X v 2 (bZ L))(hl:L.length<=100000)(key:List UInt8):R 16 [.ptr τ 0,v, .str key] st (wy st):=by
 have h0:=h;obtain⟨⟨G,Gk,ht,hL,_⟩,_⟩:=h;have hs:=hL.sorted;have hv0:=hv.dM (Y:=[]) (by simp);refine bN ?_;rw[w16];refine(XM ht hL key).mono ?_;rintro x1 s1 ⟨k1,LA⟩;have t1:=ht.still k1;have v1:=hv0.mono k1;have XZ:aj .gtr none true (I key.length) (.int .i64 48) s1= .ok (.bool (decide (48<key.length))) s1:=by rw[aw,dq];congr 2;simp only[aBc];omega
 by_cases xF:48<key.length
 ·rw[aAI xF]at LA;subst LA;simp only[aD,aN,af];refine(CZ v1 (by omega) key).same ?_;simp only[aD,aN,af,fe,XZ,aAJ xF,ag,aAY];exact⟨rfl,k1⟩
 ·rw[aAH xF]at LA;subst LA;simp only[aD,aN,af];refine(CZ v1 (by omega) key).same ?_;simp only[aD,aN,af,fe,XZ,aAB xF,ag,aAz,aAO];have Zm:∀s,aj .neq (some .int) true (I 0) (.int .i64 0) s= .ok (.bool false) s:=fun s=>rfl;have e18:∀s,aj .neq (some .bool) false (.bool true) (.bool true) s= .ok (.bool false) s:=fun s=>rfl;have e19:∀s,aj .neq (some .bool) false (.bool false) (.bool false) s= .ok (.bool false) s:=fun s=>rfl;have e20:∀s,aj .eql (some .int) true (I 0) (.int .i64 0) s= .ok (.bool true) s:=fun s=>rfl;rw[<-wh hs key];cases hb:(kJ L key).isSome with
  |true=>
   obtain⟨hi,hg⟩:=Ox hs hb;rw[hg];obtain⟨b,p,l,t,g,q1,q2,q3,q4,q5⟩:=v1.cellAt (L:=L.map gV) (by omega) (kP _) (i:=bH L key) (by simpa using hi);have q6:=q5 1 (.str L[bH L key].2) (by simp[gV]);simp only[Zm,e18,af,aH,aAT,aAU,bo,cB,aAz,aAO,aAY,aG,ft,q1,ah,aA,q2,aq,q6,av,dX,kQ,aBA,dm,ag];exact wE (h0.still k1) v1 hl key (wy st) fun s' hk=>⟨rfl,k1.trans hk (by simp)⟩
  |false=>
   rw[Ew hb];simp only[Zm,e19,af,aH,aAT,aAU,bo,cB,aAz,aAO,aAY,aG,ft,nP,dX,kQ,aBA,dm,ag];exact wE (h0.still k1) v1 hl key (wy st) fun s' hk=>⟨rfl,k1.trans hk (by simp)⟩
end
def fD (st:St)(m:Nat)(X:List Nat)(L Lk:List bA):Prop:=∃v1 v2,st.mem.get m=some (.cells [v1,v2] 47 false)/\cr v1=true/\v1.cD=[v1]/\cr v2=true/\v2.cD=[v2]/\m<st.next/\m∉X/\Sl st (m::X) v1 2 (bZ L)/\Sl st (m::X) v2 2 (bZ Lk)
def Ij (m a N n T:Nat)(X:List Nat)(mu:St)(τ:Nat)(st:St):Prop:=∃π L Lk T' fr,π.a=a/\gO τ π st L Lk T' N fr/\fD st m (own τ π) L Lk/\L.length<=n/\Lk.length<=n/\T'<=T/\Kp X mu st/\∀b∈own τ π,b∈X\/mu.next<=b
section
variable {τ:Nat} {π:PI} {st st':St} {L Lk:List bA} {T N fr:Nat}
theorem gO.yw (h:gO τ π st L Lk T N fr):∀b∈own τ π,b<st.next:=by
 obtain⟨⟨G,Gk,ht,hL,hk,DA,qz,iE⟩,hc,hl⟩:=h;intro b hb;obtain⟨r,h1,h2,h3⟩:=hk.log;unfold own at hb;rw[h1]at hb;rcases aAD.1 hb with h|h
 ·rw[h];exact ht.lt
 ·rcases aAM.1 h with h|h
  ·have h:b=r:=by simpa using h
   omega
  ·exact ht.pg.lt b h
theorem GG (h:gO τ π st L Lk T N fr):R 17 [.ptr τ 0] st fun v st'=>v=I fr/\st'=st:=by
 obtain⟨⟨G,Gk,ht,hL,hk,DA,qz,rfl⟩,hc,hl⟩:=h;exact Mc ht
theorem Sl.one {X:List Nat}{v:CV}{k:Nat}{l:List CV}(h:Sl st X v k l):cr v=true/\v.cD=[v]:=by
 rcases h with⟨rfl,_⟩|⟨b,o,l,c,g,rfl,_⟩<;>exact⟨rfl,rfl⟩
theorem fD.kp {m:Nat}{X:List Nat}(h:fD st m X L Lk)(hk:Kp [] st st'):fD st' m X L Lk:=by
 obtain⟨v1,v2,h1,h2,h3,h4,h5,h6,h7,h8,h9⟩:=h;exact⟨v1,v2,(hk.keep m h6 (by simp)).trans h1,h2,h3,h4,h5,aAZ h6 hk.next,h7,h8.mono (hk.mono (by simp)),h9.mono (hk.mono (by simp))⟩
theorem Sl.uf {π':PI}{τ' m:Nat}{v:CV}{l:List CV}(h:Sl st (m::own τ π) v 2 l)(hk:Kp (own τ π) st st')(hn:∀b∈own τ' π',b∈own τ π\/st.next<=b):Sl st' (m::own τ' π') v 2 l:=by
 have h1:Sl st (m::(own τ π++own τ' π')) v 2 l:=h.dM fun q hq=>by
  rcases aAD.1 hq with h1|h1
  ·exact .inl (by simp[h1])
  ·rcases aAM.1 h1 with h2|h2
   ·exact .inl (aBk _ h2)
   ·exact(hn q h2).imp (fun h=>aBk _ h) id
 have h2:=h1.mono (st':=st') (hk.mono fun q hq=> .inl (by simp[hq]))
 exact h2.dM fun q hq=>by
  rcases aAD.1 hq with h3|h3
  ·exact .inl (by simp[h3])
  ·exact .inl (by simp[h3])
theorem fD.uf {π':PI}{τ' m:Nat}(h:fD st m (own τ π) L Lk)(hk:Kp (own τ π) st st')(hn:∀b∈own τ' π',b∈own τ π\/st.next<=b):fD st' m (own τ' π') L Lk:=by
 obtain⟨v1,v2,h1,h2,h3,h4,h5,h6,h7,h8,h9⟩:=h;refine⟨v1,v2,(hk.keep m h6 h7).trans h1,h2,h3,h4,h5,aAZ h6 hk.next,fun hh=> ?_,h8.uf hk hn,h9.uf hk hn⟩;rcases hn m hh with h|h
 ·exact h7 h
 ·omega
theorem fD.Qw {m:Nat}{X:List Nat}{x:CV}{L':List bA}(h:fD st m X L Lk)(hx:Sl st (m::X) x 2 (bZ L')){K:St->Prop}(hK:∀s,Kp [m] st s->fD s m X L' Lk->K s):lz 1 0 (.ptr m 0) x st K:=by
 obtain⟨v1,v2,h1,h2,h3,h4,h5,h6,h7,h8,h9⟩:=h;obtain⟨o1,o2⟩:=hx.one;unfold lz;rw[br,af,ah,af,aF,h1,aR,o2];refine⟨⟨rfl,by simp[o1],by simp⟩, ?_⟩;have k:Kp [m] st (St.set st m (.cells (bp [v1,v2] (0+0) [x]) 47 false)):=(Kp.refl [m] st).set _ (by simp) h6;refine hK _ k ⟨x,v2,by rw[ao];rfl,o1,o2,h4,h5,h6,h7,hx.mono (k.mono (by simp)),h9.mono (k.mono (by simp))⟩
theorem fD.aij {m:Nat}{X:List Nat}{x:CV}{L':List bA}(h:fD st m X L Lk)(hx:Sl st (m::X) x 2 (bZ L')){K:St->Prop}(hK:∀s,Kp [m] st s->fD s m X L L'->K s):lz 1 1 (.ptr m 0) x st K:=by
 obtain⟨v1,v2,h1,h2,h3,h4,h5,h6,h7,h8,h9⟩:=h;obtain⟨o1,o2⟩:=hx.one;unfold lz;rw[br,af,ah,af,aF,h1,aR,o2];refine⟨⟨rfl,by simp[o1],by simp⟩, ?_⟩;have k:Kp [m] st (St.set st m (.cells (bp [v1,v2] (0+1) [x]) 47 false)):=(Kp.refl [m] st).set _ (by simp) h6;refine hK _ k ⟨v1,x,by rw[ao];rfl,h2,h3,o1,o2,h6,h7,h8.mono (k.mono (by simp)),hx.mono (k.mono (by simp))⟩
theorem fD.get {m:Nat}{X:List Nat}(h:fD st m X L Lk):∃v1 v2,Sl st (m::X) v1 2 (bZ L)/\Sl st (m::X) v2 2 (bZ Lk)/\(∀K:CV->Prop,K v1->fm 0 (.ptr m 0) st K)/\∀K:CV->Prop,K v2->fm 1 (.ptr m 0) st K:=by
 obtain⟨v1,v2,h1,h2,h3,h4,h5,h6,h7,h8,h9⟩:=h;refine⟨v1,v2,h8,h9,fun K hK=> ?_,fun K hK=> ?_⟩
 all_goals
  unfold fm;rw[br,af,ah,af,aA,h1,aq];exact hK
theorem gO.off {X:List Nat}(h:gO τ π st L Lk T N fr)(hk:Kp X st st')(hx:∀b∈own τ π,b∉X):gO τ π st' L Lk T N fr:=by
 have hlt:=h.yw;have LH:∀b∈own τ π,st'.mem.get b=st.mem.get b:=fun b hb=>hk.keep b (hlt b hb) (hx b hb);obtain⟨⟨G,Gk,ht,hL,Ap,DA,qz,iE⟩,hc,hl⟩:=h;obtain⟨ty,g,hg⟩:=ht.get;obtain⟨r,h1,h2,h3⟩:=Ap.log;refine⟨⟨G,Gk,⟨ht.pg.keep hk fun b hb=>hx b (lQ hb),aAZ ht.lt hk.next,ht.not,⟨ty,g,(hk.keep τ ht.lt (hx τ (by simp[own]))).trans hg⟩,hk.fresh ht.fr⟩,hL,Ap.keep hk fun r' e=>hx r' (by unfold own;rw[e];simp),DA,qz,iE⟩,hc,hl⟩
end
theorem Bm {α:Type}(L:List α)(p q:α->Bool)(h:∀x,p x=true->q x=true->False):(L.filter p).length+(L.filter q).length<=L.length:=by
 induction L with
 |nil=>simp
 |cons x r ih=>
  rw[aBV,aBV];cases hp:p x<;>cases hq:q x
  ·simp;omega
  ·simp;omega
  ·simp;omega
  ·exact(h x hp hq).elim
theorem MH (L:List bA)(key:cc)(v:List UInt8):(uN L key v).length<=L.length+1:=by
 have:=Bm L (fun x=>decide (eC x.1 key)) (fun x=>decide (eC key x.1)) fun x h1 h2=>kq (by simpa using h1) (by simpa using h2);have e:uN L key v=L.filter (fun x=>decide (eC x.1 key))++(key,v)::L.filter (fun x=>decide (eC key x.1)):=rfl;rw[e,aAG,aBb];exact Nat.succ_le_succ this
theorem OT (L:List bA)(key:cc):(pj L key).length<=L.length:=by
 have:=Bm L (fun x=>decide (eC x.1 key)) (fun x=>decide (eC key x.1)) fun x h1 h2=>kq (by simpa using h1) (by simpa using h2);have e:pj L key=L.filter (fun x=>decide (eC x.1 key))++L.filter (fun x=>decide (eC key x.1)):=rfl;rw[e,aAG];exact this
section
variable {τ:Nat} {π:PI} {st st':St} {L Lk:List bA} {T N fr:Nat}
theorem fD.dM {m:Nat}{X Y:List Nat}(h:fD st m X L Lk)(hy:∀q∈Y,q∈X\/st.next<=q):fD st m Y L Lk:=by
 obtain⟨v1,v2,h1,h2,h3,h4,h5,h6,h7,h8,h9⟩:=h
 have YM:∀q∈m::Y,q∈m::X\/st.next<=q:=fun q hq=>by
  rcases aAD.1 hq with h|h
  ·exact .inl (by simp[h])
  ·exact(hy q h).imp (fun h=>aBk _ h) id
 refine⟨v1,v2,h1,h2,h3,h4,h5,h6,fun hh=> ?_,h8.dM YM,h9.dM YM⟩;rcases hy m hh with h|h
 ·exact h7 h
 ·omega
theorem fD.mono {m:Nat}{X F:List Nat}(h:fD st m X L Lk)(hk:Kp F st st')(hF:∀q∈F,q∈X):fD st' m X L Lk:=by
 obtain⟨v1,v2,h1,h2,h3,h4,h5,h6,h7,h8,h9⟩:=h;have k:Kp (m::X) st st':=hk.mono fun q hq=> .inl (aBk _ (hF q hq));exact⟨v1,v2,(hk.keep m h6 fun hh=>h7 (hF m hh)).trans h1,h2,h3,h4,h5,aAZ h6 hk.next,h7,h8.mono k,h9.mono k⟩
theorem fD.not {m:Nat}{X:List Nat}(h:fD st m X L Lk):m∉X/\m<st.next:=by obtain⟨v1,v2,_,_,_,_,_,h6,h7,_⟩:=h;exact⟨h7,h6⟩
theorem Made.dM {x:CV}{ty:Nat}{l:List CV}{s s':St}(h:Made 2 ty l s x s'){X:List Nat}(hX:∀q∈X,q<s.next):Kp [] s s'/\Sl s' X x 2 l:=by
 obtain⟨F,h1,h2,h3⟩:=h;exact⟨h1,h2.sl fun b hb=>⟨fun hh=>by have:=hX b hh;have:=(h3 b hb).1;omega,(h3 b hb).2⟩⟩
theorem Iv (h:gO τ π st L Lk T N fr):iP L:=by
 obtain⟨⟨G,Gk,ht,hL,_⟩,_⟩:=h;exact hL.sorted
set_option maxHeartbeats 2000000 in
theorem anW {m n:Nat}{kd many:Int}{key val:List UInt8}(h:gO τ π st L Lk T N fr)(hm:fD st m (own τ π) L Lk)(hL:L.length<=n)(DA:Lk.length<=n)(hn:n<=1000)(hT:T<=900000000)(hN:N<=8000)(hv:val.length<=100000):
 R 15 [.ptr π.a 0, .ptr τ 0, .ptr m 0, .agg [I kd, .str key, .str val,I many]] st fun y st'=>∃τ',y= .tuple [.ptr τ' 0, .bool true, .bool false]/\Ij m π.a N (n+1) (T+10000) (m::own τ π) st τ' st':=by
 refine bN ?_;rw[w15,cn];refine⟨rfl, ?_⟩;rw[aX];generalize Gi:St.new st (.cells [I kd, .str key, .str val,I many] 31 false)=s1;have k1:Kp [] st s1:=by rw[<-Gi];exact(Kp.refl [] st).new _
 have g1:s1.mem.get st.next=some (.cells [I kd, .str key, .str val,I many] 31 false):=by rw[<-Gi];simp
 have n1:s1.next=st.next+1:=by rw[<-Gi];rfl
 have t1:=h.still k1;have m1:=hm.kp k1;have Y8:st.next∉own τ π:=fun hh=>by have:=h.yw _ hh;omega
 have box:∀s,Kp (own τ π) s1 s->s.mem.get st.next=some (.cells [I kd, .str key, .str val,I many] 31 false):=fun s hk=>(hk.keep _ (by omega) Y8).trans g1
 have f:∀(o:Nat) (x:CV) (s:St),Kp (own τ π) s1 s->[I kd, .str key, .str val,I many][o]?=some x->∀K:CV->Prop,K x->fl o (.ptr st.next 0) s K:=fun o x s hk hx K hK=>by
  unfold fl;rw[ah,af,aA,box s hk,aq,aAF,hx,av];exact hK
 have kx:∀{s:St},Kp (own τ π) s1 s->Kp (m::own τ π) st s:=fun hk=>(k1.mono (by simp)).trans hk fun q hq=> .inl (aBk _ hq);have same:∀b∈own τ π,b∈m::own τ π\/st.next<=b:=fun b hb=> .inl (aBk _ hb);have km:∀{s s':St},Kp (m::own τ π) st s->Kp [m] s s'->Kp (m::own τ π) st s':=fun h k=>h.trans k fun q hq=> .inl (by simp at hq;simp[hq])
 have news:∀{π':PI} {s:St},Kp [] s1 s->(∀b∈own τ π',b∈own τ π\/s.next<=b)->∀b∈own τ π',b∈m::own τ π\/st.next<=b:=fun hk hn b hb=>by
  rcases hn b hb with h|h
  ·exact .inl (aBk _ h)
  ·have:=hk.next;right;omega
 have ek:∀(c:Int) (s:St),aj .eql (some .int) true (I kd) (.int .i64 c) s= .ok (.bool (decide (kd=c))) s:=fun c s=>by rw[aw,cz]
 have XZ:∀s,aj .gtr none true (I key.length) (.int .i64 48) s= .ok (.bool (decide (48<key.length))) s:=fun s=>by rw[aw,dq];congr 2;simp only[aBc];omega
 have e00:∀s,aj .eql (some .int) true (I 0) (.int .i64 0) s= .ok (.bool true) s:=fun s=>rfl;refine kX (fun vs s=>∃τ' e,vs=[.ptr π.a 0, .ptr τ' 0,I e,I e]/\e≠20/\Ij m π.a N (n+1) (T+10000) (m::own τ π) st τ' s) ?_ ?_
 ·intro k2 kH;refine f 0 _ s1 (Kp.refl _ _) rfl _ ?_;rw[ek,af,ag]
  by_cases h0:kd=0
  ·rw[aAJ h0,aAI rfl,oN,g1,aq,rf];refine⟨by simp, ?_⟩;rw[aBg,aAK (by simp)];refine(Qb hv).mono ?_;rintro _ s4 ⟨k4,s,rfl,hs⟩;have t4:=t1.still k4;have m4:=m1.kp k4;refine(GG t4).same ?_;refine f 1 _ s4 (k4.mono (by simp)) rfl _ ?_;refine(ZM t4 key s).mono ?_;rintro y s6 hy;unfold Yf at hy;obtain⟨⟨kf,NA⟩,hy,fr',t6⟩:=hy;have m6:=m4.uf kf NA;have YB:Kp (own τ π) s1 s6:=(k4.mono (by simp)).trans kf fun q hq=> .inl hq;refine f 1 _ s6 YB rfl _ ?_;rw[fe,af,XZ,af]
   by_cases xF:48<key.length
   ·rw[aAI (.inl xF)]at hy t6;subst hy;simp only[aAJ xF,aH,aAU,aAz,aAO,cB,af,aG,aAY,ag];exact kH _ _ ⟨τ,1,rfl,by decide,π,_,_,_,_,rfl,t6,m6,by omega,by omega,by omega,kx YB,same⟩
   have e8:∀s',aj .gtr none true (I s.length) (.int .i64 8192) s'= .ok (.bool (decide (8192<s.length))) s':=fun s'=>by rw[aw,dq];congr 2;simp only[aBc];omega
   simp only[aAB xF,aH,aAT,bo,af,fe,e8,aG,aAO,aAz];rw[ag]
   by_cases h8:8192<s.length
   ·rw[aAI (.inr h8)]at hy t6;subst hy;rw[aAJ h8,aAI rfl];exact kH _ _ ⟨τ,1,rfl,by decide,π,_,_,_,_,rfl,t6,m6,by omega,by omega,by omega,kx YB,same⟩
   rw[aAB h8,aAH (by decide)];rw[aAH (by omega)]at hy t6;refine(QG (by omega)).same ?_
   have e24:aj .add none true (.int .i64 24) (I (dK s.length)) s6= .ok (I ((24+dK s.length:Nat):Int)) s6:=by
    have hp:dK s.length<=300:=by unfold dK;split<;>omega
    rw[aw,cE,bz (by omega)];congr 2
   rw[e24,af,dv,af,ag]
   by_cases iE:fr<24+dK s.length
   ·rw[aAI iE]at hy t6;subst hy;rw[aAJ iE,aAI rfl];exact kH _ _ ⟨τ,3,rfl,by decide,π,_,_,_,_,rfl,t6,m6,by omega,by omega,by omega,kx YB,same⟩
   rw[aAH iE]at hy t6;subst hy;rw[aAB iE,aAH (by decide)];have anV:aj .eql (some .int) true (I ((0:Nat):Int)) (.int .i64 0) s6= .ok (.bool true) s6:=rfl;rw[anV,af,ag,aAI rfl,bt];obtain⟨v1,v2,q1,q2,q3,q4⟩:=m6.get;refine q3 _ ?_;have g6:=box s6 YB;rw[ah,af,aA,g6,aq];show SW (some (CV.str key)) _;rw[av];refine(Z9 q1 (by omega) (Iv h) key s).mono ?_;intro x s8 hx;have WK:=t6.yw;have ND:=m6.not
   obtain⟨k8,Qv⟩:=hx.dM (X:=m::own τ π) fun q hq=>by
    rcases aAD.1 hq with h|h
    ·rw[h];exact ND.2
    ·exact WK q h
   refine fD.Qw (m6.kp k8) Qv (K:=fun s9=>((True/\True/\True)/\True/\k2 [.ptr π.a 0, .ptr τ 0,I ((0:Nat):Int), .int .i64 0] s9)) ?_;intro s9 k9 m9;refine⟨⟨trivial,trivial,trivial⟩,trivial, ?_⟩
   have t9:=(t6.still k8).off k9 fun b hb hh=>by
    have:b=m:=by simpa using hh
    subst this;exact ND.1 hb
   have hlen:=MH L key s;exact kH _ _ ⟨τ,0,rfl,by decide,π,_,_,_,_,rfl,t9,m9,by omega,by omega,by omega,km ((kx YB).trans k8 (by simp)) k9,same⟩
  ·rw[aAB h0,aAH (by decide),ek,af,ag]
   by_cases h1:kd=1
   ·rw[aAJ h1,aAI rfl];refine(GG t1).same ?_;refine f 1 _ s1 (Kp.refl _ _) rfl _ ?_;refine(ZP t1 key).mono ?_;rintro y s6 hy;unfold Yt at hy;obtain⟨⟨kf,NA⟩,hy,fr',t6⟩:=hy;have m6:=m1.uf kf NA;have WK:=t6.yw;have ND:=m6.not;have e52:aj .lss none true (I fr) (.int .i64 24) s6= .ok (.bool (decide (fr<24))) s6:=by rw[aw,cP];congr 2;simp only[aBc];omega
    have Fb:=OT L key
    have two:∀K:CV->St->Prop,(∀x s,Kp [] s6 s->Sl s (m::own τ π) x 2 (bZ (pj L key))->K (.tuple [x, .bool (kJ L key).isSome]) s)->bT (us (dH (.ptr m 0) s6) fun jn=>us (an 0 jn s6) fun lY=>us (aC lY s6) fun mF=>us (an 1 (.ptr st.next 0) s6) fun oz=>us (aC oz s6) fun lX=>R 58 [mF,lX] s6 K):=by
     intro K hK;obtain⟨v1,v2,q1,q2,q3,q4⟩:=m6.get;rw[bt];refine q3 _ ?_;rw[ah,af,aA,box s6 kf,aq];show SW (some (CV.str key)) _;rw[av];refine(adY q1 (by omega) (Iv h) key).mono ?_;rintro y s8 ⟨x,⟨rfl,k8,Qv⟩|⟨x,rfl,hx⟩⟩
     ·exact hK _ _ k8 Qv
     ·obtain⟨k8,Qv⟩:=hx.dM (X:=m::own τ π) fun q hq=>by
       rcases aAD.1 hq with h|h
       ·rw[h];exact ND.2
       ·exact WK q h
      exact hK _ _ k8 Qv
    by_cases xF:48<key.length
    ·rw[aAI xF]at hy t6;subst hy;rw[aD,af,aN,aD,af];refine two _ ?_;intro x s8 k8 Qv;rw[aD,af,aN,aD,af];refine⟨⟨trivial,trivial,trivial⟩,trivial, ?_⟩;refine f 1 _ s8 (kf.trans k8 (by simp)) rfl _ ?_;rw[fe,af,XZ,af,ag,aAJ xF,aAI rfl];exact kH _ _ ⟨τ,1,rfl,by decide,π,_,_,_,_,rfl,t6.still k8,m6.kp k8,by omega,by omega,by omega,(kx kf).trans k8 (by simp),same⟩
    rw[aAH xF]at hy t6
    by_cases iE:fr<24
    ·rw[aAI iE]at hy t6;subst hy;rw[aD,af,aN,aD,af];refine two _ ?_;intro x s8 k8 Qv;rw[aD,af,aN,aD,af];refine⟨⟨trivial,trivial,trivial⟩,trivial, ?_⟩;refine f 1 _ s8 (kf.trans k8 (by simp)) rfl _ ?_;have e52:aj .lss none true (I fr) (.int .i64 24) s8= .ok (.bool (decide (fr<24))) s8:=by rw[aw,cP];congr 2;simp only[aBc];omega
     rw[fe,af,XZ,af,ag,aAB xF,aAH (by decide),e52,af,ag,aAJ iE,aAI rfl];exact kH _ _ ⟨τ,3,rfl,by decide,π,_,_,_,_,rfl,t6.still k8,m6.kp k8,by omega,by omega,by omega,(kx kf).trans k8 (by simp),same⟩
    rw[aAH iE]at hy t6;subst hy;rw[aD,af,aN,aD,af];refine two _ ?_;intro x s8 k8 Qv;rw[aD,af,aN,aD,af];refine⟨⟨trivial,trivial,trivial⟩,trivial, ?_⟩;refine f 1 _ s8 (kf.trans k8 (by simp)) rfl _ ?_;have e52:aj .lss none true (I fr) (.int .i64 24) s8= .ok (.bool (decide (fr<24))) s8:=by rw[aw,cP];congr 2;simp only[aBc];omega
    rw[fe,af,XZ,af,ag,aAB xF,aAH (by decide),e52,af,ag,aAB iE,aAH (by decide),e00,af,ag,aAI rfl];have e54:aj .neq (some .bool) false (.bool (kJ L key).isSome) (.bool (kJ L key).isSome) s8= .ok (.bool false) s8:=by cases (kJ L key).isSome<;>rfl
    rw[e54,af,ag,aAH (by decide)];refine(m6.kp k8).Qw Qv ?_;intro s9 k9 m9
    have t9:=(t6.still k8).off k9 fun b hb hh=>by
     have:b=m:=by simpa using hh
     subst this;exact ND.1 hb
    exact kH _ _ ⟨τ,0,rfl,by decide,π,_,_,_,_,rfl,t9,m9,by omega,by omega,by omega,km ((kx kf).trans k8 (by simp)) k9,same⟩
   ·rw[aAB h1,aAH (by decide),ek,af,ag];have e03:∀s,aj .eql (some .int) true (I 0) (.int .i64 3) s= .ok (.bool false) s:=fun s=>rfl;have e33:∀s,aj .eql (some .int) true (I 3) (.int .i64 3) s= .ok (.bool true) s:=fun s=>rfl
    have ab:∀s,Kp [] s1 s->∀K:CV->St->Prop,(∀s',Ij m π.a N (n+1) (T+10000) (m::own τ π) st τ s'->K (I 0) s')->R 59 [.ptr τ 0] s fun x dj=>fm 1 (.ptr m 0) dj fun lW=>lz 1 0 (.ptr m 0) lW dj fun tP=>K x tP:=by
     intro s k4 K hK;refine(JM (t1.still k4)).mono ?_;rintro _ s6 ⟨rfl,π',fr',ea,⟨kf,NA⟩,t6⟩;have m6:=(m1.kp k4).uf kf NA;obtain⟨v1,v2,q1,q2,q3,q4⟩:=m6.get;refine q4 _ ?_;refine m6.Qw q2 ?_;intro s9 k9 m9;have ND:=m6.not
     have t9:=t6.off k9 fun b hb hh=>by
      have:b=m:=by simpa using hh
      subst this;exact ND.1 hb
     exact hK _ ⟨π',_,_,_,_,ea,t9,m9,by omega,by omega,by omega,km (kx ((k4.mono (by simp)).trans kf fun q hq=> .inl hq)) k9,news k4 NA⟩
    by_cases h4:kd=4
    ·rw[aAJ h4,aAI rfl];refine(GH t1 hT hN).mono ?_;rintro y s6 (⟨rfl,k6⟩|⟨rfl,π',ea,⟨kf,NA⟩,t6⟩)
     ·rw[e33,af,ag,aAI rfl];refine ab s6 k6 (fun x s=>k2 [.ptr π.a 0, .ptr τ 0,x, .int .i64 0] s) ?_;intro s' hd;exact kH _ _ ⟨τ,0,rfl,by decide,hd⟩
     ·rw[e03,af,ag,aAH (by decide),e00,af,ag,aAI rfl];have m6:=m1.uf kf NA;obtain⟨v1,v2,q1,q2,q3,q4⟩:=m6.get;refine q3 _ ?_;refine m6.aij q1 ?_;intro s9 k9 m9;have ND:=m6.not
      have t9:=t6.off k9 fun b hb hh=>by
       have:b=m:=by simpa using hh
       subst this;exact ND.1 hb
      exact kH _ _ ⟨τ,0,rfl,by decide,π',_,_,_,_,ea,t9,m9,by omega,by omega,by omega,km (kx kf) k9,news (Kp.refl _ _) NA⟩
    rw[aAB h4,aAH (by decide),ek,af,ag]
    by_cases h5:kd=5
    ·rw[aAJ h5,aAI rfl];refine ab s1 (Kp.refl _ _) (fun x s=>k2 [.ptr π.a 0, .ptr τ 0,x, .int .i64 0] s) ?_;intro s' hd;exact kH _ _ ⟨τ,0,rfl,by decide,hd⟩
    rw[aAB h5,aAH (by decide),ek,af,ag]
    by_cases h6:kd=6
    ·rw[aAJ h6,aAI rfl];refine(Ve t1 hT).mono ?_;rintro _ iK ⟨π',Gk,rfl,ea,hp,iE,Ap,XC,RW,hlen,Hy,fP,r,Gm,hr⟩;rw[aD,af,aN,aD,af]
     have mx:fD s1 m (own τ π++(r::π'.all)) L Lk:=m1.dM fun q hq=>by
      rcases aAM.1 hq with h|h
      ·exact .inl h
      ·rcases aAD.1 h with h|h
       ·right;omega
       ·rcases fP q h with h|h
        ·left;exact lQ (by unfold PI.all;simp[h])
        ·exact .inr h
     have my:=mx.mono Hy fun q hq=>aCt _ (lQ (by unfold PI.all;simp[hq]));obtain⟨v1,v2,q1,q2,q3,q4⟩:=my.get;refine q4 _ ?_;refine my.Qw q2 ?_;intro fy IZ m21;rw[e00,af,ag,aAI rfl];have hnm:=my.not.1;refine(SK (N:=N) (hp.keep IZ fun b hb hh=> ?_) (IZ.fresh iE) (Ap.keep IZ fun r' e hh=> ?_) XC RW hlen).mono ?_
     ·have:b=m:=by simpa using hh
      subst this;exact hnm (aCS _ (aBk _ hb))
     ·have:r'=m:=by simpa using hh
      subst this;rw[Gm]at e;cases e;exact hnm (by simp)
     rintro _ zX ⟨τ',rfl,hτ,VU,t22⟩
     have m22:=(m21.dM (Y:=own τ' π') fun q hq=>by
      unfold own at hq;rw[Gm]at hq;rcases aAD.1 hq with h|h
      ·right;omega
      ·left;rcases aAM.1 h with h|h
       ·have:q=r:=by simpa using h
        simp[this]
       ·exact aCS _ (aBk _ h)).kp VU
     refine kH _ _ ⟨τ',0,rfl,by decide,π',_,_,_,_,ea,t22,m22,by omega,by omega,by omega,(km (kx (Hy.mono fun q hq=> .inl (lQ (by unfold PI.all;simp[hq])))) IZ).trans VU (by simp),fun b hb=> ?_⟩;have n20:=Hy.next;have n21:=IZ.next;unfold own at hb;rw[Gm]at hb;rcases aAD.1 hb with h|h
     ·right;omega
     ·rcases aAM.1 h with h|h
      ·have:b=r:=by simpa using h
       right;omega
      ·rcases fP b h with h|h
       ·left;exact aBk _ (lQ (by unfold PI.all;simp[h]))
       ·right;omega
    rw[aAB h6,aAH (by decide)];exact kH _ _ ⟨τ,0,rfl,by decide,π,_,_,_,_,rfl,t1,m1,by omega,by omega,by omega,k1.mono (by simp),same⟩
 ·rintro _ s ⟨τ',e,rfl,he,hd⟩;simp only[aJ,aK];have e1:aj .eql (some .int) true (I e) (.int .i64 20) s= .ok (.bool false) s:=by rw[aw,cz,aAB he]
  have e2:aj .eql (some .int) false (I e) (I e) s= .ok (.bool true) s:=by rw[aw,cz,aAJ rfl]
  rw[e1,af,ag,aAH (by decide),e2,af];exact⟨τ',rfl,hd⟩
end
structure StepP where
 kind:Int
 key:List UInt8
 val:List UInt8
 many:Int
def wv (p:StepP):List CV:=[I p.kind, .str p.key, .str p.val,I p.many]
def wA (st:St)(v:CV)(S:List StepP):Prop:=(v= .ae/\S=[])\/∃b off cap,v= .slice b off S.length cap 0/\b<st.next/\∀i (h:i<S.length),∃l o,st.mem.get b=some (.ro l o)/\off+i*4+4<=l.length/\(l.drop (off+i*4)).take 4=wv S[i]
section
variable {st st':St}
theorem wA.len {v:CV}{S:List StepP}(h:wA st v S)(s:St):bh .slice v s= .ok (I S.length) s:=by
 rcases h with⟨rfl,rfl⟩|⟨b,off,cap,rfl,_⟩<;>rfl
theorem wA.at' {v:CV}{S:List StepP}(h:wA st v S){i:Nat}(hi:i<S.length):∃b p l o0,(∀s,cQ 4 v (I i) s= .ok (.ptr b p) s)/\b<st.next/\st.mem.get b=some (.ro l o0)/\ig l p 4=some (wv S[i])/\∀o x,(wv S[i])[o]?=some x->l[p+o]?=some x:=by
 rcases h with⟨rfl,rfl⟩|⟨b,off,cap,rfl,hb,pz⟩
 ·simp at hi
 ·obtain⟨l,o0,h1,h2,h3⟩:=pz i hi;refine⟨b,off+i*4,l,o0,fun s=>gf hi (.inl rfl) s,hb,h1, ?_,fun o x hx=> ?_⟩
  ·unfold ig;rw[aAI h2,h3]
  ·rw[<-h3,aCB]at hx
   split at hx
   ·rw[aDd]at hx;exact hx
   ·cases hx
def nG (v:CV):List Nat:=match v with| .slice b _ _ _ _=>[b]|_=>[]
theorem wA.keep {v:CV}{S:List StepP}(h:wA st v S){X:List Nat}(hk:Kp X st st')(hx:∀b∈nG v,b∉X):wA st' v S:=by
 rcases h with h|⟨b,off,cap,rfl,hb,pz⟩
 ·exact .inl h
 ·refine .inr ⟨b,off,cap,rfl,aAZ hb hk.next,fun i hi=> ?_⟩;obtain⟨l,o0,h1,h2,h3⟩:=pz i hi;exact⟨l,o0,(hk.keep b hb (hx b (by simp[nG]))).trans h1,h2,h3⟩
theorem wA.lt {v:CV}{S:List StepP}(h:wA st v S):∀b∈nG v,b<st.next:=by
 rcases h with⟨rfl,rfl⟩|⟨b,off,cap,rfl,hb,pz⟩
 ·simp[nG]
 ·intro q hq;simp[nG]at hq;omega
def StepP.size (p:StepP):Nat:=p.key.length+p.val.length
def SA (S:List StepP)(st:St)(y:CV)(st':St):Prop:=∃b,y= .bool b/\st'=st/\(b=false->S.length<=150/\∀p∈S,p.size<=40000)
theorem aaq {v:CV}{S:List StepP}(h:wA st v S)(hl:S.length<=9223372036854775807)(hb:∀p∈S,p.size<=281474976710656):R 9 [v] st (SA S st):=by
 refine bN ?_;rw[w9,cN];simp only[aJ,aK];refine bK (fun fu vs s=>∃(i:Nat) (n:Int),fu+i=S.length/\vs=[v,I n,I i]/\s=st/\(i<=150->0<=n/\n<=i*281474976710656/\∀p∈S.take i,(p.size:Int)<=n)) ?_ (n:=S.length) ⟨0,0,rfl,rfl,rfl,fun _=>⟨by omega,by omega,by simp⟩⟩;rintro fu vs s K ⟨i,n,hi,rfl,rfl,hI⟩ next;simp only[aJ,aK];have e5:aj .lss none false (I i) (I S.length) s= .ok (.bool (decide (i<S.length))) s:=by rw[aw,cP];congr 2;simp only[aBc];omega
 rw[h.len,af,e5,af,ag]
 by_cases hc:i<S.length
 ·rw[aAJ hc,aAI rfl,bt];obtain⟨b,p,l,o0,q1,q2,q3,q4,q5⟩:=h.at' hc;have a1:=q5 1 (.str S[i].key) rfl;have a2:=q5 2 (.str S[i].val) rfl;rw[q1,af,ah,af,aA,q3,Cr,a1,av,fe,af];have Zn:aj .add none false (I n) (I S[i].key.length) s= .ok (I (IntKind.i64.wrap (n+S[i].key.length))) s:=by rw[aw,cE]
  rw[Zn,af,af,ah,af,aA,q3,Cr,a2,av,fe,af];have e16:aj .add none false (I (IntKind.i64.wrap (n+S[i].key.length))) (I S[i].val.length) s= .ok (I (IntKind.i64.wrap (IntKind.i64.wrap (n+S[i].key.length)+S[i].val.length))) s:=by rw[aw,cE]
  rw[e16,af];refine⟨⟨trivial,trivial,trivial⟩,trivial, ?_⟩;have Zm:aj .add none true (I i) (.int .i64 1) s= .ok (I ((i+1:Nat):Int)) s:=by rw[aw,cE,bz (by omega)];congr 2
  rw[Zm,af];refine next (fu-1) _ _ (by omega) ⟨i+1,_,by omega,rfl,rfl,fun R6=> ?_⟩;obtain⟨i1,i2,i3⟩:=hI (by omega);have hsz:S[i].key.length+S[i].val.length<=281474976710656:=hb _ (aAW hc);rw[bz (x:=n+S[i].key.length) (by omega),bz (by omega)];refine⟨by omega,by omega,fun p hp=> ?_⟩;rw[aAR hc,aAM]at hp;rcases hp with hp|hp
  ·have:=i3 p hp;omega
  ·have:p=S[i]:=by simpa using hp
   subst this;unfold StepP.size;omega
 ·rw[aAB hc,aAH (by decide)];have hie:i=S.length:=by omega
  subst hie;have e19:aj .gtr none true (I S.length) (.int .i64 150) s= .ok (.bool (decide (150<S.length))) s:=by rw[aw,dq];congr 2;simp only[aBc];omega
  have e21:aj .gtr none true (I n) (.int .i64 40000) s= .ok (.bool (decide (40000<n))) s:=by rw[aw,dq]
  rw[af,e19,af,aH]
  by_cases R6:150<S.length
  ·simp only[aAJ R6,aAU,aAz,aAO,cB,af,aG,aAY];exact⟨true,rfl,rfl,fun h=>by cases h⟩
  ·simp only[aAB R6,aAT,aAz,aAO,bo,af,aG,e21];refine⟨_,rfl,rfl,fun h=>⟨by omega,fun p hp=> ?_⟩⟩;obtain⟨i1,i2,i3⟩:=hI (by omega);rw[aAK (by omega)]at i3;have:=i3 p hp;have h:¬40000<n:=by simpa using h
   omega
end
theorem Vs:∀(n:Nat) (l:List Nat),l.Nodup->(∀x∈l,x<n)->l.length<=n:=by
 intro n
 induction n with
 |zero=>
  intro l _ h;cases l with
  |nil=>simp
  |cons a r=>exact absurd (h a (by simp)) (by omega)
 |succ n ih=>
  intro l hn h
  by_cases hm:n∈l
  ·have:=ih (l.erase n) (hn.erase n) fun x hx=>by
    have h1:=(hn.mem_erase_iff).1 hx;have:=h x h1.2;omega
   rw[List.length_erase_of_mem hm]at this;omega
  ·have:=ih l hn fun x hx=>by
    have:=h x hx;have:x≠n:=fun e=>hm (e▸hx);omega
   omega
section
variable {τ:Nat} {π:PI} {st st':St} {L Lk:List bA} {T N fr:Nat}
theorem gO.Se (h:gO τ π st L Lk T N fr):fr<=N:=by
 obtain⟨⟨G,Gk,ht,hL,hk,DA,qz,rfl⟩,hc,hl⟩:=h;obtain⟨⟨base,last,P,Ls,r,hok,_⟩,_⟩:=hk;have h1:π.D.ay.length-1-π.D.ay.length/4=Gk.aE:=hok.rep.aE;have h2:=Vs G.used G.fr hL.ok.nd fun x hx=>(hL.ok.fr x hx).2;have h3:=hL.ok.jv;unfold GM.cJ;omega
theorem ZO (h:gO τ π st L Lk T N fr):R 18 [.ptr π.a 0] st fun v st'=>v=I N/\st'=st:=by
 obtain⟨⟨G,Gk,ht,hL,hk,DA,qz,rfl⟩,hc,hl⟩:=h;obtain⟨M,h1,h2,h3,_⟩:=ht.pg;rw[<-hl];exact tX h3
def Sy (mu:St)(v:CV)(S:List StepP)(N:Nat)(fu:Nat)(vs:List CV)(s:St):Prop:=∃(i τ m:Nat) (π:PI) (L Lk:List bA) (T fr:Nat),fu+i=S.length/\vs=[v, .ptr π.a 0, .ptr τ 0, .ptr m 0,I i]/\gO τ π s L Lk T N fr/\fD s m (own τ π) L Lk/\L.length<=i/\Lk.length<=i/\T<=10000*i/\wA s v S/\(∀b∈nG v,b∉m::own τ π)/\∀b∈nG v,s.mem.get b=mu.mem.get b
set_option maxHeartbeats 2000000 in
theorem Vr {v:CV}{S:List StepP}(h:wA st v S)(hf:cY st)(hl:S.length<=9223372036854775807)(hb:∀p∈S,p.size<=281474976710656)(Iz:Int):R 4 [I Iz,v] st fun y st'=>y= .bool true/\∀b∈nG v,st'.mem.get b=st.mem.get b:=by
 refine bN ?_;rw[w4];refine(aaq h hl hb).mono ?_;rintro _ _ ⟨b,rfl,rfl,hsz⟩;rename_i st;rw[ag];cases b with
 |true=>exact⟨rfl,fun _ _=>rfl⟩
 |false=>
  rw[aAH (by decide)];obtain⟨R6,h40⟩:=hsz rfl;obtain⟨n,hn,hK⟩:=Z6 Iz 1000 (by omega) (by omega);refine hK st _ ?_;have e5:aj .add none true (.int .i64 64) (I n) st= .ok (I ((64+n:Nat):Int)) st:=by rw[aw,cE,bz (by omega)];congr 2
  rw[e5,af];refine(Sd (by omega) (by omega) hf).mono ?_;rintro _ s2 ⟨π,τ,fr,rfl,k2,CJ,ht⟩;rw[aD,af,aN,aD,af,aN,aN,aD,af,cU,af,ag,aAH (by decide)];have mC:bD [.ae, .ae] [] s2= .ok (.agg [.ae, .ae]) s2:=rfl;rw[mC,af,cn];refine⟨rfl, ?_⟩;rw[aX,cN];simp only[aJ,aK];generalize LC:St.new s2 (.cells [.ae, .ae] 47 false)=s3;have k3:Kp [] s2 s3:=by rw[<-LC];exact(Kp.refl [] s2).new _
  have n3:s3.next=s2.next+1:=by rw[<-LC];rfl
  have g3:s3.mem.get s2.next=some (.cells [.ae, .ae] 47 false):=by rw[<-LC];simp
  have aks:=ht.yw;have KC:=h.lt;have n2:=k2.next
  have yV:∀b∈nG v,b∉s2.next::own τ π:=fun b hb hh=>by
   have h1:=KC b hb;rcases aAD.1 hh with h2|h2
   ·omega
   ·have:=CJ b h2;omega
  refine bK (Sy st v S (64+n)) ?_ (n:=S.length) ⟨0,τ,s2.next,π,[],[],0,fr,rfl,rfl,ht.still k3,⟨.ae, .ae,g3,rfl,rfl,rfl,rfl,by omega,fun hh=>by have:=aks _ hh;omega, .inl ⟨rfl,rfl⟩, .inl ⟨rfl,rfl⟩⟩,by simp,by simp,by omega,(h.keep k2 (by simp)).keep k3 (by simp),yV,fun b hb=>(k3.keep b (by have:=KC b hb;omega) (by simp)).trans (k2.keep b (KC b hb) (by simp))⟩;rintro fu vs s K ⟨i,τ,m,π,L,Lk,T,fr,hi,rfl,ht,hm,hL,DA,hT,hA,Y8,Gv⟩ next;simp only[aJ,aK];rw[hA.len,af,dv,af,ag]
  by_cases hc:i<S.length
  ·rw[aAJ hc,aAI rfl];obtain⟨b,p,l,o0,q1,q2,q3,q4,q5⟩:=hA.at' hc;have hsz:S[i].key.length+S[i].val.length<=40000:=h40 _ (aAW hc);unfold iT;rw[q1,af,oN,q3,Cr,q4,MU];refine(anW (n:=i) ht hm hL DA (by omega) (by omega) (by omega) (by omega)).mono ?_;rintro _ s6 ⟨τ',rfl,π',L',Lk',T',fr',ea,wV,zO,hL',XC,hT',Bi,ji⟩;rw[aD,af,aN,aD,af,aN,aN,aD,af,bt];have Gw:=hA.keep Bi Y8;obtain⟨b',p',l',o1,r1,r2,r3,r4,r5⟩:=Gw.at' hc;have r6:=r5 1 (.str S[i].key) rfl;obtain⟨v1,v2,u1,u2,u3,u4⟩:=zO.get;rw[dm,af,aH];simp only[aAU,aAz,aAO,aAT,bo,fh];rw[af,af];refine u3 _ ?_;rw[af,af,r1,af,ah,af,aA,r3,Cr,r6,av];refine(Mh wV u1 (by omega) S[i].key).mono ?_;rintro _ s7 ⟨rfl,k7⟩;rw[dm,af,aG,aAH (by decide),af,aAU,aH];simp only[aAz,aAO,aAT,bo,fh];rw[af];have t7:=wV.still k7;refine(GG t7).same ?_;rw[af,<-ea];refine(ZO t7).same ?_
   have e42:aj .gtr none false (I fr') (I ((64+n:Nat):Int)) s7= .ok (.bool false) s7:=by
    rw[aw,dq]
    congr 2
    rw[aDb];have:=t7.Se;omega
   rw[e42,af,aG,aAH (by decide),af];refine⟨⟨trivial,trivial,trivial⟩,trivial, ?_⟩;rw[ag,aAH (by decide),gF i (by omega),af];refine next (fu-1) _ _ (by omega) ⟨i+1,τ',m,π',L',Lk',T',fr',by omega,rfl,t7,zO.kp k7,hL',XC,by omega,Gw.keep k7 (by simp),fun q hq hh=> ?_,fun q hq=> ?_⟩;rcases aAD.1 hh with h2|h2
   ·exact Y8 q hq (by simp[h2])
   ·rcases ji q h2 with h3|h3
    ·exact Y8 q hq h3
    ·have:=hA.lt q hq;omega
   ·exact(k7.keep q (Gw.lt q hq) (by simp)).trans ((Bi.keep q (hA.lt q hq) (Y8 q hq)).trans (Gv q hq))
  ·rw[aAB hc,aAH (by decide)];exact⟨trivial,Gv⟩
end
