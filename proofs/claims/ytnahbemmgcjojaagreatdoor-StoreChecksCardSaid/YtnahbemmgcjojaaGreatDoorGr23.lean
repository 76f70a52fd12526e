import Derived.Test.YtnahbemmgcjojaaGreatDoorGr22
import Derived.Test.YtnahbemmgcjojaaGreatDoorGr18
namespace Lim
open Go
noncomputable section
set_option maxRecDepth 100000
abbrev eH:=Nat×ij
def Pp (e:eH):List UInt8:=uv e.1++(uv (mq e.2).length++mq e.2)
def og (l:List eH):List UInt8:=(l.map Pp).flatten
theorem uy (e:eH)(l:List eH):og (e::l)=uv e.1++(uv (mq e.2).length++(mq e.2++og l)):=by unfold og Pp;simp
theorem GA (e:eH)(l:List eH):og (e::l)≠[]:=by
 rw[uy];intro h;have:=CU e.1;have h2:=congrArg List.length h;simp at h2;have h3:(uv e.1).length=0:=by rw[h2.1];rfl
 omega
theorem ui (l:List UInt8):mq l++List.replicate (l.length-(mq l).length) 0=l:=by
 have key:∀m:List UInt8,(m.dropWhile (fun b=>b==0)).length<=m.length/\List.replicate (m.length-(m.dropWhile (fun b=>b==0)).length) 0++m.dropWhile (fun b=>b==0)=m:=by
  intro m
  induction m with
  |nil=>simp
  |cons b m ih=>
   rw[List.dropWhile_cons]
   by_cases h:b=0
   ·subst h;simp only[beq_self_eq_true,ags,agT];refine⟨by omega, ?_⟩;rw[show m.length+1-(m.dropWhile (fun b=>b==0)).length=(m.length-(m.dropWhile (fun b=>b==0)).length)+1 by omega,agQ,List.cons_append,ih.2]
   ·rw[agf (by simpa using h)];simp
 have:=(key l.reverse).2;have h2:=congrArg List.reverse this;rw[List.reverse_append,List.reverse_reverse,List.reverse_replicate,List.length_reverse]at h2;unfold mq;rw[List.length_reverse];exact h2
theorem Bl (l:List UInt8):(mq l).length<=l.length:=by
 have:=congrArg List.length (ui l);rw[agq,agr]at this;omega
def tI (d:List eH)(l:List eH):List eH:=l.foldl (fun d e=>oR d e.1 e.2) d
def cG (d:List eH)(Ls:List (List eH)):List eH:=Ls.foldl tI d
theorem vE (d:List eH)(Ls:List (List eH))(l:List eH):cG d (Ls++[l])=tI (cG d Ls) l:=by unfold cG;rw[List.foldl_append];rfl
theorem By (d:List eH)(l:List eH)(e:eH):tI d (l++[e])=oR (tI d l) e.1 e.2:=by unfold tI;rw[List.foldl_append];rfl
section
variable {st st':St} {p a:Nat} {lg:CV} {M:bY} {bd bn bi bc:Nat} {F:List Nat} {D:aW}
theorem jr.at {G:List Nat}{vs:List CV}{L:List (List UInt8)}(h:jr st G vs L){i:Nat}(hi:i<L.length):∃gK:i<vs.length,ky st G vs[i] 1 (aj L[i]):=by
 induction vs generalizing L i with
 |nil=>cases L with|nil=>simp at hi|cons l L=>exact h.elim
 |cons v vs ih=>
  cases L with
  |nil=>exact h.elim
  |cons l L=>
   cases i with
   |zero=>exact⟨by simp,h.1⟩
   |succ i=>
    obtain⟨a,b⟩:=ih h.2 (by simpa using hi);exact⟨by simpa using a,b⟩
theorem kz.keep {x:CV}{L:List (List UInt8)}{Fo G X:List Nat}(h:kz st x L Fo G)(hk:Kp X st st')(h1:∀b∈Fo,b∉X)(h2:∀b∈G,b∉X):kz st' x L Fo G:=by
 obtain⟨vs,a,b,c,d,e⟩:=h;exact⟨vs,a.keep hk fun q hq=>⟨c q hq,h1 q hq⟩,b.keep hk h2,fun q hq=>ago (c q hq) hk.next,fun q hq=>ago (d q hq) hk.next,e⟩
theorem Bw (h:dy st p a lg M bd bn bi bc){x:CV}{Ls:List (List eH)}{Fo G:List Nat}(hx:kz st x (Ls.map og) Fo G)(th:∀b∈Fo,b≠bd)(hG:∀b∈G,b≠bd)(hLs:∀l∈Ls,∀e∈l,e.1<M.bE/\e.2.length=512)(hsz:∀l∈Ls,(og l).length<=1000000)(hn:Ls.length<=1000000)(IM:M.bE<=1000000):
 R 59 [.ptr p 0,x] st fun v st'=>v= .bool true/\Kp [bd] st st'/\dy st' p a lg {M with dirty:=cG M.dirty Ls} bd bn bi bc:=by
 refine bp ?_;rw[Zs];have Ho:=hx;obtain⟨vs0,hv1,hv2,hv3,hv4,hv5⟩:=hx;have Th:vs0.length=Ls.length:=by have:=hv2.len;rw[agM]at this;exact this
 have hlen:=fun s=>(hv1.sl (X:=[]) fun b hb=>⟨by simp,hv3 b hb⟩).len Ls.length (by omega) (by omega) s;rw[bP,hlen,ae];simp only[aI,aJ];refine bA (fun fu vs s=>∃i,fu+i=Ls.length/\vs=[.ptr p 0,x,I Ls.length,I i]/\Kp [bd] st s/\dy s p a lg {M with dirty:=cG M.dirty (Ls.take i)} bd bn bi bc/\kz s x (Ls.map og) Fo G) ?_ (n:=Ls.length) ⟨0,rfl,rfl,Kp.refl _ _,h,Ho⟩;rintro fu vs s k ⟨i,hi,rfl,hk,hP,hR⟩ next;simp only[aI,aJ];rw[de,ae,ah]
 by_cases hc:i<Ls.length
 ·rw[agi hc,agl rfl];obtain⟨vs1,r1,r2,r3,r4,r5⟩:=hR;have abE:vs1.length=Ls.length:=by have:=r2.len;rw[agM]at this;exact this
  have lO:Sl s [] x 1 vs1:=r1.sl fun b hb=>⟨by simp,r3 b hb⟩;refine lO.idx (i:=i) (by omega) _ ?_;obtain⟨gK,NW⟩:=r2.at (i:=i) (by simpa using hc);rw[ahG]at NW;have On:=agx hc;rw[bP];refine(lK NW.nil (hsz _ On)).mono ?_;rintro _ eD ⟨r,Fr,rfl,uM,CA,Vp⟩;have Vm:=kz.keep ⟨vs1,r1,r2,r3,r4,r5⟩ uM (by simp) (by simp);have WN:=uM.next;simp only[aI,aJ];refine bA (fun Jm vs s'=>∃done rest,done++rest=Ls[i]/\Jm=rest.length/\vs=[.ptr p 0, .ptr r 0,x,I Ls.length,I i]/\Kp (bd::Fr) eD s'/\dy s' p a lg {M with dirty:=tI (cG M.dirty (Ls.take i)) done} bd bn bi bc/\jb s' r Fr (og rest)/\kz s' x (Ls.map og) Fo G) ?_ (n:=Ls[i].length) ⟨[],Ls[i],rfl,rfl,rfl,Kp.refl _ _,hP.keep uM (by simp),CA,Vm⟩;rintro Jm vs s4 k2 ⟨done,rest,ED,UO,rfl,hk2,O8,Ht,X9⟩ xO;simp only[aI,aJ];have OY:=h.lt bd (by simp);have CE:=hk.next;have EO:∀b∈Fr,st.next<=b:=fun b hb=>by have:=Vp b hb;omega
  refine(lD Ht).same ?_;simp only[aE,ags,aM,ae,bF];refine(A8 Ht).same ?_;cases rest with
  |nil=>
   rw[agi (show og []=[]from rfl)];simp only[bt,agm,ae,aF,ags,ah,afY,agn,gW i (by omega)];have he:=agI hc;refine next (fu-1) _ _ (by omega) ⟨i+1,by omega,rfl, ?_, ?_,X9⟩
   ·exact(hk.trans uM (by simp)).trans hk2 fun q hq=>by
     rcases age.1 hq with rfl|hq
     ·exact .inl (by simp)
     ·exact .inr (EO q hq)
   ·rw[he,vE,<-ED,ahc];exact O8
  |cons e rest=>
   obtain⟨n,sec⟩:=e;have OP:=hLs _ On (n,sec) (by rw[<-ED];simp);rw[agc (GA _ _)];have CD:=O8.main;have e1:=Bn M.bE (by omega) (by omega) s4 none;simp only[bt,agj,ae,aF,ags,ah,eN,aV,af,av,CD,ao,afZ,agb,afX,au,e1];rw[uy]at Ht;have OZ:∀b∈[p,bd,bn,bi,bc],b∉Fr:=fun b hb hh=>by have:=h.lt b hb;have:=EO b hh;omega
   refine(eE (m:=M.bE-1) Ht (by show n<=_;have:=OP.1;simp at this;omega) (by omega)).mono ?_;rintro _ s7 ⟨rfl,k7,n7,Sx⟩;have htl:=Bl sec;have wk:sec.length=512:=OP.2;refine(vC (m:=512) Sx (by show(mq sec).length<=_;omega) (by omega)).mono ?_;rintro _ s8 ⟨rfl,k8,n8,Sw⟩;refine(lD Sw).same ?_;simp only[bt,agm,ae,ah,afY,agn];have Qy:=(O8.keep k7 OZ).keep k8 OZ;rw[cn,bj];have kZ:Kp [] s8 (St.new s8 (.cells (zr 512) 152 false)):=(Kp.refl [] s8).new _;have MF:(St.new s8 (.cells (zr 512) 152 false)).mem.get s8.next=some (.cells (zr 512) 152 false):=aG _ _;have DY:(St.new s8 (.cells (zr 512) 152 false)).next=s8.next+1:=rfl;generalize St.new s8 (.cells (zr 512) 152 false)=cw at*;have El:bM 512 1 (.ptr s8.next 0) none none cw= .ok (.slice s8.next 0 512 512 0) cw:=rfl;rw[El,ae];obtain⟨cB,c1,c2,c3,c4⟩:=DL (b:=s8.next) (off:=0) (n:=512) (cap:=512) (d:=mq sec) MF (by omega) (by rw[mh];omega);rw[c1,bj,bG]
   have nj:bB (zr 512) 0 (aj (mq sec))=aj sec:=by
    unfold bB;rw[List.take_zero,agE,bJ,afZ,mi]
    conv=>rhs;rw[<-ui sec]
    rw[bq]
    congr 1
    unfold aj;rw[<-List.map_drop]
    congr 1
    rw[ahA,wk]
   rw[nj]at c3
   have pN:Kp [s8.next] cw cB:=⟨by omega,fun q h1 h2=>c4 q (by simpa using h2),fun hf q hq=>by
    have:q≠s8.next:=by omega
    rw[c4 q this];exact hf q (by omega)⟩
   have KE:∀b∈[p,bd,bn,bi,bc],b∉[s8.next]:=fun b hb=>by have:=Qy.lt b hb;simp;omega
   have qU:=(Qy.keep kZ (by simp)).keep pN KE;have Oo:=qU.main;obtain⟨blk,u1,u2,u3⟩:=IsMap.update qU.dirty n (.agg (aj sec));rw[Dn]at u2;have uS:(aj sec).length=512:=by simpa using wk
   simp only[Oo,ao,agb,afX,au];rw[aR (n:=512) c3 uS,ae,u1,bj];refine⟨⟨trivial,trivial,trivial⟩,trivial, ?_⟩;have mf:=h.nd;simp only[agF,age,agX,aic,ahO]at mf;have O0:=qU.lt bd (by simp);have xX:Kp [bd] cB (St.set cB bd blk):=(Kp.refl _ cB).set _ (.inl (by simp)) O0;have NH:Kp (bd::Fr) s4 (St.set cB bd blk):=((((k7.mono (by intro q hq;left;simp[hq])).trans k8 (by intro q hq;left;simp[hq])).trans kZ (by simp)).trans pN (by intro q hq;right;simp at hq;omega)).trans xX (by intro q hq;left;simp at hq;simp[hq]);have Pb:∀b∈Fr,b<s8.next:=fun b hb=>by obtain⟨_,_,_,_,_,h3,_⟩:=Sw;exact h3 b hb
   have HK:dy (St.set cB bd blk) p a lg {M with dirty:=tI (cG M.dirty (Ls.take i)) (done++[(n,sec)])} bd bn bi bc:=
    ⟨(aq _ _ _ _ (agZ (agZ mf.1.1))).trans Oo,by rw[By];exact u2,qU.now.mono (aq _ _ _ _ (agZ mf.2.1.1)),qU.idle.mono (aq _ _ _ _ (agZ mf.2.1.2.1)),qU.count.mono (aq _ _ _ _ (agZ mf.2.1.2.2)),h.nd,qU.lt,h.lgs⟩
   refine xO rest.length _ _ (by rw[UO];simp) ⟨done++[(n,sec)],rest,by rw[<-ED];simp,rfl,rfl,hk2.trans NH (fun q hq=> .inl hq),HK, ?_, ?_⟩
   ·exact((Sw.keep kZ (by simp)).keep pN fun b hb=>by have:=Pb b hb;simp;omega).keep xX fun b hb=>by have:=EO b hb;simp;omega
   ·exact X9.keep NH (fun b hb hh=>by
     rcases age.1 hh with rfl|hh
     ·exact th _ hb rfl
     ·have h1:=Vp b hh;obtain⟨_,_,_,q3,_,_⟩:=Ho;have:=q3 b hb;omega) (fun b hb hh=>by
     rcases age.1 hh with rfl|hh
     ·exact hG _ hb rfl
     ·have h1:=Vp b hh;obtain⟨_,_,_,_,q4,_⟩:=Ho;have:=q4 b hb;omega)
 ·rw[agc hc,agf (by decide)];have he:Ls.take i=Ls:=agk (by omega);rw[he]at hP;exact⟨trivial,hk,hP⟩
end
section
variable {st st':St}
def l6 (l:List Nat):List Nat:=l.mergeSort fun a b=>decide (a<=b)
theorem ob (l:List Nat):(l6 l).Perm l:=List.mergeSort_perm l _
theorem pR {l:List Nat}{n:Nat}:n∈l6 l↔n∈l:=(ob l).mem_iff
theorem xe {l:List Nat}(h:l.Nodup):(l6 l).Nodup:=(ob l).nodup_iff.2 h
theorem uo (l:List Nat):(l6 l).length=l.length:=(ob l).length_eq
theorem qF {es:List eK}{L:List (Nat×ij)}(h:cJ es (kH L)):gP es=(L.map (·.1)).map Int.ofNat/\(∀e∈es,∃n:Nat,n∈L.map (·.1)/\e.1=I n):=by
 induction es generalizing L with
 |nil=>cases L with
  |nil=>exact⟨rfl,by simp⟩
  |cons p r=>simp[cJ,kH]at h
 |cons e es ih=>cases L with
  |nil=>simp[cJ,kH]at h
  |cons p r=>
   have h':=h;simp only[cJ,kH,agH,ahM,ahI]at h';obtain⟨⟨a,b⟩,c⟩:=h';obtain⟨i1,i2⟩:=ih (L:=r) c;refine⟨?_, ?_⟩
   ·show(match e.1 with| .int _ a=>a|_=>0)::gP es=_;rw[a,i1];rfl
   ·intro x hx;rcases age.1 hx with rfl|hx
    ·exact⟨p.1,by simp,a⟩
    ·obtain⟨n,hn,e⟩:=i2 x hx;exact⟨n,by simp at hn⊢;exact .inr hn,e⟩
theorem pU (L:List (Nat×ij)):(kH L).map (·.1)=(L.map (·.1)).map Int.ofNat:=by unfold kH;simp
theorem qz {l:List Nat}(h:(l.map Int.ofNat).Nodup):l.Nodup:=by
 induction l with
 |nil=>simp
 |cons a l ih=>
  simp only[agH,agF]at h;exact agF.2 ⟨fun hh=>h.1 (ahy hh),ih h.2⟩
theorem IsMap.HP {b:Nat}{L:List (Nat×ij)}(h:IsMap st b (kH L))(hl:L.length<=1000000)(hk:∀n∈L.map (·.1),n<=1000000):∃es,cJ es (kH L)/\wz (st.mem.get b)=es/\pz (st.mem.get b) es/\mY es:=by
 have uO:=h.nd
 have HP:∀es,cJ es (kH L)->mY es:=fun es he=>by
  obtain⟨k1,k2⟩:=qF he;refine⟨fun e U0=> ?_,by rw[k1,<-pU];exact uO,by rw[he.len];unfold kH;simp;omega⟩;obtain⟨n,hn,e⟩:=k2 e U0;exact⟨n,e,by omega,by have:=hk n hn;omega⟩
 rcases h with⟨es,c,h1,h2,_,h4,h5⟩|⟨es,h1,h2,_⟩
 ·exact⟨es,h2,by rw[h1];rfl,by rw[h1];exact⟨rfl,h5,h4⟩,HP es h2⟩
 ·exact⟨es,h2,by rw[h1];rfl,by rw[h1];exact rfl,HP es h2⟩
theorem Hk {mb:Nat}:R 101 [.map mb] st fun v st'=>v= .func (.func 143) [] [.ptr st.next 0]/\st'.mem.get st.next=some (.cells [.map mb] 147 false)/\Kp [] st st'/\st'.next=st.next+1:=by
 refine bp ?_;rw[Sg];rw[br];refine⟨rfl, ?_⟩;rw[oX,ae];exact⟨rfl,aG _ _,(Kp.refl _ _).new _,rfl⟩
theorem Bp {mb bb:Nat}{t:TypeId}{g:Bool}{L:List (Nat×ij)}(hb:st.mem.get bb=some (.cells [.map mb] t g))(h:IsMap st mb (kH L))(hl:L.length<=1000000)(hk:∀n∈L.map (·.1),n<=1000000):
 R 100 [.func (.func 143) [] [.ptr bb 0]] st (Made 1 3 (fX (l6 (L.map (·.1)))) st):=by
 obtain⟨es,e1,e2,e3,e4⟩:=h.HP hl hk
 have hI:I0 100 [.func (.func 143) [] [.ptr bb 0]] st=some (oP 3 es st):=by
  show xg 143 3 [.func (.func 143) [] [.ptr bb 0]] st=_;unfold xg;simp only[hb];rw[e2,agl ⟨rfl,e3,e4⟩]
 have hlen:es.length=L.length:=by rw[e1.len];unfold kH;simp
 unfold oP at hI
 by_cases h0:es=[]
 ·rw[agl h0]at hI;refine Ij hI ?_;have:L=[]:=by rw[h0]at hlen;exact agu.1 hlen.symm
  subst this;exact⟨[],Kp.refl _ _, .inl ⟨rfl,by simp[l6,fX],rfl⟩,by simp⟩
 ·rw[agf h0]at hI;refine Ij hI ?_
  have hs:(jX (gP es)).map I=fX (l6 (L.map (·.1))):=by
   rw[(qF e1).1];unfold jX l6 fX;rw[<-List.map_mergeSort (r:=fun a b=>decide (a<=b)) (f:=Int.ofNat) (s:=fun a b=>decide (a<=b)) (fun a _ b _=>by simp)];rw[aid];rfl
  rw[hs];refine⟨[st.next],(Kp.refl [] st).new _, .inr (.inr ⟨st.next,es.length,rfl,ahQ.2 h0, ?_,rfl,aG _ _⟩),by simp⟩;rw[uL,uo,agM,hlen];omega
theorem uB {l:List (Nat×ij)}{n:Nat}:fq l n=none↔n∉l.map (·.1):=by
 induction l with
 |nil=>simp[fq]
 |cons p r ih=>simp only[fq,agH,age,ahO];split;simp_all;rw[ih];simp_all
end
def aW.lay (D:aW)(first:Nat)(l:List eH):aW:=l.foldl (fun D e=>(D.write (Int.ofNat (first+e.1)) e.2).2) D
theorem aW.xT (D:aW)(first:Nat)(l:List eH)(e:eH):D.lay first (l++[e])=((D.lay first l).write (Int.ofNat (first+e.1)) e.2).2:=by unfold aW.lay;rw[List.foldl_append];rfl
structure u7 (D:aW)(first:Nat)(l:List eH):Prop where
 calm:Calm (D.lay first l)
 BT:(D.lay first l).BT
 ar:(D.lay first l).ar=D.ar
 waits:(D.lay first l).waits=D.waits++l.map fun e=>(first+e.1,e.2)
 low:∀j,j<first->(D.lay first l).cur j=D.cur j
 other:∀n,n∉l.map (·.1)->(D.lay first l).cur (first+n)=D.cur (first+n)
 at_:(l.map (·.1)).Nodup->∀e∈l,(D.lay first l).cur (first+e.1)=e.2
 set:(D.lay first l).set=D.set
theorem u7.nil {D:aW}{first:Nat}(h:Calm D)(hw:D.BT):u7 D first []:=⟨h,hw,rfl,by simp[aW.lay],fun _ _=>rfl,fun _ _=>rfl,fun _ e he=>(by cases he),rfl⟩
theorem u7.snoc {D:aW}{first:Nat}{l:List eH}{e:eH}(hi:u7 D first l)(he:first+e.1<D.ar.length)(he2:e.2.length=512)(h0:((D.lay first l).write ((first+e.1:Nat):Int) e.2).1=0):u7 D first (l++[e]):=by
 have e1:D.lay first (l++[e])=((D.lay first l).write ((first+e.1:Nat):Int) e.2).2:=D.xT first l e
 rcases hi.calm.write (i:=first+e.1) (s:=e.2) (by rw[hi.ar];exact he) he2 hi.BT with⟨a1,a2,a3,a4,a5,a6,a7⟩|⟨a1,_⟩
 ·refine⟨by rw[e1];exact a2,by rw[e1];exact a4,by rw[e1,a3];exact hi.ar,by rw[e1,a5,hi.waits];simp,fun j hj=> ?_,fun n hn=> ?_,fun uO x hx=> ?_,by rw[e1,a7];exact hi.set⟩
  ·rw[e1,a6,agf (by omega)];exact hi.low j hj
  ·rw[e1,a6,agf (fun hh=>hn (by simp;exact .inr (by omega)))];exact hi.other n fun hh=>hn (by simp at hh⊢;exact .inl hh)
  ·rw[e1,a6];rw[ahp,ahz]at uO;rcases agz.1 hx with hx|hx
   ·have iJ:=uO.2.2 x.1 (ahy hx) e.1 (by simp);rw[agf (by omega)];exact hi.at_ uO.1 x hx
   ·have:x=e:=by simpa using hx
    subst this;rw[agl rfl]
 ·rw[a1]at h0;cases h0
def fN (d:List eH)(ks:List Nat):List eH:=ks.map fun n=>(n,(fq d n).getD [])
theorem qJ (d:List eH)(ks:List Nat):(fN d ks).map (·.1)=ks:=by unfold fN;rw[aid];exact List.map_id ks
theorem xC {d:List eH}{n:Nat}{s:ij}(h:fq d n=some s):(n,s)∈d:=by
 induction d with
 |nil=>cases h
 |cons p r ih=>
  simp only[fq]at h
  split at h
  ·rename_i hn;cases h;subst hn;exact aho
  ·exact agO _ (ih h)
section
variable {st st':St} {p a:Nat} {lg:CV} {M:bY} {bd bn bi bc:Nat} {F:List Nat} {D:aW}
def FE (p a:Nat)(M:bY)(bn bi bc:Nat)(F:List Nat)(D:aW)(base count:Nat)(P:Nat->cp)(st:St)(v:CV)(st':St):Prop:=
 v=I 0/\Kp (p::F) st st'/\∃r QI F' D',dy st' p a (.ptr r 0) {M with dirty:=[]} QI bn bi bc/\cV st' a F' D'/\Calm D'/\D'.waits=[]/\D'.ar.length=D.ar.length/\gj st' r a (RingM.opened 1 count base P)/\st.next<=r/\st.next<=QI/\r≠QI/\(∀b∈F',(b∈F\/st.next<=b)/\b≠r/\b≠QI)/\
  (∀j,D'.cur j=if j=0 then bS base else if j<M.first then D.cur j else (fq M.dirty (j-M.first)).getD (D.cur j))/\D'.set=D.set
structure PE (D:aW)(first:Nat)(dirty:List eH)(base:Nat)(D':aW):Prop where
 dead:D'.dead=true
 waits:D'.waits=[]
 len:D'.ar.length=D.ar.length
 cur:(∀j,D'.cur j=D.cur j\/∃n s,j=first+n/\fq dirty n=some s/\D'.cur j=s)\/((D'.cur 0=bS base\/D'.cur 0=D.cur 0)/\∀j,j≠0->D'.cur j=if j<first then D.cur j else (fq dirty (j-first)).getD (D.cur j))
def PM (a:Nat)(F:List Nat)(set:Bool)(S:aW->Prop)(st:St)(v:CV)(st':St):Prop:=v=I 20/\set=true/\∃F' D',cV st' a F' D'/\(∀b∈F',b∈F\/st.next<=b)/\S D'
theorem zs (h:dy st p a lg M bd bn bi bc)(hd:cV st a F D)(hc:Calm D)(hw:D.waits=[])(yd:dw st)(hF:∀b∈F,b∉[p,bd,bn,bi,bc])(B6:M.dirty.length<=1000000)(KW:∀e∈M.dirty,e.1<M.bE/\e.2.length=512)(EC:M.first+M.bE=D.ar.length)(UT:M.first=1+D.ar.length/4)(h4:4<=D.ar.length)
 {base:Nat} (hb:base<=1000000000) {P:Nat->cp} (hP:∀j,j<D.ar.length/4->D.cur (1+j)=(P j).bU/\(P j).ok):
 R 60 [.ptr p 0,I base] st fun v st'=>FE p a M bn bi bc F D base (D.ar.length/4) P st v st'\/(Kp F st st'/\PM a F D.set (PE D M.first M.dirty base) st v st'):=by
 refine bp ?_;rw[Zr];have hsz:=(show D.ar.length<=65536 from by obtain⟨_,_,_,_,_,_,_,h⟩:=hd;exact h.size);rw[bP];simp only[eN,aV,af,ae,av,h.main,ao,afZ,agb,afX,au];refine Hk.mono ?_;rintro _ eD ⟨rfl,ME,uM,WN⟩;have Pa:=h.keep uM (by simp);refine(Bp ME Pa.dirty B6 (fun n hn=> ?_)).mono ?_
 ·obtain⟨e,he,rfl⟩:=agJ.1 hn;have:=(KW e he).1;omega
 intro x ep IS;have yO:=IS.kp;have PH:=uM.trans yO (by simp);have HJ:=Pa.keep yO (by simp);have K0:=hd.keep PH (by simp);have n14:=PH.next;have ER:=hd.lt
 have IG:Sl ep (p::F) x 1 (fX (l6 (M.dirty.map (·.1)))):=IS.sl _ fun b hb=>by
  rcases age.1 hb with rfl|hb
  ·have:=h.lt b (by simp);omega
  ·have:=ER b hb;omega
 have acq:(l6 (M.dirty.map (·.1))).length=M.dirty.length:=by rw[uo,agM]
 have I5:=qz (by rw[<-pU];exact h.dirty.nd);have UC:=xe I5
 have Ex:∀n∈l6 (M.dirty.map (·.1)),∃s,fq M.dirty n=some s/\n<M.bE/\s.length=512:=fun n hn=>by
  rw[pR]at hn;cases hg:fq M.dirty n with
  |none=>exact absurd hn (uB.1 hg)
  |some s=>have:=KW _ (xC hg);exact⟨s,rfl,this.1,this.2⟩
 generalize CE:l6 (M.dirty.map (·.1))=ks at*;have hlen:=IG.len ks.length (by simp) (by omega) ep;rw[hlen,ae];simp only[aI,aJ];have hD0:D.BT:=by unfold aW.BT;rw[hw];simp
 refine bA (fun fu vs s=>∃i F1,fu+i=ks.length/\vs=[.ptr p 0,I base,x,I ks.length,I i]/\Kp F ep s/\cV s a F1 (D.lay M.first (fN M.dirty (ks.take i)))/\(∀b∈F1,b∈F\/ep.next<=b)/\u7 D M.first (fN M.dirty (ks.take i))) ?_ (n:=ks.length) ⟨0,F,rfl,rfl,Kp.refl _ _,K0,fun b hb=> .inl hb, .nil hc hD0⟩;rintro fu vs s k ⟨i,F1,hi,rfl,hk,Qt,qW,hL⟩ next;simp only[aI,aJ];rw[de,ae,ah];have AX:=HJ.keep hk fun b hb hh=>hF b hh hb;have CD:=AX.main;have wq:=hk.next;have HC:=hk.fresh (PH.fresh yd)
 have wm:∀b∈[p,bd,bn,bi,bc],b∉F1:=fun b hb hh=>by
  rcases qW b hh with h1|h1
  ·exact hF b h1 hb
  ·have:=h.lt b hb;omega
 by_cases yQ:i<ks.length
 ·rw[agi yQ,agl rfl];refine((IG.oE (Y:=F) (by intro q hq;left;simp[hq])).mono hk).idx (i:=i) (by simpa using yQ) _ ?_;have e9:(fX ks)[i]'(by simpa using yQ)=I ks[i]:=by simp[fX]
  rw[e9];obtain⟨sec,hg,hnp,lO⟩:=Ex ks[i] (agx yQ);have wS:=IsMap.lookup AX.dirty (.agg (zr 512)) false ks[i] s rfl;rw[agf (by decide),rG,hg]at wS;simp only[ahe,ahF]at wS;simp only[aV,af,ae,av,afZ,CD,ao,agb,afX,au,wS];have yi:(aj sec).length=512:=by simpa using lO
  refine jw yi (bz _) ?_;have k4:=(Kp.refl [] s).dA (aj sec);have g4:(St.set (St.new s (.cells (zr 512) 152 false)) s.next (.cells (aj sec) 152 false)).mem.get s.next=some (.cells (aj sec) 152 false):=az _ _ _;have n4:(St.set (St.new s (.cells (zr 512) 152 false)) s.next (.cells (aj sec) 152 false)).next=s.next+1:=rfl;generalize St.set (St.new s (.cells (zr 512) 152 false)) s.next (.cells (aj sec) 152 false)=s4 at*;have O8:=AX.keep k4 (by simp);have hd4:=Qt.keep k4 (by simp);have Ug:=O8.main;have El:bM 512 1 (.ptr s.next 0) none none s4= .ok (.slice s.next 0 512 512 0) s4:=rfl;have e1:ai .add none false (I M.first) (I ks[i]) s4= .ok (I ((M.first+ks[i]:Nat):Int)) s4:=by rw[aA,cR,bN (by omega)];congr 2
  have Pe:=Qt.lt;have Kt:Sl s4 F1 (.slice s.next 0 512 512 0) 1 (aj sec):= .inr ⟨s.next,0,512,512,0,rfl,by simp[lO],⟨aga _, .inl rfl⟩, .inr ⟨fun hh=>by have:=Pe _ hh;omega,by omega,_,_,_,g4,by omega,by rw[agC,agk (by omega)]⟩⟩;simp only[bG,Ug,ao,agb,afX,au,e1,ae,El];have acM:(fN M.dirty (ks.take i)).length<=1000000:=by unfold fN;simp;omega
  refine(rv hd4 (i:=((M.first+ks[i]:Nat):Int)) (k4.fresh HC) (by rw[hL.waits,hw];simp;omega) Kt lO).mono ?_;rintro _ s5 ⟨rfl,k5,F2,KY,py⟩
  have OP:fN M.dirty (ks.take i)++[(ks[i],sec)]=fN M.dirty (ks.take (i+1)):=by
   rw[agI yQ];unfold fN;rw[ahp];simp[hg]
  rcases hL.calm.write (i:=M.first+ks[i]) (s:=sec) (by rw[hL.ar];omega) lO hL.BT with⟨w1,_⟩|⟨w1,w2,w3⟩
  ·rw[w1];have e2:ai .neq (some .int) true (I 0) (.int .i64 0) s5= .ok (.bool false) s5:=rfl;refine⟨⟨trivial,trivial,trivial⟩,trivial, ?_⟩;simp only[e2,ae,ah,afY,agn,gW i (by omega)];refine next (fu-1) _ _ (by omega) ⟨i+1,F2,by omega,rfl, ?_, ?_,fun b hb=> ?_, ?_⟩
   ·exact(hk.trans k4 (by simp)).trans k5 fun q hq=>qW q hq
   ·rw[<-OP,aW.xT];exact KY
   ·rcases py b hb with h1|h1
    ·exact qW b h1
    ·right;omega
   ·rw[<-OP];exact hL.snoc (by show M.first+ks[i]<_;omega) lO w1
  ·rw[w1];have e2:ai .neq (some .int) true (I 20) (.int .i64 0) s5= .ok (.bool true) s5:=rfl;refine⟨⟨trivial,trivial,trivial⟩,trivial, ?_⟩;simp only[e2,ae,ah,ags];rw[hL.set]at w2;rw[hL.ar,hL.waits,hw,agE]at w3;refine .inr ⟨?_,rfl,w2,F2,_,KY,fun b hb=> ?_,w3.dead,w3.waits,w3.len, .inl fun j=> ?_⟩
   ·exact(((PH.mono (by simp)).trans hk fun q hq=> .inl (by simp[hq])).trans k4 (by simp)).trans k5 fun q hq=>(qW q hq).imp (fun h=>by simp[h]) fun h=>by omega
   ·rcases py b hb with h1|h1
    ·exact(qW b h1).imp id fun h=>by omega
    ·right;omega
   ·rcases w3.cur j with h1|⟨w,h1,h2,h3⟩
    ·left;rw[h1,kU hw]
    ·right;rcases agz.1 h1 with h4|h4
     ·obtain⟨e,he,rfl⟩:=agJ.1 h4;unfold fN at he;obtain⟨n,hn,rfl⟩:=agJ.1 he;obtain⟨s',q1,_⟩:=Ex n (List.mem_of_mem_take hn);exact⟨n,s',h2.symm,q1,by rw[h3];show(fq M.dirty n).getD []=s';rw[q1];rfl⟩
     ·have:w=(M.first+ks[i],sec):=by simpa using h4
      subst this;exact⟨ks[i],sec,h2.symm,hg,h3⟩
 ·rw[agc yQ,agf (by decide)];have wR:ks.take i=ks:=agk (by omega);rw[wR]at Qt hL;have Q1:Kp F st s:=(PH.mono (by simp)).trans hk fun q hq=> .inl (by simp[hq]);have Ml:(D.lay M.first (fN M.dirty ks)).waits=(fN M.dirty ks).map fun e=>(M.first+e.1,e.2):=by rw[hL.waits,hw,agE]
  have hel:(fN M.dirty ks).length=ks.length:=by unfold fN;simp
  generalize Lp:D.lay M.first (fN M.dirty ks)=D1 at*;simp only[aV,af,ae,av,afZ,CD,ao,afX,au];refine(sF Qt (by rw[Ml];simp;omega)).mono ?_;rintro _ s6 ⟨rfl,k6,F2,wU,py⟩;have Ew:=hL.ar;rw[Lp]at Ew;have e2:∀s,ai .neq (some .int) true (I 0) (.int .i64 0) s= .ok (.bool false) s:=fun s=>rfl;have QF:∀s,ai .neq (some .int) true (I 20) (.int .i64 0) s= .ok (.bool true) s:=fun s=>rfl;have Lj:=AX.keep k6 wm;have hm6:=Lj.main;have HD:=k6.fresh HC;have n6:=k6.next
  have HL:∀b∈F2,b∈F\/ep.next<=b:=fun b hb=>by
   rcases py b hb with h1|h1
   ·exact qW b h1
   ·right;omega
  have Ob:∀b∈[p,bd,bn,bi,bc],b∉F2:=fun b hb hh=>by
   rcases HL b hh with h1|h1
   ·exact hF b h1 hb
   ·have:=h.lt b hb;omega
  have Q2:=Q1.trans k6 fun q hq=>(qW q hq).imp (fun h=>by simp[h]) fun h=>by omega
  have iA:=hL.set;rw[Lp]at iA;have Mu:=hL.calm.flush hL.BT;rw[Lp]at Mu;rcases Mu with⟨f1,f2,f3,f4,f5,f6⟩|⟨f1,f2,f3⟩
  case inr=>
   rw[f1];simp only[QF,ae,ah,ags];rw[iA]at f2;rw[Ew,Ml]at f3;refine .inr ⟨Q2,rfl,f2,F2,_,wU,fun b hb=>(HL b hb).imp id fun h=>by omega,f3.dead,f3.waits,f3.len, .inl fun j=> ?_⟩;rcases f3.cur j with h1|⟨w,h1,h2,h3⟩
   ·left;rw[h1,kU hw]
   ·right;obtain⟨e,he,rfl⟩:=agJ.1 h1;unfold fN at he;obtain⟨n,hn,rfl⟩:=agJ.1 he;obtain⟨s',q1,_⟩:=Ex n hn;exact⟨n,s',h2.symm,q1,by rw[h3];show(fq M.dirty n).getD []=s';rw[q1];rfl⟩
  generalize hD2:D1.flush.2=D2 at*;rw[f1];simp only[e2,ae,ah,afY,agn,hm6,ao,afX,au];refine(AV HD wU (by rw[f4];simp) (base:=base) (by omega)).mono ?_;rintro _ s7 ⟨rfl,k7,F3,EG,A5⟩;have AY:=Lj.keep k7 Ob;have Qm:=AY.main;have UQ:=k7.fresh HD;have n7:=k7.next
  have Cc:∀b∈F3,b∈F\/ep.next<=b:=fun b hb=>by
   rcases A5 b hb with h1|h1
   ·exact HL b h1
   ·right;omega
  have I8:∀j,j≠0->D2.cur j=if j<M.first then D.cur j else (fq M.dirty (j-M.first)).getD (D.cur j):=by
   intro j hj;rw[f5]
   by_cases UI:j<M.first
   ·rw[agl UI];have:=hL.low j UI
    rwa [Lp]at this
   ·rw[agf UI];obtain⟨n,rfl⟩:∃n,j=M.first+n:=⟨j-M.first,by omega⟩;rw[ahk];cases hg:fq M.dirty n with
    |none=>
     have:=hL.other n (by rw[qJ,<-CE,pR];exact uB.1 hg)
     rwa [Lp]at this
    |some s'=>
     have pw:(n,s')∈fN M.dirty ks:=by
      unfold fN;refine agJ.2 ⟨n, ?_,by rw[hg];rfl⟩;rw[<-CE,pR];exact agJ.2 ⟨_,xC hg,rfl⟩
     have:=hL.at_ (by rw[qJ];exact UC) _ pw;rw[Lp]at this;exact this
  have K8:D2.cur 0=D.cur 0:=by
   rw[f5];have:=hL.low 0 (by omega)
   rwa [Lp]at this
  have Q3:=Q2.trans k7 fun q hq=>(HL q hq).imp (fun h=>by simp[h]) fun h=>by omega
  rcases f2.head f4 (by rw[f3,Ew];omega) base with⟨g1,g2,g3,g4,g5,g6⟩|⟨g1,g2,g3⟩
  case inr=>
   rw[g1];simp only[QF,ae,ah,ags];refine .inr ⟨Q3,rfl,by rw[<-iA,<-f6];exact g2,F3,_,EG,fun b hb=>(Cc b hb).imp id fun h=>by omega,g3.dead,g3.waits,by rw[g3.len,f3,Ew], .inr ⟨?_,fun j hj=> ?_⟩⟩
   ·rcases g3.cur 0 with h1|⟨w,h1,h2,h3⟩
    ·right;rw[h1,<-kU f4,K8]
    ·have:w=(0,bS base):=by simpa using h1
     subst this;left;exact h3
   ·rcases g3.cur j with h1|⟨w,h1,h2,h3⟩
    ·rw[h1,<-kU f4,I8 j hj]
    ·have:w=(0,bS base):=by simpa using h1
     subst this;exact absurd h2.symm hj
  have px:∀j,(D2.head base).2.cur j=if j=0 then bS base else if j<M.first then D.cur j else (fq M.dirty (j-M.first)).getD (D.cur j):=by
   intro j;rw[g5]
   by_cases hj:j=0
   ·rw[agl hj,agl hj]
   ·rw[agf hj,agf hj];exact I8 j hj
  generalize hD3:(D2.head base).2=D3 at*;rw[g1];have BY:D3.ar.length=D.ar.length:=by rw[g3,f3,Ew]
  simp only[e2,ae,ah,afY,agn,bG,Qm,ao,afX,au];refine(kK EG).same ?_;rw[BY]
  have O6:mW D3 ⟨1,D.ar.length/4,base,base,base⟩ P:=⟨by show 0<D.ar.length/4;omega,by show 1+D.ar.length/4<=_;omega,by omega,by show base<=_;omega,fun j hj=>by
   have hj:j<D.ar.length/4:=hj;show D3.cur (1+j)=_/\_;rw[px,agf (by omega),agl (by omega)];exact hP j hj⟩
  refine(rJ UQ EG g2.dead O6 hb).mono ?_;rintro _ s9 ⟨r,xo,Fo,Gg,rfl,k9,po,AQ,th,hr⟩;have n9:=k9.next;have Ya:=AY.keep k9 (by simp);have hd9:=EG.keep k9 (by simp);have hm9:=Ya.main;rw[ay,ae,aL,ay,ae,aL,aL,ay,ae];refine⟨⟨⟨by rw[Qm];exact rfl,trivial⟩,trivial,trivial⟩,trivial, ?_⟩;rw[e2,ae,ah,agf (by decide),ft,bj];have kA:Kp [] s9 (St.new s9 (.map [] 0)):=(Kp.refl [] s9).new _;have mA:=dH.new s9;have nA:(St.new s9 (.map [] 0)).next=s9.next+1:=rfl;generalize St.new s9 (.map [] 0)=sA at*;have O7:=Ya.keep kA (by simp);have hdA:=hd9.keep kA (by simp);have hmA:=O7.main
  have xZ:∀{s:St} {l:List CV} {x:CV} {o:Nat} {K:St->Prop},s.mem.get p=some (.cells l 150 false)->x.bL=[x]->bW x=true->o<l.length->K (St.set s p (.cells (bB l o [x]) 150 false))->kh 1 o (.ptr p 0) x s K:=by
   intro s l x o K hg h1 h2 h3 hK;simp only[kh,aV,af,ae,aQ,hg,bg,h1,afZ];exact⟨⟨rfl,by simp[h2],h3⟩,hK⟩
  refine xZ hmA rfl rfl (by decide:(1:Nat)<16) ?_;refine xZ (az _ _ _) rfl rfl (by exact(by decide:(4:Nat)<16)) ?_;rw[nf];have nj:bB (bB [.ptr a 0,lg,I M.first,I M.bE, .map bd, .map bn,I M.kept.root,I M.kept.used,I M.kept.head,I M.kept.free,I M.m.root,I M.m.used,I M.m.head,I M.m.free, .map bi, .map bc] 1 [.ptr r 0]) 4 [.map s9.next]=[.ptr a 0, .ptr r 0,I M.first,I M.bE, .map s9.next, .map bn,I M.kept.root,I M.kept.used,I M.kept.head,I M.kept.free,I M.m.root,I M.m.used,I M.m.head,I M.m.free, .map bi, .map bc]:=rfl;rw[nj];have TM:=O7.lt p (by simp);have mf:=h.nd;simp only[agF,age,agX,aic,ahO]at mf;have kB:Kp [p] sA (St.set sA p (.cells [.ptr a 0, .ptr r 0,I M.first,I M.bE, .map s9.next, .map bn,I M.kept.root,I M.kept.used,I M.kept.head,I M.kept.free,I M.m.root,I M.m.used,I M.m.head,I M.m.free, .map bi, .map bc] 150 false)):=(Kp.refl _ sA).set _ (.inl (by simp)) TM;have Jg:=EG.lt
  have TP:∀b∈F3,b∉[p]:=fun b hb hh=>by
   have hh:b=p:=by simpa using hh
   subst hh;rcases Cc b hb with h1|h1
   ·exact hF b h1 (by simp)
   ·have:=h.lt b (by simp);omega
  have AR:=h.lt;have Qf:=AR p (by simp);have Er:=AR bn (by simp);have Qe:=AR bi (by simp);have Xv:=AR bc (by simp);have TA:=po.1;refine .inl ⟨rfl, ?_,r,s9.next,F3,D3,⟨az _ _ _, .inl (mA.mono (aq _ _ _ _ (by omega))),O7.now.mono (aq _ _ _ _ (agZ mf.1.2.1)),O7.idle.mono (aq _ _ _ _ (agZ mf.1.2.2.1)),O7.count.mono (aq _ _ _ _ (agZ mf.1.2.2.2)), ?_, ?_,⟨rfl,rfl,rfl⟩⟩,hdA.keep kB TP,g2,g4,BY, ?_,by omega,by omega,by omega,fun b hb=>⟨(Cc b hb).imp id fun h=>by omega, ?_, ?_⟩,px,g6.trans (f6.trans iA)⟩
  ·exact(((Q3.trans k9 (by simp)).trans kA (by simp)).mono fun q hq=> .inl (agO _ hq)).trans kB fun q hq=> .inl (by simp at hq;simp[hq])
  ·simp only[agF,age,agX,aic,ahO];exact⟨⟨by omega,mf.1.2.1,mf.1.2.2.1,mf.1.2.2.2⟩,⟨by omega,by omega,by omega⟩,mf.2.2⟩
  ·intro b hb;simp at hb;show b<sA.next;omega
  ·exact(po.keep kA (by simp)).keep kB (by simp;omega)
  ·have:=Jg b hb;omega
  ·have:=Jg b hb;omega
end
def j7 (first bE:Nat)(dirty:List eH)(kept:gE)(fr:List Nat):bY:=⟨first,bE,dirty,[],kept,kept,fr,[]⟩
theorem iI {first bE:Nat}{dirty:List eH}{kept:gE}{fr:List Nat}(D:aW)(n:Nat):(j7 first bE dirty kept fr).get D n=(fq dirty n).getD (D.cur (first+n)):=by
 unfold j7 bY.get;simp only[fq];cases fq dirty n<;>rfl
theorem Js.congr {M M':bY}{D D':aW}{G:GM}(h:Js M D G)(hg:∀n,n<M.bE->M'.get D' n=M.get D n)(h1:M'.bE=M.bE)(h2:M'.m=M.m)(h3:M'.idle=M.idle)(h4:M'.now=M.now)(h5:M'.count=M.count)(h6:M'.first=M.first)(h7:D'.ar.length=D.ar.length):Js M' D' G:=by
 have hm:=h.ok.kq;refine⟨h1.trans h.bE,by rw[h2];exact h.used,by rw[h2];exact h.root,by rw[h2];exact h.head,by rw[h2];exact h.free,by rw[h3];exact h.idle,by rw[h3];exact h.NM,h.ok,by rw[h6,h1,h7];exact h.fits,fun n hn=> ?_,fun n hn=> ?_, ?_,by rw[h4,h5];exact h.count,by rw[h5];exact h.LA,by rw[h5];exact h.Nt,h5.trans h.fc⟩
 ·rw[hg n (by rw[h.bE];omega)];exact h.len n hn
 ·rw[hg n (by rw[h.bE];have:=hn.2.1;omega)];exact h.cont n hn
 ·have key:∀l:List Nat,(∀n∈l,n<M.bE)->Il M D l->Il M' D' l:=by
   intro l
   induction l with
   |nil=>intro _ _;trivial
   |cons n r ih=>intro h1 h2;exact⟨(hg n (h1 n (by simp))).trans h2.1,ih (fun m hm=>h1 m (by simp[hm])) h2.2⟩
  exact key _ (fun n hn=>by rw[h.bE];have:=(h.ok.fr n hn).2;omega) h.chain
structure lY (D:aW)(Gk:GM)(base last:Nat)(P:Nat->cp)(Ls:List (List eH))(kept:gE):Prop where
 calm:Calm D
 waits:D.waits=[]
 least:64<=D.ar.length
 kq:D.ar.length<=65536
 head:D.cur 0=bS base
 kj:∀j,j<D.ar.length/4->D.cur (1+j)=(P j).bU/\(P j).ok
 laid:mX P (D.ar.length/4) base (Ls.map og) last
 le:∀j,j<D.ar.length/4->(P j).n<=last
 room:last<=base+D.ar.length/4
 zY:∀l∈Ls,∀e∈l,e.1<D.ar.length-1-D.ar.length/4/\e.2.length=512
 small:∀l∈Ls,(og l).length<=1000000
 rep:Js (j7 (1+D.ar.length/4) (D.ar.length-1-D.ar.length/4) (cG [] Ls) kept Gk.fr) D Gk
 zero:(j7 (1+D.ar.length/4) (D.ar.length-1-D.ar.length/4) (cG [] Ls) kept Gk.fr).get D 0=bZ kept
 root:kept.root<2147483648
theorem mX.count {P:Nat->cp}{count:Nat}:∀{rs:List (List UInt8)} {s e:Nat},mX P count s rs e->s+rs.length<=e:=by
 intro rs
 induction rs with
 |nil=>intro s e h;have h:e=s:=h;simp[h]
 |cons r rs ih=>intro s e h;have:=ih h.2;have:=jZ r.length;simp;omega
theorem DR {m:gE}(h1:m.root<4294967296)(h2:m.used<4294967296)(h3:m.head<4294967296)(h4:m.free<4294967296):GS (bZ m)=m:=by
 have e:bZ m=be 4 m.root++(be 4 m.used++(be 4 m.head++(be 4 m.free++List.replicate 496 0))):=by
  unfold bZ mN jn;generalize List.replicate 496 (0:UInt8)=z;simp only[agH,List.map_nil,ahr,List.flatten_nil,ahc,agv]
 have t:∀(n:Nat) (r:List UInt8),(be 4 n++r).take 4=be 4 n:=fun n r=>aht (gV 4 n);have d:∀(n:Nat) (r:List UInt8),(be 4 n++r).drop 4=r:=fun n r=>List.drop_left' (gV 4 n);unfold GS;rw[show 8=4+4 from rfl,show 12=4+(4+4)from rfl];simp only[<-List.drop_drop];rw[e,t,d,t,d,t,d,t,oD 4 _ (by omega),oD 4 _ (by omega),oD 4 _ (by omega),oD 4 _ (by omega)]
theorem lY.Nw {D:aW}{Gk:GM}{base last:Nat}{P:Nat->cp}{Ls:List (List eH)}{kept:gE}(h:lY D Gk base last P Ls kept):GS (bZ kept)=kept:=by
 have h1:=h.rep.ok.kq;have h2:=h.rep.ok.size;have h3:=h.rep.used;have h4:=h.rep.head;have h5:=h.rep.free;have yd:=rX Gk.used Gk.fr h.rep.ok.nd fun x hx=>(h.rep.ok.fr x hx).2
 have h6:Gk.fr.headD 0<=Gk.used:=by
  cases hf:Gk.fr with
  |nil=>simp
  |cons n r=>have:=(h.rep.ok.fr n (by rw[hf];simp)).2;simp;omega
 have h3:kept.used=Gk.used:=h3;have h4:kept.head=Gk.fr.headD 0:=h4;have h5:kept.free=Gk.fr.length:=h5;exact DR (by have:=h.root;omega) (by omega) (by omega) (by omega)
theorem lY.opened {D:aW}{Gk:GM}{base last:Nat}{P:Nat->cp}{Ls:List (List eH)}{kept:gE}(h:lY D Gk base last P Ls kept):hQ P (D.ar.length/4) (D.ar.length/4) base [] [] base=(Ls.map og,last)/\RingM.opened 1 (D.ar.length/4) base P=⟨1,D.ar.length/4,base,last,last⟩:=by
 have h0:0<D.ar.length/4:=by have:=h.least;omega
 have hn:(P ((last+1)%(D.ar.length/4))).n≠last+1:=by
  have:=h.le ((last+1)%(D.ar.length/4)) (Nat.mod_lt _ h0);omega
 have e:=Dw h.laid hn (D.ar.length/4) [] h.room;rw[agE]at e;refine⟨e, ?_⟩;unfold RingM.opened;rw[e,Am h.laid h0 h.le]
structure jR (D:aW)(Gk:GM)(base last top:Nat)(P:Nat->cp)(Ls:List (List eH))(kept:gE):Prop where
 waits:D.waits=[]
 least:64<=D.ar.length
 kq:D.ar.length<=65536
 head:D.cur 0=bS base
 kj:∀j,j<D.ar.length/4->D.cur (1+j)=(P j).bU/\(P j).ok
 Gz:hQ P (D.ar.length/4) (D.ar.length/4) base [] [] base=(Ls.map og,last)
 MX:iz P (D.ar.length/4) base (D.ar.length/4)=top
 le:∀j,j<D.ar.length/4->(P j).n<=top
 bl:base<=last
 lt:last<=top
 fc:Ls.length<=100000
 zY:∀l∈Ls,∀e∈l,e.1<D.ar.length-1-D.ar.length/4/\e.2.length=512
 small:∀l∈Ls,(og l).length<=1000000
 rep:Js (j7 (1+D.ar.length/4) (D.ar.length-1-D.ar.length/4) (cG [] Ls) kept Gk.fr) D Gk
 zero:(j7 (1+D.ar.length/4) (D.ar.length-1-D.ar.length/4) (cG [] Ls) kept Gk.fr).get D 0=bZ kept
 root:kept.root<2147483648
theorem lY.toK {D:aW}{Gk:GM}{base last:Nat}{P:Nat->cp}{Ls:List (List eH)}{kept:gE}(h:lY D Gk base last P Ls kept):jR D Gk base last last P Ls kept:=by
 have h1:=h.opened.1;have h2:=h.laid.count;rw[agM]at h2;have h3:=h.room;have h4:=h.kq;exact⟨h.waits,h.least,h.kq,h.head,h.kj,h1,Am h.laid (by have:=h.least;omega) h.le,h.le,h.laid.le.1,aga _,by omega,h.zY,h.small,h.rep,h.zero,h.root⟩
section
variable {D D':aW} {Gk:GM} {base last top:Nat} {P:Nat->cp} {Ls:List (List eH)} {kept:gE} {dirty:List eH}
theorem jR.opened (h:jR D Gk base last top P Ls kept):RingM.opened 1 (D.ar.length/4) base P=⟨1,D.ar.length/4,base,last,top⟩:=by
 unfold RingM.opened;rw[h.Gz,h.MX]
theorem jR.none (h:jR D Gk base last top P Ls kept):hQ P (D.ar.length/4) (D.ar.length/4) top [] [] top=([],top)/\iz P (D.ar.length/4) top (D.ar.length/4)=top:=by
 have Vt:=h.least;have hn:=h.le ((top+1)%(D.ar.length/4)) (Nat.mod_lt _ (by omega));constructor
 ·obtain⟨f,hf⟩:∃f,D.ar.length/4=f+1:=⟨D.ar.length/4-1,by omega⟩
  have e:hQ P (D.ar.length/4) (f+1) top [] [] top=([],top):=by
   rw[hQ,agf (by omega)]
  rw[<-hf]at e;exact e
 ·refine Nat.le_antisymm (vi P _ top top (aga _) h.le _ (aga _)) ?_;exact pP P _ top 0 _ (Nat.zero_le _)
theorem jR.settled (h:jR D Gk base last top P Ls kept)(hd:∀n,fq dirty n=fq (cG [] Ls) n)(hc:Calm D')(hw:D'.waits=[])(hl:D'.ar.length=D.ar.length)
 (px:∀j,D'.cur j=if j=0 then bS top else if j<1+D.ar.length/4 then D.cur j else (fq dirty (j-(1+D.ar.length/4))).getD (D.cur j)):lY D' Gk top top P [] kept:=by
 have hg:∀n,(j7 (1+D.ar.length/4) (D.ar.length-1-D.ar.length/4) [] kept Gk.fr).get D' n=(j7 (1+D.ar.length/4) (D.ar.length-1-D.ar.length/4) (cG [] Ls) kept Gk.fr).get D n:=fun n=>by
  rw[iI,iI,px,agf (by omega),agf (by omega),ahk,hd];rfl
 refine⟨hc,hw,by rw[hl];exact h.least,by rw[hl];exact h.kq,by rw[px,agl rfl],fun j hj=> ?_,rfl,by rw[hl];exact h.le,by omega,by simp,by simp, ?_, ?_,h.root⟩
 ·rw[hl]at hj;rw[px,agf (by omega),agl (by omega)];exact h.kj j hj
 ·rw[hl];exact h.rep.congr (fun n _=>hg n) rfl rfl rfl rfl rfl rfl hl
 ·rw[hl];exact(hg 0).trans h.zero
theorem jR.to (h:jR D Gk base last top P Ls kept)(hw:D'.waits=[])(hl:D'.ar.length=D.ar.length)(h0:D'.cur 0=D.cur 0)(h1:∀j,j<D.ar.length/4->D'.cur (1+j)=D.cur (1+j))
 (h2:∀n,fq (cG [] Ls) n=Option.none->D'.cur (1+D.ar.length/4+n)=D.cur (1+D.ar.length/4+n)):jR D' Gk base last top P Ls kept:=by
 have hg:∀n,(j7 (1+D.ar.length/4) (D.ar.length-1-D.ar.length/4) (cG [] Ls) kept Gk.fr).get D' n=(j7 (1+D.ar.length/4) (D.ar.length-1-D.ar.length/4) (cG [] Ls) kept Gk.fr).get D n:=fun n=>by
  rw[iI,iI];cases hp:fq (cG [] Ls) n with
  |none=>rw[h2 n hp]
  |some s=>rfl
 refine⟨hw,by rw[hl];exact h.least,by rw[hl];exact h.kq,h0.trans h.head,fun j hj=> ?_,by rw[hl];exact h.Gz,by rw[hl];exact h.MX,by rw[hl];exact h.le,h.bl,h.lt,h.fc,by rw[hl];exact h.zY,h.small, ?_, ?_,h.root⟩
 ·rw[hl]at hj;rw[h1 j hj];exact h.kj j hj
 ·rw[hl];exact h.rep.congr (fun n _=>hg n) rfl rfl rfl rfl rfl rfl hl
 ·rw[hl];exact(hg 0).trans h.zero
theorem jR.VV (h:jR D Gk base last top P Ls kept)(hd:∀n,fq dirty n=fq (cG [] Ls) n)(hs:PE D (1+D.ar.length/4) dirty top D'):∃base' NF PF,jR D' Gk base' NF top P PF kept:=by
 rcases hs.cur with hc|⟨Vc,hc⟩
 ·refine⟨_,_,_,h.to hs.waits hs.len ?_ (fun j hj=> ?_) fun n hn=> ?_⟩
  ·rcases hc 0 with h1|⟨n,s,h1,_⟩
   ·exact h1
   ·omega
  ·rcases hc (1+j)with h1|⟨n,s,h1,_⟩
   ·exact h1
   ·omega
  ·rcases hc (1+D.ar.length/4+n)with h1|⟨m,s,h1,h2,_⟩
   ·exact h1
   ·have:m=n:=by omega
    subst this;rw[hd,hn]at h2;cases h2
 ·have h1:∀j,j<D.ar.length/4->D'.cur (1+j)=D.cur (1+j):=fun j hj=>by rw[hc _ (by omega),agl (by omega)]
  rcases Vc with h0|h0
  ·have hg:∀n,(j7 (1+D.ar.length/4) (D.ar.length-1-D.ar.length/4) [] kept Gk.fr).get D' n=(j7 (1+D.ar.length/4) (D.ar.length-1-D.ar.length/4) (cG [] Ls) kept Gk.fr).get D n:=fun n=>by
    rw[iI,iI,hc _ (by omega),agf (by omega),ahk,hd];rfl
   obtain⟨n1,n2⟩:=h.none;refine⟨top,top,[],hs.waits,by rw[hs.len];exact h.least,by rw[hs.len];exact h.kq,h0,fun j hj=> ?_,by rw[hs.len];exact n1,by rw[hs.len];exact n2,by rw[hs.len];exact h.le,aga _,aga _,by simp,by simp,by simp, ?_, ?_,h.root⟩
   ·rw[hs.len]at hj;rw[h1 j hj];exact h.kj j hj
   ·rw[hs.len];exact h.rep.congr (fun n _=>hg n) rfl rfl rfl rfl rfl rfl hs.len
   ·rw[hs.len];exact(hg 0).trans h.zero
  ·refine⟨_,_,_,h.to hs.waits hs.len h0 h1 fun n hn=> ?_⟩;rw[hc _ (by omega),agf (by omega),ahk,hd,hn];rfl
end
def PD (Gk:GM)(N T:Nat)(D:aW):Prop:=D.dead=true/\D.ar.length=N/\∃base last top P Ls kept,jR D Gk base last top P Ls kept/\top<=T
structure gG (π:PI)(st:St)(Gk:GM)(T:Nat):Prop where
 ex:∃base last P Ls r,lY π.D Gk base last P Ls π.kept/\last<=T/\π.lg= .ptr r 0/\gj st r π.a ⟨1,π.D.ar.length/4,base,last,last⟩/\r∉π.all/\∀n,fq π.dirty n=fq (cG [] Ls) n
 first:π.first=1+π.D.ar.length/4
 zY:∀e∈π.dirty,e.1<π.D.ar.length-1-π.D.ar.length/4/\e.2.length=512
 nd:(π.dirty.map (·.1)).Nodup
section
variable {π:PI} {st st':St} {Gk:GM} {T:Nat}
theorem gG.keep {X:List Nat}(h:gG π st Gk T)(hk:Kp X st st')(hx:∀r,π.lg= .ptr r 0->r∉X):gG π st' Gk T:=by
 obtain⟨base,last,P,Ls,r,a,b,c,d,e,f⟩:=h.ex;exact⟨⟨base,last,P,Ls,r,a,b,c,d.keep hk (hx r c),e,f⟩,h.first,h.zY,h.nd⟩
end
theorem Fu (l:List UInt8)(i:Nat):l8 (l.take i)<=l8 l:=by
 have key:∀(b:List UInt8) (acc:Nat),acc<=b.foldl (fun a b=>a*256+b.toNat) acc:=by
  intro b
  induction b with
  |nil=>intro acc;exact aga _
  |cons x b ih=>intro acc;rw[List.foldl_cons];exact aha (by omega) (ih _)
 have e:l8 l=(l.drop i).foldl (fun a b=>a*256+b.toNat) (l8 (l.take i)):=by
  unfold l8;rw[<-List.foldl_append,List.take_append_drop]
 rw[e];exact key _ _
theorem DB {d:List eH}{n:Nat}{s:ij}{e:eH}(h:e∈oR d n s):e∈d\/e=(n,s):=by
 induction d with
 |nil=>right;simpa[oR]using h
 |cons p r ih=>
  simp only[oR]at h
  split at h
  ·rcases age.1 h with h|h
   ·exact .inr h
   ·exact .inl (agO _ h)
  ·rcases age.1 h with h|h
   ·exact .inl (by rw[h];exact aho)
   ·exact(ih h).imp (agO _) id
theorem Bz {Q:eH->Prop}:∀{l d:List eH},(∀e∈l,Q e)->(∀e∈d,Q e)->∀e∈tI d l,Q e:=by
 intro l
 induction l with
 |nil=>intro d _ h;exact h
 |cons x l ih=>
  intro d h1 h2;show∀e∈tI (oR d x.1 x.2) l,Q e;refine ih (fun e he=>h1 e (by simp[he])) fun e he=> ?_;rcases DB he with h|h
  ·exact h2 e h
  ·rw[h];exact h1 x (by simp)
theorem vF {Q:eH->Prop}:∀{Ls:List (List eH)} {d:List eH},(∀l∈Ls,∀e∈l,Q e)->(∀e∈d,Q e)->∀e∈cG d Ls,Q e:=by
 intro Ls
 induction Ls with
 |nil=>intro d _ h;exact h
 |cons l Ls ih=>intro d h1 h2;exact ih (fun l' Uy=>h1 l' (by simp[Uy])) (Bz (h1 l (by simp)) h2)
def rp (a:Nat)(F:List Nat)(D:aW)(Gk:GM)(T:Nat)(st:St)(v:CV)(st':St):Prop:=
 ∃π:PI,v= .tuple [.ptr π.p 0,I 0]/\π.a=a/\Pg π st' Gk/\gG π st' Gk T/\Kp F st st'/\(∀b∈π.all,b∈F\/st.next<=b)/\st.next<=π.p/\Calm π.D/\π.D.ar.length=D.ar.length/\(∃r,π.lg= .ptr r 0/\st.next<=r)/\π.D.set=D.set
section
variable {st st':St} {a:Nat} {F:List Nat} {D:aW}
theorem GL (hd:cV st a F D)(yd:dw st)(EI:Calm D){Gk:GM}{base last top:Nat}{P:Nat->cp}{Ls:List (List eH)}{kept:gE}(h:jR D Gk base last top P Ls kept)(hb:top<=1000000000):R 30 [.ptr a 0] st fun v st'=>rp a F D Gk top st v st'\/(Kp F st st'/\∃e,v= .tuple [.aC,e]/\PM a F D.set (PD Gk D.ar.length top) st e st'):=by
 refine bp ?_;rw[ZT];have aco:=h.least;have Uw:=h.kq;have hbl:=h.bl;have acm:=h.lt;rw[bD,ae,ah,agf (by decide)];have CA:=rf hd 0
 have Kz:D.read 0=(0,bS base):=by
  have:=EI.read (i:=0) (by omega);rw[h.head]at this;exact this
 refine CA.mono ?_;intro v s1 hv;rw[Kz,agl rfl]at hv;obtain⟨k1,_,b,rfl,gb,yR,hb2⟩:=hv;rw[ay,ae,aL,ay,ae];have e2:∀s,ai .neq (some .int) true (I 0) (.int .i64 0) s= .ok (.bool false) s:=fun s=>rfl;rw[e2,ae,ah,agf (by decide)];have OT:=hd.keep k1 (by simp);refine(qb OT).same ?_;have hlt:ai .lss none true (I D.ar.length) (.int .i64 64) s1= .ok (.bool false) s1:=by rw[aA,bK,agc (by omega)]
 have Qq:=lP base;have Cw:Sl s1 [] (.slice b 0 512 512 1) 1 (aj (bS base)):= .inr ⟨b,0,512,512,1,rfl,by simp[Qq],⟨aga _, .inr rfl⟩, .inr ⟨by simp,hb2,_,_,_,gb,by simp[Qq],by rw[agC,agk (by simp[Qq])]⟩⟩;have X2:(aj (bS base)).length=512*1:=by simp[Qq]
 obtain⟨v8,q1,q2⟩:=Cw.hi (by omega) X2 (h:=8) (by omega) s1;have E7:bS base=[98,117,116,116,101,114,121,49]++(be 8 base++List.replicate 496 0):=by unfold bS;rw[agv]
 have etk:(aj (bS base)).take (8*1)=aj [98,117,116,116,101,114,121,49]:=by
  rw[E7,bq,aht (by simp)]
 rw[etk]at q2;have q3:=q2.str;have q1':cc 1 (.slice b 0 512 512 1) none (some (.int .i64 8)) s1= .ok v8 s1:=q1
 have e8:(bS base)[8]?=some (UInt8.ofNat (base/256^7%256)):=by
  rw[E7,agN (by simp),wI];rfl
 have e80:UInt8.ofNat (base/256^7%256)=0:=by
  have:base/256^7=0:=Nat.div_eq_of_lt (by omega);rw[this];rfl
 have hix:cm 1 (.slice b 0 512 512 1) (.int .i64 8) s1= .ok (.ptr b 8) s1:=by
  have:=du (size:=1) (off:=0) (cap:=512) (grow:=1) (i:=8) (len:=512) (by omega) (.inr (by omega)) s1 (b:=b);exact this
 have mQ:(aj (bS base))[8]?=some (.int .u8 0):=by
  unfold aj;rw[agB,e8,e80];rfl
 have KN:ai .gtr none true (.int .u8 0) (.int .u8 127) s1= .ok (.bool false) s1:=rfl;rw[hlt,ae];simp only[aE,afY,agn,agj,aM,ae,q1',q3,fV,rP,agW,agm,aF,sm,hix,av,gb,ao,mQ,au,KN,ah];refine(AE OT (by omega)).mono ?_;rintro _ s3 ⟨k3,p,bd,bn,bi,bc,rfl,Yb,OJ⟩;have U3:=OT.keep k3 (by simp);have n1:=k1.next;have n3:=k3.next;rw[bG];refine(kK U3).same ?_;have PS:=Cw.mono k3;obtain⟨mn,r1,r2⟩:=PS.both (by omega) X2 (l:=8) (h:=16) (by omega) (by omega) s3
 have VT:((aj (bS base)).drop (8*1)).take ((16-8)*1)=aj (be 8 base):=by
  rw[E7,bq,List.drop_left' (by simp),bq,aht (by simp[gV])]
 rw[VT]at r2;have r1':cc 1 (.slice b 0 512 512 1) (some (.int .i64 8)) (some (.int .i64 16)) s3= .ok mn s3:=r1;rw[r1',ae];have Vf:=oD 8 base (by omega);refine(p6 r2 (by rw[gV];omega) (fun i=>by have:=Fu (be 8 base) i;omega)).same ?_;rw[Vf];have OL:=k3.fresh (k1.fresh yd);have O6:mW D ⟨1,D.ar.length/4,base,base,base⟩ P:=⟨by show 0<D.ar.length/4;omega,by show 1+D.ar.length/4<=_;omega,Uw,by show base<=_;omega,fun j hj=>h.kj j hj⟩;refine(rJ OL U3 EI.dead O6 (by omega)).mono ?_;rintro _ s6 ⟨r,xo,Fo,Gg,rfl,k6,po,AQ,th,hr⟩;have o1:=h.Gz;have o2:=h.opened;rw[o1]at AQ;rw[o2]at po;have n6:=k6.next;have Lj:=Yb.keep k6 (by simp);have wU:=U3.keep k6 (by simp);refine⟨trivial,trivial, ?_⟩;have e01:ai .eql (some .int) true (I 0) (.int .i64 1) s6= .ok (.bool false) s6:=rfl;have VU:ai .eql (some .int) true (I 0) (.int .i64 0) s6= .ok (.bool true) s6:=rfl;have e02:ai .neq (some .int) true (I 0) (.int .i64 0) s6= .ok (.bool false) s6:=rfl;rw[e01,ae];simp only[aE,afY,agn,agj,aM,ae,VU,ags,bF];have OX:=Yb.lt;have OY:=OX bd (by simp);have U9:=h.fc;refine(Bw (M:=cT D.ar.length) (Ls:=Ls) Lj AQ (fun b hb e=>by have:=th b (.inl hb);omega) (fun b hb e=>by have:=th b (.inr hb);omega) (fun l hl e he=>h.zY l hl e he) h.small (by omega) (by show D.ar.length-1-D.ar.length/4<=_;omega)).mono ?_;rintro _ s7 ⟨rfl,k7,AY⟩;have KV:cG (cT D.ar.length).dirty Ls=cG [] Ls:=rfl;rw[KV]at AY;have n7:=k7.next;have qW:=hd.lt
 have EG:=wU.keep k7 fun b hb hh=>by
  have:=qW b hb;have:=OJ bd (by simp);simp at hh;omega
 have Kx:=po.keep k7 (by simp;omega);have Ly:∀s,ai .neq (some .int) true (I 0) (.int .i64 0) s= .ok (.bool false) s:=fun s=>rfl;simp only[bt,agm,ae,aF,ags,afY,agn,ah,Ly];have Qm:=AY.main
 have xZ:∀{s:St} {l:List CV} {x:CV} {o:Nat} {K:St->Prop},s.mem.get p=some (.cells l 150 false)->x.bL=[x]->bW x=true->o<l.length->K (St.set s p (.cells (bB l o [x]) 150 false))->kh 1 o (.ptr p 0) x s K:=by
  intro s l x o K hg h1 h2 h3 hK;simp only[kh,aV,af,ae,aQ,hg,bg,h1,afZ];exact⟨⟨rfl,by simp[h2],h3⟩,hK⟩
 refine xZ Qm rfl rfl (by decide:(1:Nat)<16) ?_;have mf:=AY.nd;simp only[agF,age,agX,aic,ahO]at mf;have CB:=AY.lt p (by simp)
 have Qy:dy (St.set s7 p (.cells (bB [.ptr a 0, .aC,I (1+D.ar.length/4:Nat),I (D.ar.length-1-D.ar.length/4:Nat), .map bd, .map bn,I dX.root,I dX.used,I dX.head,I dX.free,I dX.root,I dX.used,I dX.head,I dX.free, .map bi, .map bc] 1 [.ptr r 0]) 150 false)) p a (.ptr r 0) {cT D.ar.length with dirty:=cG [] Ls} bd bn bi bc:=
  ⟨az _ _ _,AY.dirty.mono (aq _ _ _ _ (agZ mf.1.1)),AY.now.mono (aq _ _ _ _ (agZ mf.1.2.1)),AY.idle.mono (aq _ _ _ _ (agZ mf.1.2.2.1)),AY.count.mono (aq _ _ _ _ (agZ mf.1.2.2.2)),AY.nd,AY.lt,⟨rfl,rfl,rfl⟩⟩
 have k8:Kp [p] s7 (St.set s7 p (.cells (bB [.ptr a 0, .aC,I (1+D.ar.length/4:Nat),I (D.ar.length-1-D.ar.length/4:Nat), .map bd, .map bn,I dX.root,I dX.used,I dX.head,I dX.free,I dX.root,I dX.used,I dX.head,I dX.free, .map bi, .map bc] 1 [.ptr r 0]) 150 false)):=(Kp.refl _ s7).set _ (.inl (by simp)) CB;have n8:(St.set s7 p (.cells (bB [.ptr a 0, .aC,I (1+D.ar.length/4:Nat),I (D.ar.length-1-D.ar.length/4:Nat), .map bd, .map bn,I dX.root,I dX.used,I dX.head,I dX.free,I dX.root,I dX.used,I dX.head,I dX.free, .map bi, .map bc] 1 [.ptr r 0]) 150 false)).next=s7.next:=rfl;generalize hS8:St.set s7 p (.cells (bB [.ptr a 0, .aC,I (1+D.ar.length/4:Nat),I (D.ar.length-1-D.ar.length/4:Nat), .map bd, .map bn,I dX.root,I dX.used,I dX.head,I dX.free,I dX.root,I dX.used,I dX.head,I dX.free, .map bi, .map bc] 1 [.ptr r 0]) 150 false)=s8 at*;rw[show St.set s7 p (.cells (bB [.ptr a 0, .aC,I (cT D.ar.length).first,I (cT D.ar.length).bE, .map bd, .map bn,I (cT D.ar.length).kept.root,I (cT D.ar.length).kept.used,I (cT D.ar.length).kept.head,I (cT D.ar.length).kept.free,I (cT D.ar.length).m.root,I (cT D.ar.length).m.used,I (cT D.ar.length).m.head,I (cT D.ar.length).m.free, .map bi, .map bc] 1 [.ptr r 0]) 150 false)=s8 from hS8];have sw:=OJ;have TN:=sw p (by simp);have X0:=sw bd (by simp);have XY:=sw bn (by simp);have XZ:=sw bi (by simp);have X1:=sw bc (by simp);have KX:=EG.keep k8 fun b hb hh=>by have:=qW b hb;simp at hh;omega
 have wm:=OX p (by simp);have Kw:=Kx.keep k8 (by simp;omega);refine(JI Kw).same ?_;have KT:=k8.fresh (k7.fresh (k6.fresh OL));have I5:((cG [] Ls).map (·.1)).Nodup:=qz (by rw[<-pU];exact AY.dirty.nd);have I4:=vF h.zY (d:=[]) (by simp)
 have B6:(cG [] Ls).length<=65536:=by
  have:=rX 65536 ((cG [] Ls).map (·.1)) I5 fun x hx=>by
   obtain⟨e,he,rfl⟩:=agJ.1 hx;have:=(I4 e he).1;omega
  rwa [agM]at this
 have Qz:∀b∈F,b∉[p,bd,bn,bi,bc]:=fun b hb hh=>by
  have:=qW b hb;have:=sw b hh;omega
 refine(zs (M:={cT D.ar.length with dirty:=cG [] Ls}) Qy KX EI h.waits KT Qz (by show(cG [] Ls).length<=_;omega) (fun e he=>I4 e he) (by show 1+D.ar.length/4+(D.ar.length-1-D.ar.length/4)=_;omega) rfl (by omega) hb h.kj).mono ?_;rintro v10 cw (⟨rfl,kZ,r2,YB,F2,D2,qV,B7,Mw,IB,hl2,AP,hr2,acZ,iJ,py,px,NY⟩|⟨kZ,rfl,iA,F2,D2,B7,py,ya⟩)
 case inr=>
  have QF:ai .neq (some .int) true (I 20) (.int .i64 0) cw= .ok (.bool true) cw:=rfl;rw[QF,ae,ah,agl rfl];obtain⟨b',l',PF,hK'⟩:=h.VV (fun n=>rfl) ya;refine .inr ⟨?_,_,rfl,rfl,iA,F2,D2,B7,fun b hb=>(py b hb).imp id fun h=>by omega,ya.dead,ya.len,b',l',top,P,PF,kept,hK',aga _⟩;have q0:Kp F st s6:=((k1.trans k3 (by simp)).trans k6 (by simp)).mono (by simp);have q1:=q0.trans k7 (by intro q hq;right;simp at hq;omega);have q2:=q1.trans k8 (by intro q hq;right;simp at hq;omega);exact q2.trans kZ fun q hq=> .inl hq
 have Et:=h.settled (dirty:=cG [] Ls) (fun n=>rfl) Mw IB hl2 px;rw[Ly,ae,ah,agf (by decide)];have hz:=Et.zero;have tV:=Et.rep;rw[hl2]at hz tV;have XK:=tV.ok.kq;have abU:D.ar.length-1-D.ar.length/4=Gk.bE:=tV.bE;have DY:=kZ.next
 have Lm:∀b∈F2,b≠p:=fun b hb e=>by
  rcases(py b hb).1 with h1|h1
  ·have:=qW b h1;omega
  ·omega
 refine(Fz (m':=kept) (frs:=Gk.fr) qV B7 Mw.dead Lm hz Et.Nw (by show 1+D.ar.length/4+(D.ar.length-1-D.ar.length/4)<=_;omega) (by show 0<D.ar.length-1-D.ar.length/4;omega) tV.head (fun n hn=>⟨(tV.ok.fr n hn).1,by show n<D.ar.length-1-D.ar.length/4;have:=(tV.ok.fr n hn).2;omega⟩) tV.ok.nd (tV.chain.congr fun n _=>rfl)).mono ?_;rintro _ cB ⟨rfl,pN,Pu,Pv,Pw,qU,ku⟩;have QB:=qU.lt;have AO:=AP.keep pN (by simp;omega);have Pd:=B7.lt;have Xq:=AP.1;have Vh:=qV.lt YB (by simp);have K1:=B7.keep pN fun b hb hh=>Lm b hb (by simpa using hh);have Qk:=ku Pu (by simp);have Qj:=ku Pv (by simp);have Ua:=ku Pw (by simp);rw[Ly,ae,ah,agf (by decide)];refine .inl ⟨⟨p,a, .ptr r2 0,YB,Pu,Pv,Pw,F2,D2,[],kept,1+D.ar.length/4⟩,rfl,rfl,⟨_,qU,tV,K1,Mw.dead,fun b hb hh=> ?_,rfl,rfl,rfl⟩,⟨⟨top,top,P,[],r2,Et,aga _,rfl, ?_, ?_,fun n=>rfl⟩,by show 1+D.ar.length/4=1+D2.ar.length/4;rw[hl2],by simp,by simp⟩, ?_, ?_,by show st.next<=p;omega,Mw,hl2,⟨r2,rfl,by omega⟩,NY⟩
 ·have h1:=Pd b hb;have h2:=py b hb;have h3:=Lm b hb;simp at hh;rcases hh with hh|hh|hh|hh|hh
  ·exact h3 hh
  ·exact h2.2.2 hh
  ·omega
  ·omega
  ·omega
 ·have:=(Et.opened).2;rw[hl2]at this;rw[this]at AO;show gj cB r2 a ⟨1,D2.ar.length/4,top,top,top⟩;rw[hl2];exact AO
 ·unfold PI.all;simp only[age,ahO];exact⟨by omega,iJ,by omega,by omega,by omega,fun hh=>(py r2 hh).2.1 rfl⟩
 ·have q0:Kp F st s6:=((k1.trans k3 (by simp)).trans k6 (by simp)).mono (by simp);have q1:=q0.trans k7 (by intro q hq;right;simp at hq;omega);have q2:=q1.trans k8 (by intro q hq;right;simp at hq;omega);have q3:=q2.trans kZ (by intro q hq;rcases age.1 hq with rfl|hq;right;omega;left;exact hq);exact q3.trans pN (by intro q hq;right;simp at hq;omega)
 ·intro b hb;unfold PI.all at hb;simp only[age]at hb;rcases hb with hb|hb|hb|hb|hb|hb
  ·right;omega
  ·right;omega
  ·right;omega
  ·right;omega
  ·right;omega
  ·rcases(py b hb).1 with h1|h1
   ·left;exact h1
   ·right;omega
end
def PJ (bE:Nat):GM:=⟨bE,1,0,[],fun _=> .blank,[]⟩
def bR:gE:=⟨0,1,0,0⟩
def QJ:Nat->cp:=fun _=>⟨0,false,[]⟩
theorem LU (j:Nat):(QJ j).ok:=⟨by show 0<=_;omega,by show 0<=_;omega,fun _=>⟨rfl,rfl⟩,fun h=>absurd rfl h⟩
theorem Ce {D D':aW}(Vt:64<=D.ar.length)(Yg:D.ar.length<=65536)(hz:∀i,i<D.ar.length->D.cur i=km)(hc:Calm D')(hw:D'.waits=[])(hl:D'.ar.length=D.ar.length)
 (px:∀j,D'.cur j=if j=0 then bS 0 else if j=1+D.ar.length/4 then bZ bR else D.cur j):lY D' (PJ (D.ar.length-1-D.ar.length/4)) 0 0 QJ [] bR:=by
 have IY:(j7 (1+D.ar.length/4) (D.ar.length-1-D.ar.length/4) [] bR []).get D' 0=bZ bR:=by
  rw[iI,px,agf (by omega),agl (by omega)];rfl
 refine⟨hc,hw,by omega,by omega,by rw[px,agl rfl],fun j hj=> ?_,rfl,fun j _=>aga _,by omega,by simp,by simp, ?_,by rw[hl];exact IY,by decide⟩
 ·rw[hl]at hj;rw[px,agf (by omega),agf (by omega),hz _ (by omega)];exact⟨Gu,LU j⟩
 ·rw[hl];refine⟨rfl,rfl,rfl,rfl,rfl,fun n=>Iff.rfl,List.nodup_nil,⟨aga _, ?_, ?_,List.nodup_nil,fun n hn=>by cases hn⟩, ?_,fun n hn=> ?_,fun n hn=> ?_,trivial,rfl,List.nodup_nil,(fun n hn=>by cases hn),rfl⟩
  ·show 1<=D.ar.length-1-D.ar.length/4;omega
  ·show D.ar.length-1-D.ar.length/4<=65536;omega
  ·show 1+D.ar.length/4+(D.ar.length-1-D.ar.length/4)<=D'.ar.length;omega
  ·have hn:n<1:=hn;have:n=0:=by omega
   subst this;show((j7 _ _ [] bR []).get D' 0).length=512;rw[IY];exact im _
  ·have h1:=hn.1;have h2:n<1:=hn.2.1;omega
theorem MW (bE:Nat)(h:1<=bE)(h2:bE<=65536):jj (PJ bE) []:=⟨⟨aga _,h,h2,List.nodup_nil,fun n hn=>by cases hn⟩, .inl ⟨rfl,rfl⟩⟩
section
variable {st st':St} {a:Nat} {F:List Nat} {D:aW}
theorem Cf (hd:cV st a F D)(yd:dw st)(hc:Calm D)(iA:D.set=false)(hw:D.waits=[])(Vt:64<=D.ar.length)(hz:∀i,i<D.ar.length->D.cur i=km):R 28 [.ptr a 0] st (rp a F D (PJ (D.ar.length-1-D.ar.length/4)) 0 st):=by
 refine bp ?_;rw[ZU];have Yg:=(show D.ar.length<=65536 from by obtain⟨_,_,_,_,_,_,_,h⟩:=hd;exact h.size);rw[bD,ae,ah,agf (by decide)];refine(qb hd).same ?_;have hlt:ai .lss none true (I D.ar.length) (.int .i64 64) st= .ok (.bool false) st:=by rw[aA,bK,agc (by omega)]
 rw[hlt,ae,ah,agf (by decide)];refine(AE hd (by omega)).mono ?_;rintro _ s2 ⟨k2,p,bd,bn,bi,bc,rfl,Yc,sw⟩;have AW:=hd.keep k2 (by simp);have n2:=k2.next;rw[bP];refine(kK AW).same ?_;simp only[aI,aJ];refine bA (fun fu vs s=>∃i,fu+i=D.ar.length/4/\vs=[.ptr a 0, .ptr p 0,I ((D.ar.length/4:Nat):Int),I i]/\Kp [] s2 s) ?_ (n:=D.ar.length/4) ⟨0,rfl,rfl,Kp.refl _ _⟩;rintro fu vs s k ⟨i,hi,rfl,hk⟩ next;simp only[aI,aJ];rw[de,ae,ah];have Mv:=AW.keep hk (by simp);have AX:=Yc.keep hk (by simp);have HC:=hk.fresh (k2.fresh yd);have e2:∀s,ai .neq (some .int) true (I 0) (.int .i64 0) s= .ok (.bool false) s:=fun s=>rfl
 by_cases yQ:i<D.ar.length/4
 ·rw[agi yQ,agl rfl]
  have e1:ai .add none true (.int .i64 1) (I i) s= .ok (I ((1+i:Nat):Int)) s:=by
   have:ai .add none true (I ((1:Nat):Int)) (I i) s= .ok (I ((1+i:Nat):Int)) s:=by rw[aA,cR,bN (by omega)];congr 2
   exact this
  rw[e1,ae]
  have Kz:D.read ((1+i:Nat):Int)=(0,km):=by
   have:=hc.read (i:=1+i) (by omega);rw[hz _ (by omega)]at this;exact this
  refine(rf Mv ((1+i:Nat):Int)).mono ?_;intro v s5 hv;rw[Kz,agl rfl]at hv;obtain⟨k5,_,b,rfl,gb,yR,hb2⟩:=hv;rw[ay,ae,aL,ay,ae,e2,ae,ah,agf (by decide)];have sl5:Sl s5 [] (.slice b 0 512 512 1) 1 (aj km):= .inr ⟨b,0,512,512,1,rfl,by simp[oQ],⟨aga _, .inr rfl⟩, .inr ⟨by simp,hb2,_,_,_,gb,by simp[oQ],by rw[agC,agk (by simp[oQ])]⟩⟩;have Oy:bO .slice (.slice b 0 512 512 1) s5= .ok (I ((512:Nat):Int)) s5:=rfl;rw[Oy,ae];have Ue:=DJ (n:=512) (s:=s5) (by omega);rw[Ue,bj];have k6:Kp [] s5 (St.new s5 (.cells (aj (List.replicate 512 0)) 5 false)):=(Kp.refl [] s5).new _;have g6:(St.new s5 (.cells (aj (List.replicate 512 0)) 5 false)).mem.get s5.next=some (.cells (aj (List.replicate 512 0)) 5 false):=aG _ _;have n6:(St.new s5 (.cells (aj (List.replicate 512 0)) 5 false)).next=s5.next+1:=rfl;generalize St.new s5 (.cells (aj (List.replicate 512 0)) 5 false)=s6 at*;have sl6:Sl s6 [] (.slice s5.next 0 512 512 0) 1 (aj (List.replicate 512 0)):= .inr ⟨s5.next,0,512,512,0,rfl,by simp,⟨aga _, .inl rfl⟩, .inr ⟨by simp,by omega,_,_,_,g6,by simp,by rw[agC,agk (by simp)]⟩⟩;refine(E0 (sl5.mono k6) sl6).same ?_;have hbq:(km==List.replicate 512 0)=true:=beq_self_eq_true _;rw[hbq,bt,ae,agm,ah,agf (by decide),gW i (by omega),ae];exact next (fu-1) _ _ (by omega) ⟨i+1,by omega,rfl,(hk.trans k5 (by simp)).trans k6 (by simp)⟩
 ·rw[agc yQ,agf (by decide)];have kx:bf [.int .i64 0, .int .i64 0, .int .i64 0, .int .i64 0] [(1,1, .int .i64 1)] s= .ok (.agg [I bR.root,I bR.used,I bR.head,I bR.free]) s:=rfl;rw[kx,ae];have CD:=AX.main;have Oc:=AX.lt p (by simp)
  have II:∀{s:St} {l:List CV} {o:Nat} {K:St->Prop},s.mem.get p=some (.cells l 150 false)->o+4<=l.length->K (St.set s p (.cells (bB l o [I bR.root,I bR.used,I bR.head,I bR.free]) 150 false))->kh 4 o (.ptr p 0) (.agg [I bR.root,I bR.used,I bR.head,I bR.free]) s K:=by
   intro s l o K hg h3 hK;simp only[kh,aV,af,ae,aQ,hg,bg,ba,afZ];exact⟨⟨rfl,rfl,h3⟩,hK⟩
  have I3:∀{s:St} {l:List CV} {K:CV->Prop},s.mem.get p=some (.cells l 150 false)->10<=l.length->(l.drop 6).take 4=[I bR.root,I bR.used,I bR.head,I bR.free]->K (.agg [I bR.root,I bR.used,I bR.head,I bR.free])->tX 4 6 (.ptr p 0) s K:=by
   intro s l K hg h3 h4 hK;unfold tX;rw[aV,ae,af,ae,pW (n:=4) hg (by omega),ae,afZ,h4];exact hK
  refine II CD (by simp) ?_;refine I3 (az _ _ _) (by simp[bB]) rfl ?_;refine II (az _ _ _) (by simp[bB]) ?_;rw[nf];refine I3 (az _ _ _) (by simp[bB]) rfl ?_;have mf:=AX.nd;simp only[agF,age,agX,aic,ahO]at mf
  have qU:dy (St.set s p (.cells (bB (bB [.ptr a 0, .aC,I (cT D.ar.length).first,I (cT D.ar.length).bE, .map bd, .map bn,I (cT D.ar.length).kept.root,I (cT D.ar.length).kept.used,I (cT D.ar.length).kept.head,I (cT D.ar.length).kept.free,I (cT D.ar.length).m.root,I (cT D.ar.length).m.used,I (cT D.ar.length).m.head,I (cT D.ar.length).m.free, .map bi, .map bc] 6 [I bR.root,I bR.used,I bR.head,I bR.free]) 10 [I bR.root,I bR.used,I bR.head,I bR.free]) 150 false)) p a .aC {cT D.ar.length with kept:=bR,m:=bR} bd bn bi bc:=
   ⟨az _ _ _,AX.dirty.mono (aq _ _ _ _ (agZ mf.1.1)),AX.now.mono (aq _ _ _ _ (agZ mf.1.2.1)),AX.idle.mono (aq _ _ _ _ (agZ mf.1.2.2.1)),AX.count.mono (aq _ _ _ _ (agZ mf.1.2.2.2)),AX.nd,AX.lt,⟨rfl,rfl,rfl⟩⟩
  have pN:Kp [p] s (St.set s p (.cells (bB (bB [.ptr a 0, .aC,I (cT D.ar.length).first,I (cT D.ar.length).bE, .map bd, .map bn,I (cT D.ar.length).kept.root,I (cT D.ar.length).kept.used,I (cT D.ar.length).kept.head,I (cT D.ar.length).kept.free,I (cT D.ar.length).m.root,I (cT D.ar.length).m.used,I (cT D.ar.length).m.head,I (cT D.ar.length).m.free, .map bi, .map bc] 6 [I bR.root,I bR.used,I bR.head,I bR.free]) 10 [I bR.root,I bR.used,I bR.head,I bR.free]) 150 false)):=(Kp.refl _ s).set _ (.inl (by simp)) Oc;generalize St.set s p (.cells (bB (bB [.ptr a 0, .aC,I (cT D.ar.length).first,I (cT D.ar.length).bE, .map bd, .map bn,I (cT D.ar.length).kept.root,I (cT D.ar.length).kept.used,I (cT D.ar.length).kept.head,I (cT D.ar.length).kept.free,I (cT D.ar.length).m.root,I (cT D.ar.length).m.used,I (cT D.ar.length).m.head,I (cT D.ar.length).m.free, .map bi, .map bc] 6 [I bR.root,I bR.used,I bR.head,I bR.free]) 10 [I bR.root,I bR.used,I bR.head,I bR.free]) 150 false)=cB at*;have qW:=hd.lt;have TN:=sw p (by simp);have K1:=Mv.keep pN fun b hb hh=>by have:=qW b hb;simp at hh;omega
  have wq:=hk.next;have ace:=pN.next;refine(Hb (m:=bR) (by intro n hn;simp[jn,bR]at hn;rcases hn with rfl|rfl|rfl|rfl<;>omega)).mono ?_;rintro _ eJ ⟨rfl,xX⟩;have FY:=im bR;have yi:(aj (bZ bR)).length=512:=by simpa using FY
  refine jw yi (bz _) ?_;have yO:=xX.dA (aj (bZ bR));have Lv:(St.set (St.new eJ (.cells (zr 512) 152 false)) eJ.next (.cells (aj (bZ bR)) 152 false)).mem.get eJ.next=some (.cells (aj (bZ bR)) 152 false):=az _ _ _;have n14:(St.set (St.new eJ (.cells (zr 512) 152 false)) eJ.next (.cells (aj (bZ bR)) 152 false)).next=eJ.next+1:=rfl;generalize St.set (St.new eJ (.cells (zr 512) 152 false)) eJ.next (.cells (aj (bZ bR)) 152 false)=ep at*;have HJ:=qU.keep yO (by simp);have K0:=K1.keep yO (by simp);have Uj:=HJ.main;have I2:=yO.fresh (pN.fresh HC);have El:bM 512 1 (.ptr eJ.next 0) none none ep= .ok (.slice eJ.next 0 512 512 0) ep:=rfl;rw[bG,aV,ae,af,ae,av,Uj,ao];simp only[afZ,agb,afX,au,El,ae];have G8:=xX.next;have Kt:Sl ep F (.slice eJ.next 0 512 512 0) 1 (aj (bZ bR)):= .inr ⟨eJ.next,0,512,512,0,rfl,by simp[FY],⟨aga _, .inl rfl⟩, .inr ⟨fun hh=>by have:=qW _ hh;omega,by omega,_,_,_,Lv,by omega,by rw[agC,agk (by omega)]⟩⟩;refine(rv K0 (i:=((1+D.ar.length/4:Nat):Int)) I2 (by rw[hw];simp) Kt FY).mono ?_;rintro _ jl ⟨rfl,oq,F2,KZ,py⟩;obtain⟨w1,w2,w3,w4,w5,w6,w7⟩:=(hc.write (i:=1+D.ar.length/4) (s:=bZ bR) (by omega) FY (by unfold aW.BT;rw[hw];simp)).resolve_right fun h=>by rw[iA]at h;exact absurd h.2.1 (by decide)
  rw[iA]at w7;generalize QA:(D.write ((1+D.ar.length/4:Nat):Int) (bZ bR)).2=D1 at*;rw[w1];refine⟨⟨trivial,trivial⟩,trivial, ?_⟩;rw[e2,ae,ah,agf (by decide)];refine(sF KZ (by rw[w5,hw];simp)).mono ?_;rintro _ iw ⟨rfl,xW,F3,U6,A5⟩;obtain⟨f1,f2,f3,f4,f5,f6⟩:=(w2.flush w4).resolve_right fun h=>by rw[w7]at h;exact absurd h.2.1 (by decide)
  rw[w7]at f6;generalize hD2:D1.flush.2=D2 at*;rw[f1,e2,ae,ah,agf (by decide)];have I1:=xW.fresh (oq.fresh I2);refine(AV I1 U6 (by rw[f4];simp) (base:=0) (by omega)).mono ?_;rintro _ jS ⟨rfl,AM,F4,HF,hF4⟩;obtain⟨g1,g2,g3,g4,g5,g6⟩:=(f2.head f4 (by rw[f3,w3];omega) 0).resolve_right fun h=>by rw[f6]at h;exact absurd h.2.1 (by decide)
  rw[f6]at g6;generalize hD3:(D2.head 0).2=D3 at*;rw[g1,e2,ae,ah,agf (by decide)];have BY:D3.ar.length=D.ar.length:=by rw[g3,f3,w3]
  have px:∀j,D3.cur j=if j=0 then bS 0 else if j=1+D.ar.length/4 then bZ bR else D.cur j:=fun j=>by
   rw[g5]
   by_cases hj:j=0
   ·rw[agl hj,agl hj]
   ·rw[agf hj,agf hj,f5,w6]
  have so:=Ce Vt Yg hz g2 g4 BY px;refine(kK HF).same ?_;have OM:=AM.fresh I1;have O6:mW D3 ⟨1,D3.ar.length/4,0,0,0⟩ QJ:=⟨by show 0<D3.ar.length/4;omega,by show 1+D3.ar.length/4<=_;omega,by omega,Nat.zero_le _,fun j hj=>so.kj j hj⟩;refine(rJ (base:=0) OM HF g2.dead O6 (by omega)).mono ?_;rintro _ qP ⟨r,xo,Fo,Gg,rfl,PY,po,AQ,th,hr⟩;have WM:=oq.next;have n16:=xW.next;have n17:=AM.next;have n19:=PY.next;have aaV:=yO.next
  have Vr:∀b∈F4,b∈F\/ep.next<=b:=fun b hb=>by
   rcases hF4 b hb with h1|h1
   ·rcases A5 b h1 with h2|h2
    ·exact py b h2
    ·right;omega
   ·right;omega
  have Pc:∀b∈F3,b∈F\/ep.next<=b:=fun b hb=>by
   rcases A5 b hb with h2|h2
   ·exact py b h2
   ·right;omega
  have wm:=Yc.lt
  have zQ:∀(X:List Nat),(∀b∈X,b∈F\/ep.next<=b)->∀b∈[p,bd,bn,bi,bc],b∉X:=fun X hX b hb hh=>by
   have h1:=wm b hb;have h2:=sw b hb;rcases hX b hh with h3|h3
   ·have:=qW b h3;omega
   ·omega
  have yj:=(((HJ.keep oq (zQ F fun b hb=> .inl hb)).keep xW (zQ F2 py)).keep AM (zQ F3 Pc)).keep PY (by simp);have U5:=HF.keep PY (by simp);rw[ay,ae,aL,ay,ae,aL,aL,ay,ae,e2,ae,ah,agf (by decide)];have Ui:=yj.main;have TQ:=yj.lt p (by simp);simp only[kh,aV,af,ae,afZ];rw[aQ,Ui,bg];refine⟨⟨rfl,rfl,by simp⟩, ?_⟩;have PX:∀T,Kp [p] qP (St.set qP p (.cells T 150 false)):=fun T=>(Kp.refl _ qP).set _ (.inl (by simp)) TQ;have h1p:=wm p (by simp);have h1d:=wm bd (by simp);have h1n:=wm bn (by simp);have h1i:=wm bi (by simp);have h1c:=wm bc (by simp);have Vs:=HF.lt;have sq:=so.rep;rw[BY]at sq;refine⟨⟨p,a, .ptr r 0,bd,bn,bi,bc,F4,D3,[],bR,1+D.ar.length/4⟩,rfl,rfl,⟨{cT D.ar.length with kept:=bR,m:=bR},⟨az _ _ _,yj.dirty.mono (aq _ _ _ _ (agZ mf.1.1)),yj.now.mono (aq _ _ _ _ (agZ mf.1.2.1)),yj.idle.mono (aq _ _ _ _ (agZ mf.1.2.2.1)),yj.count.mono (aq _ _ _ _ (agZ mf.1.2.2.2)),yj.nd,yj.lt,⟨rfl,rfl,rfl⟩⟩,sq,U5.keep (PX _) fun b hb hh=> ?_,g2.dead,fun b hb hh=> ?_,rfl,rfl,rfl⟩,⟨⟨0,0,QJ,[],r,so,aga _,rfl, ?_, ?_,fun n=>rfl⟩,by show 1+D.ar.length/4=1+D3.ar.length/4;rw[BY],by simp,by simp⟩, ?_, ?_,by show st.next<=p;omega,g2,BY,⟨r,rfl,by omega⟩,g6.trans iA.symm⟩
  ·exact zQ F4 Vr p (by simp) (by have:b=p:=by simpa using hh
                                  rw[<-this];exact hb)
  ·exact zQ F4 Vr b hh hb
  ·have:=(so.opened).2;rw[this]at po;exact po.keep (PX _) (by simp;omega)
  ·unfold PI.all;simp only[age,ahO];exact⟨by omega,by omega,by omega,by omega,by omega,fun hh=>by have:=Vs r hh;omega⟩
  ·have q0:Kp F st s:=(k2.trans hk (by simp)).mono (by simp);have q1:=(q0.trans pN (by intro q hq;right;simp at hq;omega)).trans yO (by simp);have q2:=q1.trans oq fun q hq=> .inl hq;have q3:=q2.trans xW fun q hq=>(py q hq).imp id fun h=>by omega
   have q4:=q3.trans AM fun q hq=>(Pc q hq).imp id fun h=>by omega
   exact(q4.trans PY (by simp)).trans (PX _) (by intro q hq;right;simp at hq;omega)
  ·intro b hb;unfold PI.all at hb;simp only[age]at hb;have h2d:=sw bd (by simp);have h2n:=sw bn (by simp);have h2i:=sw bi (by simp);have h2c:=sw bc (by simp);rcases hb with hb|hb|hb|hb|hb|hb
   ·right;omega
   ·right;omega
   ·right;omega
   ·right;omega
   ·right;omega
   ·rcases Vr b hb with h1|h1
    ·left;exact h1
    ·right;omega
end
theorem PI.wL {π:PI}{b:Nat}(h:b∈π.Fd):b∈π.all:=by unfold PI.all;simp[h]
section
variable {st st':St} {π:PI} {G Gk:GM} {T:Nat}
end
section
variable {τ:Nat} {π:PI} {st st':St} {G:GM}
theorem GY {s:St}{leaf:Bool}{vc vk:CV}{K:CV->St->Prop}(h1:bW vc=true)(h2:bW vk=true)(hK:K (.ptr s.next 0) (St.new s (.cells [.bool leaf,vc,vk] 303 false))):
 upon (dd 303 [.bool false, .aa, .aa] s) fun x s2=>upon (aT 3 x (.agg [.bool leaf,vc,vk]) s2) fun _ s3=>K x s3:=mL rfl rfl (by simp[h1,h2]) hK
end
def ua (fr to:dS)(x:cU):Bool:= !decide (jq x.1 fr)&&(decide (to=[])||decide (jq x.1 to))
def ik (p:cU):List CV:=[.str p.1, .str p.2]
def fT (L:List cU):List CV:=(L.map ik).flatten
theorem oh (L:List cU):(fT L).length=L.length*2:=by unfold fT;rw[fh (w:=2) (by intro x hx;obtain⟨c,_,rfl⟩:=agJ.1 hx;rfl)];simp
theorem nO (a b:List cU):fT (a++b)=fT a++fT b:=by simp[fT]
structure Acc (st:St)(b:Nat)(A:List cU)(F:List Nat)(x:CV):Prop where
 get:st.mem.get b=some (.cells [x] 185 false)
 lt:b<st.next
 own:Own st x 2 188 (fT A) F
 F:∀q∈F,q<st.next/\q≠b
theorem Acc.keep {st st':St}{b:Nat}{A:List cU}{F:List Nat}{x:CV}(h:Acc st b A F x){X:List Nat}(hk:Kp X st st')(hb:b∉X)(hx:∀q∈F,q∉X):Acc st' b A F x:=
 ⟨(hk.keep b h.lt hb).trans h.get,ago h.lt hk.next,h.own.keep hk fun q hq=>⟨(h.F q hq).1,hx q hq⟩,fun q hq=>⟨ago (h.F q hq).1 hk.next,(h.F q hq).2⟩⟩
def Wc (b:Nat)(F:List Nat)(A:List cU)(st:St)(y:CV)(st':St):Prop:=y=I 0/\Kp (b::F) st st'/\∃x' F',Acc st' b A F' x'/\∀q∈F',q∈F\/st.next<=q
section
variable {τ:Nat} {π:PI} {st st':St} {G:GM} {fr to:dS}
theorem VS {s:St}{p:Nat}{x:CV}{l:List CV}{ty:TypeId}{g:Bool}(hg:s.mem.get p=some (.cells (x::l) ty g)){K:CV->Prop}(hK:K x):us (aw (.ptr p 0) s) K:=by
 rw[av,hg,ao];exact hK
theorem Fq {s:St}{p:Nat}{key:dS}{v:List UInt8}{l:List CV}{ty:TypeId}{g:Bool}(hg:s.mem.get p=some (.cells (.str key::l) ty g)){K:CV->Prop}(hK:K (.bool (!ua fr to (key,v)))):
 us (ai .lss none false (.str key) (.str fr) s) fun dx=>us (aS (ag false dx) s (.ok (.str to) s)) fun cX=>us (aS (ag false dx) s (ai .neq (some .str) true cX (.str []) s)) fun dp=>us (aS (ag false dx) s (.ok dp s)) fun db=>
  eu (ag true db) 0 (.ptr p 0) s fun dm=>us (aS (ag true db) s (.ok (.str to) s)) fun dB=>us (aS (ag true db) s (ai .geq none false dm dB s)) fun dV=>us (aS (ag false dx) s (aK db dV (.bool false) s)) fun dU=>us (aK dx (.bool true) dU s) K:=by
 rw[fV,DG,ae];unfold ua at hK
 by_cases h1:jq key fr
 ·simp only[h1,agW,agm,Bool.false_and,agj]at hK;simp only[agi h1,aE,afY,agn,agm,bT,ae,eu,aF,ags,eP];exact hK
 ·simp only[agc h1,agj,Bool.true_and]at hK;simp only[agc h1,aE,afY,agn,agj,aM,ae,fV,rP]
  by_cases h2:to=[]
  ·simp only[h2,agW,Bool.true_or,agm]at hK;simp only[h2,agW,agm,ags,bT,ae,eu,aF,afY,agn];exact hK
  ·simp only[agc h2,Bool.false_or]at hK;simp only[agc h2,agj,ags,aM,ae,eu,aF,af,av,hg,ao,afZ,afX,au,fV,rQ,afY,agn];have:decide (nE to key)= !decide (jq key to):=by unfold nE;by_cases h:jq key to<;>simp[h]
   rw[this];exact hK
def Iq (n:ek)(fr to:dS)(i:Nat):Prop:=(∃c,n.cells[i]?=some c/\nE c.key fr)\/(0<i/\to≠[]/\∃c,n.cells[i-1]?=some c/\nE to c.key)
theorem Ic {X:List Nat}{s:St}{vc:CV}{n:ek}(c:Sl s X vc 4 (gR n.cells)){i:Nat}(hi:i<n.cells.length){K:CV->Prop}(hK:K (.str n.cells[i].key)):kP (some true) 4 0 vc (I i) s K:=by
 obtain⟨b,p,l,t,g,q1,q2,q3,q4,q5⟩:=c.cellAt (L:=n.cells.map cr) (by omega) (pH _) (i:=i) (by simpa using hi);have q6:=q5 0 (.str n.cells[i].key) (by simp[cr]);rw[ahC]at q6;simp only[aM,ae,kP,af,av,ao,ahC,q1,q2,q6,au];exact hK
theorem Ec {X:List Nat}{s:St}{p:Nat}{lf:CV}{n:ek}{vc vk:CV}(g:s.mem.get p=some (.cells [lf,vc,vk] 303 false))(c:Sl s X vc 4 (gR n.cells))(uS:n.cells.length<=512){i:Nat}(hi:i<=n.cells.length){K:CV->Prop}(hT:Iq n fr to i->K (.bool true))(hF:¬Iq n fr to i->K (.bool false)):
 fl 1 (.ptr p 0) s fun oJ=>us (bO .slice oJ s) fun qn=>us (ai .lss none false (I i) qn s) fun kF=>eu (ag true kF) 1 (.ptr p 0) s fun tp=>us (aS (ag true kF) s (.ok (I i) s)) fun tn=>
  kP (ag true kF) 4 0 tp tn s fun qZ=>us (aS (ag true kF) s (.ok (.str fr) s)) fun tm=>us (aS (ag true kF) s (ai .leq none false qZ tm s)) fun qm=>us (aK kF qm (.bool false) s) fun me=>
  us (aS (ag false me) s (.ok (I i) s)) fun nJ=>us (aS (ag false me) s (ai .gtr none true nJ (.int .i64 0) s)) fun mj=>us (aS (ag false me) s (.ok mj s)) fun qY=>us (aS (ag true qY) s (.ok (.str to) s)) fun ve=>
  us (aS (ag true qY) s (ai .neq (some .str) true ve (.str []) s)) fun ru=>us (aS (ag false me) s (aK qY ru (.bool false) s)) fun wO=>us (aS (ag false me) s (.ok wO s)) fun kE=>eu (ag true kE) 1 (.ptr p 0) s fun qX=>
  us (aS (ag true kE) s (.ok (I i) s)) fun vd=>us (aS (ag true kE) s (ai .sub none true vd (.int .i64 1) s)) fun wX=>kP (ag true kE) 4 0 qX wX s fun yV=>us (aS (ag true kE) s (.ok (.str to) s)) fun tl=>
  us (aS (ag true kE) s (ai .geq none false yV tl s)) fun Ag=>us (aS (ag false me) s (aK kE Ag (.bool false) s)) fun yU=>us (aK me (.bool true) yU s) K:=by
 have hlen:=c.len n.cells.length (gQ _) (by omega) s;have OH:∀(j:Nat) (hj:j<n.cells.length) (K:CV->Prop),K (.str n.cells[j].key)->kP (some true) 4 0 vc (I j) s K:=fun j hj K hK=>Ic c hj hK;rw[fl,af,ae,av,g,ao];simp only[afZ,agb,afX,au,hlen,ae,de]
 have O4:¬(∃c,n.cells[i]?=some c/\nE c.key fr)->us (ai .gtr none true (I i) (.int .i64 0) s) fun mj=>us (.ok mj s) fun qY=>us (aS (ag true qY) s (.ok (.str to) s)) fun ve=>
  us (aS (ag true qY) s (ai .neq (some .str) true ve (.str []) s)) fun ru=>us (aK qY ru (.bool false) s) fun wO=>us (.ok wO s) fun kE=>eu (ag true kE) 1 (.ptr p 0) s fun qX=>
  us (aS (ag true kE) s (.ok (I i) s)) fun vd=>us (aS (ag true kE) s (ai .sub none true vd (.int .i64 1) s)) fun wX=>kP (ag true kE) 4 0 qX wX s fun yV=>us (aS (ag true kE) s (.ok (.str to) s)) fun tl=>
  us (aS (ag true kE) s (ai .geq none false yV tl s)) fun Ag=>us (aK kE Ag (.bool false) s) fun yU=>us (aK (.bool false) (.bool true) yU s) K:=fun qT=>by
  have e0:ai .gtr none true (I i) (.int .i64 0) s= .ok (.bool (decide (0<i))) s:=by rw[aA,cC];congr 2;simp only[ahf];omega
  rw[e0,ae,ae]
  by_cases h0:0<i
  ·simp only[agi h0,aE,ags,aM,ae,fV,rP,aF]
   by_cases h2:to=[]
   ·simp only[h2,agW,agm,bT,ae,eu,kP,afY,agn]
    exact hF fun h=>by
     rcases h with h|h
     ·exact qT h
     ·exact h.2.1 h2
   ·simp only[agc h2,agj,ags,aM,ae,eu,af,av,g,ao,afZ,agb,afX,au,Bn i (by omega) h0];have hj:i-1<n.cells.length:=by omega
    refine OH (i-1) hj _ ?_;simp only[fV,rQ,ae,afY,agn]
    by_cases h3:nE to n.cells[i-1].key
    ·rw[agi h3];exact hT (.inr ⟨h0,h2,_,agh hj,h3⟩)
    ·rw[agc h3]
     exact hF fun h=>by
      rcases h with h|⟨_,_,c',qg,h⟩
      ·exact qT h
      ·rw[agh hj]at qg;cases qg;exact h3 h
  ·simp only[agc h0,aE,ags,bT,ae,eu,kP,aF,afY,agn]
   exact hF fun h=>by
    rcases h with h|h
    ·exact qT h
    ·exact h0 h.1
 by_cases h1:i<n.cells.length
 ·simp only[agi h1,aE,ags,aM,ae,eu,af,av,g,ao,afZ,agb,afX,au];refine OH i h1 _ ?_;simp only[fV,DH,ae,aF,ags]
  by_cases h2:nE n.cells[i].key fr
  ·simp only[agi h2,aE,afY,agn,agm,bT,ae,ags,eP,kP];exact hT (.inl ⟨_,agh h1,h2⟩)
  ·have:=O4 fun ⟨c',qg,h⟩=>by rw[agh h1]at qg;cases qg;exact h2 h
   simp only[agc h2,aE,afY,agn,agj,aM];simp only[eu,af,ae,afZ]at this⊢;exact this
 ·have:=O4 fun ⟨c',qg,h⟩=>by rw[agL (by omega)]at qg;cases qg
  simp only[agc h1,aE,ags,bT,ae,eu,kP,aF,afY,agn,agj,aM];simp only[eu,kP,af,ae,afZ]at this⊢;exact this
theorem yY:∀(m h:Nat),h=m->∀{st:St} {G:GM} {dA dep b:Nat} {lo:dS} {hi:Option dS} {Ls A:List cU} {ps F:List Nat} {ax:CV},Tg τ π st G->Sub G h dA lo hi Ls ps->dep+h<=20->Acc st b A F ax->(∀q∈b::F,q∉π.all/\q≠τ)->A.length+Ls.length<=50000000->
 R 117 [.ptr τ 0,I dA,I dep, .str fr, .str to, .ptr b 0] st (Wc b F (A++Ls.filter (ua fr to)) st):=by
 intro m
 induction m using Nat.strongRecOn with
 |_ m ih=>
  intro h hm st G dA dep b lo hi Ls A ps F ax ht hs acN EM hX hlen;obtain⟨n,q,hn,OU,rfl⟩:=hs;refine bp ?_;rw[R6];refine(C2 ht hn).mono ?_;rintro _ s1 ⟨xn,rfl,k1,hxn⟩
  have X3:∀q∈b::F,q<st.next:=by
   intro q hq;rcases age.1 hq with rfl|hq
   ·exact EM.lt
   ·exact(EM.F q hq).1
  obtain⟨vc,vk,rfl,c1,c2⟩:=hxn (b::F) X3;rw[ay,ae,aL,ay,ae];refine GY c1.jg.2.1 c2.jg.2.1 ?_;have k3:Kp [] s1 (St.new s1 (.cells [.bool n.leaf,vc,vk] 303 false)):=(Kp.refl [] s1).new _;have g3:(St.new s1 (.cells [.bool n.leaf,vc,vk] 303 false)).mem.get s1.next=some (.cells [.bool n.leaf,vc,vk] 303 false):=aG _ _;have n3:(St.new s1 (.cells [.bool n.leaf,vc,vk] 303 false)).next=s1.next+1:=rfl;generalize St.new s1 (.cells [.bool n.leaf,vc,vk] 303 false)=s3 at*;have K3:=k1.trans k3 (by simp);have K3n:=K3.next;have k1n:=k1.next;have t3:=ht.still K3;have Pz:=EM.keep K3 (by simp) (by simp);have VY:=c1.mono (k3.mono (by simp));have YA:=c2.mono (k3.mono (by simp));have e2:∀s,ai .neq (some .int) true (I 0) (.int .i64 0) s= .ok (.bool false) s:=fun s=>rfl
  have uS:n.cells.length<=512:=by
   have:=oC n.leaf n.cells;have:=hn.size;rw[vu]at this;omega
  rw[e2,ae,ah,agf (by decide)];rw[fl,af,ae,av,g3,ao];simp only[afZ,afX,au,ah];cases h with
  |zero=>
   obtain⟨pv,hlt,Qu,kx⟩:=(show xS G n lo hi Ls q from OU);rw[pv,agl rfl];have Qo:=VY.len n.cells.length (gQ _) (by omega) s3;simp only[bP,aI,aJ,fl,af,ae,av,g3,ao,afZ,agb,afX,au,Qo];refine bA (fun fu vs s=>∃i A' F' x' Li pi,fu+i=n.cells.length/\vs=[.ptr τ 0, .str fr, .str to, .ptr b 0,vc,I n.cells.length,I i]/\Kp (b::F) s3 s/\Acc s b A' F' x'/\(∀q∈F',q∈F\/s3.next<=q)/\lZ G (n.cells.drop i) Li pi/\A'++Li.filter (ua fr to)=A++Ls.filter (ua fr to)/\A'.length+Li.length<=50000000) ?_ (n:=n.cells.length) ⟨0,A,F,ax,Ls,q,rfl,rfl,Kp.refl _ _,Pz,fun q hq=> .inl hq,Qu,rfl,hlen⟩;rintro fu vs s k ⟨i,A',F',x',Li,pi,hi,rfl,hk,acc,oz,Qv,CL,uP⟩ next;simp only[aI,aJ,de,ae,ah]
   by_cases hc:i<n.cells.length
   ·rw[agi hc,agl rfl];refine(VY.mono hk).jh (L:=n.cells.map cr) (by omega) (pH _) (by simpa using hc) _ ?_;have e:(n.cells.map cr)[i]'(by simpa using hc)=cr n.cells[i]:=by simp
    rw[e];refine mL rfl rfl (jG _) ?_;have k7:Kp [] s (St.new s (.cells (cr n.cells[i]) 307 false)):=(Kp.refl _ s).new _;have g7:(St.new s (.cells (cr n.cells[i]) 307 false)).mem.get s.next=some (.cells [.str n.cells[i].key, .str n.cells[i].value,I n.cells[i].ej,I n.cells[i].size] 307 false):=aG _ _;have n7:(St.new s (.cells (cr n.cells[i]) 307 false)).next=s.next+1:=rfl;generalize St.new s (.cells (cr n.cells[i]) 307 false)=s7 at*;have Py:=acc.keep k7 (by simp) (by simp);have wq:=hk.next;rw[ahh hc]at Qv;obtain⟨v,p1,L2,p2,hval,OV,rfl,rfl⟩:=Qv
    have ho:n.cells[i].ok true:=by
     have:=hn.ok.cell _ (agx hc)
     rwa [pv]at this
    refine VS g7 ?_;refine Fq (v:=v) g7 ?_;simp only[ah];cases hb:ua fr to (n.cells[i].key,v)with
    |false=>
     rw[agj,agl rfl,gW i (by omega),ae];rw[List.filter_cons,hb,agf (by decide)]at CL;exact next (fu-1) _ _ (by omega) ⟨i+1,A',F',x',L2,p2,by omega,rfl,hk.trans k7 (by simp),Py,oz,OV,CL,by simp at uP;omega⟩
    |true=>
     rw[agm,agf (by decide)];rw[List.filter_cons,hb,agl rfl]at CL
     have X5:∀q∈b::F',q∉π.all/\q≠τ:=by
      intro q hq;rcases age.1 hq with rfl|hq
      ·exact hX _ (by simp)
      ·rcases oz q hq with h|h
       ·exact hX _ (by simp[h])
       ·exact⟨fun hh=>by have:=ht.pg.lt q hh;omega,fun e=>by have:=ht.lt;omega⟩
     have ts:=(t3.AL hk hX).still k7;rw[aR (n:=4) g7 rfl,ae];refine(CS ts ho hval).mono ?_;rintro _ s8 ⟨rfl,k8⟩;have n8:=k8.next;have Fy:=Py.keep k8 (by simp) (by simp);have g8:=(k8.keep s.next (by omega) (by simp)).trans g7;rw[ay,ae,aL,ay,ae,e2,ae,ah,agf (by decide),bG];have ks:=(Kp.refl [] s8).skip;have KT:=k8.fresh ts.fr;have iX:(St.skip s8).mem.get s8.next=none:=KT _ (aga _);have WJ:(St.skip s8).next=s8.next+1:=rfl;have yF:=Fy.keep ks (by simp) (by simp);have gk:(St.skip s8).mem.get s.next=_:=g8;generalize St.skip s8=sk at*;have kx:bf [.str [], .str []] [(0,1, .str n.cells[i].key),(1,1, .str v)] sk= .ok (.agg (ik (n.cells[i].key,v))) sk:=rfl;have ada:A'.length<=50000000:=by omega
     have gkb:=yF.get;rw[aV,ae,av,gkb,ao];simp only[afX,au];rw[af,ae,av,gk,ao];simp only[afZ,afX,au];rw[kx,ae];refine lT 32 yF.own (by omega) (fun q hq=>⟨(yF.F q hq).1,by have:=(Fy.F q hq).1;omega⟩) (by omega) iX rfl rfl rfl rfl (by rw[oh];omega) ?_;intro v' cw F2 o2 kZ py;have DY:=kZ.next;have YC:=Fy.lt
     have Vi:b∉s8.next::F':=by
      intro hh;rcases age.1 hh with h|h
      ·omega
      ·exact(Fy.F b h).2 rfl
     have VD:=(kZ.keep b yF.lt Vi).trans yF.get;obtain⟨oc1,SN⟩:=o2.bW;have nj:bB [x'] 0 [v']=[v']:=rfl;have Vz:(St.set sk s8.next (.cells (CV.agg (ik (n.cells[i].key,v))).bL 188 false)).mem.get b=some (.cells [x'] 185 false):=(aq _ _ _ _ (by omega)).trans yF.get;have Pj:(St.set sk s8.next (.cells (CV.agg (ik (n.cells[i].key,v))).bL 188 false)).mem.get s.next=_:=(aq _ _ _ _ (by omega)).trans gk;rw[aV,ae,aQ,VD,bg,SN,nj,av,Vz,ao,av,Pj,ao];refine⟨⟨rfl,by simp[oc1],by simp⟩,⟨⟨rfl,trivial⟩,⟨rfl,trivial⟩,trivial⟩,⟨trivial,trivial⟩, ?_⟩;rw[gW i (by omega),ae]
     have A5:∀q∈F2,(q∈F\/s3.next<=q)/\q<cw.next/\q≠b:=fun q hq=>by
      obtain⟨a1,a2⟩:=py q hq;refine⟨?_,a2, ?_⟩
      ·rcases a1 with h|h
       ·exact oz q h
       ·right;omega
      ·rcases a1 with h|h
       ·exact(Fy.F q h).2
       ·intro e;omega
     have SX:=(((hk.trans k7 (by simp)).trans k8 (by simp)).trans ks (by simp)).trans kZ fun q hq=>by
      rcases age.1 hq with rfl|hq
      ·right;omega
      ·exact(oz q hq).imp (fun h=>by simp[h]) id
     refine next (fu-1) _ _ (by omega) ⟨i+1,A'++[(n.cells[i].key,v)],F2,v',L2,p2,by omega,rfl,SX.set _ (.inl (by simp)) (by have:=yF.lt;omega),⟨az _ _ _,by have:=yF.lt;simp;omega, ?_,fun q hq=>⟨(A5 q hq).2.1,(A5 q hq).2.2⟩⟩,fun q hq=>(A5 q hq).1,OV, ?_, ?_⟩
     ·have e:fT A'++(CV.agg (ik (n.cells[i].key,v))).bL=fT (A'++[(n.cells[i].key,v)]):=by rw[nO];rfl
      rw[e]at o2;exact o2.mono fun q hq=>aq _ _ _ _ (A5 q hq).2.2
     ·rw[<-CL];simp
     ·simp at uP⊢;omega
   ·rw[agc hc,agf (by decide)];have hnil:n.cells.drop i=[]:=agR (by omega);rw[hnil]at Qv;obtain⟨rfl,_⟩:=(show Li=[]/\pi=[]from Qv);simp only[List.filter_nil,ahc]at CL;refine⟨rfl,(K3.mono (by simp)).trans hk fun q hq=> .inl hq,x',F',by rw[<-CL];exact acc,fun q hq=>(oz q hq).imp id fun h=>by omega⟩
  |succ h=>
   obtain⟨pv,CF⟩:=(show Ef (Sub G h) n lo hi Ls q from OU);rw[pv,agf (by decide)];have e40:ai .eql (some .int) true (I dep) (.int .i64 40) s3= .ok (.bool false) s3:=by rw[aA,eT,agc (by omega)]
   rw[e40,ae,ah,agf (by decide)];have wq:=hn.ok.Eb;rw[pv,agf (by decide)]at wq;have wS:=YA.len n.kids.length (by simp) (by omega) s3;rw[bP];simp only[aI,aJ];rw[fl,af,ae,av,g3,ao];simp only[afZ,agb,afX,au];rw[wS,ae]
   refine bA (fun fu vs s=>∃i A' F' x' Li pi,fu+i=n.kids.length/\vs=[.ptr τ 0,I dep, .str fr, .str to, .ptr b 0, .ptr s1.next 0,vk,I n.kids.length,I i]/\Kp (b::F) s3 s/\Acc s b A' F' x'/\(∀q∈F',q∈F\/s3.next<=q)/\
    ((i=n.kids.length/\Li=[])\/∃NB,ez (Sub G h) (n.kids.drop i) (n.rE.drop i) NB hi Li pi/\∀c,0<i->n.cells[i-1]?=some c->c.key=NB)/\A'++Li.filter (ua fr to)=A++Ls.filter (ua fr to)/\A'.length+Li.length<=50000000) ?_ (n:=n.kids.length)
    ⟨0,A,F,ax,Ls,q,rfl,rfl,Kp.refl _ _,Pz,fun q hq=> .inl hq, .inr ⟨lo,by rw[agC,agC];exact CF,fun c h0=>absurd h0 (Nat.lt_irrefl 0)⟩,rfl,hlen⟩
   rintro fu vs s k ⟨i,A',F',x',Li,pi,gK,rfl,hk,acc,oz,I9,CL,uP⟩ next;simp only[aI,aJ];rw[de,ae,ah];have CE:=hk.next
   by_cases hc:i<n.kids.length
   ·rw[agi hc,agl rfl];rcases I9 with⟨he,_⟩|⟨NB,sr,Uq⟩
    ·omega
    have ci:=VY.mono hk;have di:=YA.mono hk;have gi:=(hk.keep s1.next (by omega) (fun hh=>by have:=X3 _ hh;omega)).trans g3;refine di.idx (i:=i) (by simpa using hc) _ ?_;have e9:(fX n.kids)[i]'(by simpa using hc)=I n.kids[i]:=by simp[fX]
    rw[e9]
    have UR:∃F6 L1 p1 L2 p2,Sub G h n.kids[i] NB F6 L1 p1/\Li=L1++L2/\(∀c,n.cells[i]?=some c->F6=some c.key)/\((i+1=n.kids.length/\L2=[])\/∃NA,ez (Sub G h) (n.kids.drop (i+1)) (n.rE.drop (i+1)) NA hi L2 p2/\∀c,0<i+1->n.cells[i+1-1]?=some c->c.key=NA):=by
     rw[ahh hc]at sr
     by_cases hl:i<n.rE.length
     ·rw[ahh hl]at sr;obtain⟨L1,p1,L2,p2,a,b',rfl,rfl⟩:=ez.cons.1 sr
      have NZ:∀c,n.cells[i]?=some c->c.key=n.rE[i]:=fun c qg=>by
       obtain⟨h1,h2⟩:=agt.1 qg;simp[ek.rE,h2]
      exact⟨_,L1,p1,L2,p2,a,rfl,fun c qg=>by rw[NZ c qg], .inr ⟨_,b',fun c _ qg=>NZ c (by simpa using qg)⟩⟩
     ·rw[agR (show n.rE.length<=i by omega)]at sr;obtain⟨he,hS⟩:=ez.one.1 sr;rw[Dk]at hl;exact⟨_,Li,pi,[],[],hS,by simp,fun c qg=>(by rw[agL (by omega)]at qg;cases qg), .inl ⟨by omega,rfl⟩⟩
    obtain⟨F6,L1,p1,L2,p2,hS,rfl,UM,IF⟩:=UR;have hfc:=hS.facts;refine Ec gi ci uS (by omega) (fun Xn=> ?_) (fun Xn=> ?_)
    ·rw[ah,agl rfl,gW i (by omega),ae]
     have iX:L1.filter (ua fr to)=[]:=yp fun x hx=>by
      obtain⟨b1,b2⟩:=hfc.NK x hx;unfold ua;rcases Xn with⟨c,qg,hle⟩|⟨h0,h2,c,qg,hle⟩
      ·rw[UM c qg]at b2;have b2:jq x.1 c.key:=b2;have:=b2.rz hle;rw[agi this];rfl
      ·have b3:nE to x.1:=by
        have:=Uq c h0 qg;rw[this]at hle;exact hle.trans b1
       have:=agc b3;rw[agc h2,this];simp
     rw[List.filter_append,iX,agE]at CL;exact next (fu-1) _ _ (by omega) ⟨i+1,A',F',x',L2,p2,by omega,rfl,hk,acc,oz,IF,CL,by simp at uP;omega⟩
    ·rw[ah,agf (by decide),gW dep (by omega),ae]
     have X5:∀q∈b::F',q∉π.all/\q≠τ:=by
      intro q hq;rcases age.1 hq with rfl|hq
      ·exact hX _ (by simp)
      ·rcases oz q hq with h|h
       ·exact hX _ (by simp[h])
       ·exact⟨fun hh=>by have:=ht.pg.lt q hh;omega,fun e=>by have:=ht.lt;omega⟩
     have ts:=t3.AL hk hX;refine(ih h (by omega) h rfl ts hS (by omega) acc X5 (by simp at uP;omega)).mono ?_;rintro _ ep ⟨rfl,yO,x2,F2,Wa,py⟩;rw[e2,ae,ah,agf (by decide),gW i (by omega),ae];refine next (fu-1) _ _ (by omega) ⟨i+1,A'++L1.filter (ua fr to),F2,x2,L2,p2,by omega,rfl,hk.trans yO fun q hq=> ?_,Wa,fun q hq=> ?_,IF, ?_, ?_⟩
     ·rcases age.1 hq with rfl|hq
      ·left;simp
      ·exact(oz q hq).imp (fun h=>by simp[h]) id
     ·rcases py q hq with h|h
      ·exact oz q h
      ·right;omega
     ·rw[<-CL,List.filter_append,agv]
     ·have:=List.length_filter_le (ua fr to) L1;simp at uP⊢;omega
   ·rw[agc hc,agf (by decide)]
    have hLi:Li=[]:=by
     rcases I9 with⟨_,h⟩|⟨NB,sr,_⟩
     ·exact h
     ·have:=sr.len;rw[ahd,ahd]at this;omega
    subst hLi;simp only[List.filter_nil,ahc]at CL;refine⟨rfl,(K3.mono (by simp)).trans hk fun q hq=> .inl hq,x',F',by rw[<-CL];exact acc,fun q hq=>(oz q hq).imp id fun h=>by omega⟩
theorem Sub.short {G:GM}:∀{h dA:Nat} {lo:dS} {hi:Option dS} {L:List cU} {ps:List Nat},Sub G h dA lo hi L ps->L.length<=512*ps.length:=by
 intro h
 induction h with
 |zero=>
  rintro dA lo hi L ps ⟨n,q,hn,⟨_,_,hc,_⟩,rfl⟩;have:=hc.len;have h1:=oC n.leaf n.cells;have h2:=hn.size;rw[vu]at h2;simp;omega
 |succ h ih=>
  rintro dA lo hi L ps ⟨n,q,hn,⟨_,hk⟩,rfl⟩
  have key:∀(ks:List Nat) (ss:List dS) lo L q,ez (Sub G h) ks ss lo hi L q->L.length<=512*q.length:=by
   intro ks
   induction ks with
   |nil=>intro ss lo L q hk;cases ss<;>exact hk.elim
   |cons k ks SZ=>
    intro ss lo L q hk;cases ss with
    |nil=>rw[ez.one]at hk;exact ih hk.2
    |cons s ss=>
     rw[ez.cons]at hk;obtain⟨L1,p1,L2,p2,a,b,rfl,rfl⟩:=hk;have h1:=ih a;have h2:=SZ _ _ _ _ b;simp;omega
  have:=key _ _ _ _ _ hk;simp;omega
end
section
variable {τ:Nat} {π:PI} {st st':St} {G:GM} {fr to:dS}
theorem Dt {L:List cU}(ht:jj G L)(h0:G.root=0):L=[]:=by
 rcases ht.tree with h|⟨hh,ps,_,hs⟩
 ·exact h.2
 ·obtain⟨n,q,hn,_⟩:=hs;have:=hn.js.1;omega
theorem Dx (h:Tg τ π st G){L:List cU}(ht:jj G L)(fr to:dS):R 75 [.ptr τ 0, .str fr, .str to] st fun y st'=>∃x,y= .tuple [x,I 0]/\Made 2 188 (fT (L.filter (ua fr to))) st x st':=by
 refine bp ?_;rw[Zf];rw[bD,ae,ah,agf (by decide)];refine h.get' ?_;refine(DE h.pg).same ?_;have e0:ai .eql (some .int) true (I G.root) (.int .i64 0) st= .ok (.bool (decide (G.root=0))) st:=by rw[aA,eT];congr 2;simp only[ahf];omega
 rw[e0,ae,ah]
 by_cases h0:G.root=0
 ·rw[agi h0,agl rfl,Dt ht h0];exact⟨.aa,rfl,[],Kp.refl _ _, .inl ⟨rfl,rfl,rfl⟩,by simp⟩
 ·rw[agc h0,agf (by decide),cn,bj];have k2:Kp [] st (St.new st (.cells [.aa] 185 false)):=(Kp.refl [] st).new _;have g2:(St.new st (.cells [.aa] 185 false)).mem.get st.next=some (.cells [.aa] 185 false):=aG _ _;have n2:(St.new st (.cells [.aa] 185 false)).next=st.next+1:=rfl;generalize St.new st (.cells [.aa] 185 false)=s2 at*;have t2:=h.still k2;refine t2.get' ?_;refine(DE t2.pg).same ?_
  obtain⟨hh,ps,uO,hs⟩:∃h ps,ps.Nodup/\Sub G h G.root [] none L ps:=by
   rcases ht.tree with h|h
   ·exact absurd h.1 h0
   ·exact h
  have I7:=hs.deep uO ht.ok;have Cz:=hs.short;have h2:=xD uO hs.bE ht.ok.one;have h3:=ht.ok.kq;have h4:=ht.ok.size;have EM:Acc s2 st.next [] [] .aa:=⟨g2,by omega, .inl ⟨rfl,rfl,rfl⟩,by simp⟩;refine(yY hh hh rfl (dep:=0) t2 hs (by omega) EM (fun q hq=> ?_) (by simp;omega)).mono ?_
  ·have hq:q=st.next:=by simpa using hq
   subst hq;exact⟨fun hh=>by have:=h.pg.lt _ hh;omega,fun e=>by have:=h.lt;omega⟩
  ·rintro _ s4 ⟨rfl,k4,x,F,acc,hF⟩;have e2:ai .neq (some .int) true (I 0) (.int .i64 0) s4= .ok (.bool false) s4:=rfl;rw[e2,ae,ah,agf (by decide),av,acc.get,ao];refine⟨x,rfl,F,k2.trans k4 (by simp), ?_,fun q hq=>⟨?_,(acc.F q hq).1⟩⟩
   ·have:=acc.own
    rwa [agE]at this
   ·rcases hF q hq with h|h
    ·cases h
    ·omega
theorem Gl (h:Pg π st G)(hf:dw st):R 57 [.ptr π.p 0] st fun v st'=>v= .ptr st.next 0/\Kp [] st st'/\Tg st.next π st' G:=by
 refine bp ?_;rw[Zu];have kx:bf [.aC] [(0,1, .ptr π.p 0)] st= .ok (.agg [.ptr π.p 0]) st:=rfl;rw[bD,ae,ah,agf (by decide),kx,ae,br,ba];refine⟨rfl,rfl,(Kp.refl [] st).new _, ?_⟩;have k:Kp [] st (St.new st (.cells [.ptr π.p 0] 237 false)):=(Kp.refl [] st).new _;exact⟨h.still k,by simp,fun hh=>by have:=h.lt _ hh;omega,⟨237,false,aG _ _⟩,k.fresh hf⟩
end
structure nT (τ:Nat)(π:PI)(st:St)(L Lk:List cU)(T N fr:Nat):Prop where
 ex:∃G Gk,Tg τ π st G/\jj G L/\gG π st Gk T/\jj Gk Lk/\G.bE=Gk.bE/\G.sD=fr
 calm:Calm π.D
 len:π.D.ar.length=N
structure sZ (c:Nat)(τ:Nat)(π:PI)(st:St)(L Lk:List cU)(T N fr:Nat):Prop where
 ex:∃G Gk,Tg τ π st G/\jj G L/\gG π st Gk T/\jj Gk Lk/\G.bE=Gk.bE/\G.sD=fr/\G.fc.length<=c
 calm:Calm π.D
 len:π.D.ar.length=N
def PB (L:List cU)(N T:Nat)(D:aW):Prop:=∃G,jj G L/\PD G N T D
def own (τ:Nat)(π:PI):List Nat:=τ::((match π.lg with| .ptr r _=>[r]|_=>[])++π.all)
theorem o7 {τ:Nat}{π:PI}{b:Nat}(h:b∈π.all):b∈own τ π:=by unfold own;simp[h]
section
variable {τ:Nat} {π:PI} {st st':St} {L Lk:List cU} {T N fr:Nat}
theorem gG.log {Gk:GM}(h:gG π st Gk T):∃r,π.lg= .ptr r 0/\r∉π.all/\r<st.next:=by
 obtain⟨base,last,P,Ls,r,a,b,c,d,e,f⟩:=h.ex;exact⟨r,c,e,d.1⟩
theorem gG.still {Gk:GM}(h:gG π st Gk T)(hk:Kp [] st st'):gG π st' Gk T:=h.keep hk (by simp)
def PL (τ:Nat)(π:PI)(S:aW->Prop)(st st':St):Prop:=Kp (own τ π) st st'/\π.D.set=true/\∃F' D',cV st' π.a F' D'/\(∀b∈F',b∈own τ π\/st.next<=b)/\D'.dead=true/\S D'
theorem sZ.t2 {c:Nat}(h:sZ c τ π st L Lk T N fr):nT τ π st L Lk T N fr:=by
 obtain⟨⟨G,Gk,a,b,d,e,f,g,_⟩,i,j⟩:=h;exact⟨⟨G,Gk,a,b,d,e,f,g⟩,i,j⟩
theorem sZ.still {c:Nat}(h:sZ c τ π st L Lk T N fr)(hk:Kp [] st st'):sZ c τ π st' L Lk T N fr:=by
 obtain⟨⟨G,Gk,a,b,c,d,e⟩,f,g⟩:=h;exact⟨⟨G,Gk,a.still hk,b,c.still hk,d,e⟩,f,g⟩
def Ae (a:Nat)(F:List Nat)(Lk:List cU)(T N:Nat)(set:Bool)(st:St)(v:CV)(st':St):Prop:=
 ∃π' Gk,v= .tuple [.ptr π'.p 0,I 0]/\π'.a=a/\Pg π' st' Gk/\dw st'/\gG π' st' Gk T/\jj Gk Lk/\Calm π'.D/\π'.D.ar.length=N/\Kp F st st'/\(∀b∈π'.all,b∈F\/st.next<=b)/\(∃r,π'.lg= .ptr r 0/\st.next<=r)/\π'.D.set=set
theorem rp.to {a:Nat}{F:List Nat}{D:aW}{Gk:GM}{T':Nat}{v:CV}(h:rp a F D Gk T' st v st')(hf:dw st)(Jf:jj Gk Lk)(hT:T'<=T):Ae a F Lk T D.ar.length D.set st v st':=by
 obtain⟨π',rfl,e1,hp,IV,k1,oy,_,qg,Uy,Up,iA⟩:=h;obtain⟨⟨b2,l2,P2,Ls2,r2,a1,a2,a3,a4,a5,a6⟩,b1,b2',b3⟩:=IV;exact⟨π',Gk,rfl,e1,hp,k1.fresh hf,⟨⟨b2,l2,P2,Ls2,r2,a1,by omega,a3,a4,a5,a6⟩,b1,b2',b3⟩,Jf,qg,Uy,k1,oy,Up,iA⟩
theorem JH (h:nT τ π st L Lk T N fr)(hT:T<=900000000):R 30 [.ptr π.a 0] st fun v st'=>Ae π.a π.Fd Lk T N π.D.set st v st'\/(v= .tuple [.aC,I 20]/\PL τ π (PB Lk N T) st st'):=by
 obtain⟨⟨G,Gk,ht,hL,hk,Jf,IM,rfl⟩,hc,hl⟩:=h;obtain⟨M,hP,tV,hd,wx,hF,hM6,hM7,hM8⟩:=ht.pg;obtain⟨⟨base,last,P,Ls,r,so,hlT,XL,po,hrn,KW⟩,hkf,hke,wq⟩:=hk;refine(GL hd ht.fr so.calm so.toK (by omega)).mono ?_;rintro v s1 (h1|⟨k1,_,rfl,rfl,iA,F',D',B9,oz,hs⟩)
 ·have:=h1.to ht.fr Jf hlT;rw[hl]at this;exact .inl this
 ·rw[hl]at hs;obtain⟨s1,s2,b,l,t,P',PF,kp,s3,s4⟩:=hs;exact .inr ⟨rfl,k1.mono fun q hq=> .inl (o7 (PI.wL hq)),iA,F',D',B9,fun b hb=>(oz b hb).imp (fun h=>o7 (PI.wL h)) id,s1,Gk,Jf,s1,s2,b,l,t,P',PF,kp,s3,by omega⟩
end
