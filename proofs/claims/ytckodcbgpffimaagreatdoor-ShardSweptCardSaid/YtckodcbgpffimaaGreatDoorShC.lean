import Derived.Test.YtckodcbgpffimaaGreatDoorShB
namespace Lim
open Go
noncomputable section
set_option linter.defProp false
set_option maxRecDepth 100000
section
variable {Z Z' s s':O} {h κ τ id n T:Nat} {π:PI} {S S' Vq0:mV} {L L':δ aT}
def agY {Kq0:O->Prop}(a:xr s h κ id n S)(b:∀s2,Kp [h] s s2->xr s2 h κ id n {Vq0 with gen:=S.gen}->Kq0 s2):Lim.sq 6 3 (.ptr h 0) (.agg (fM Vq0)) s Kq0:=by
 unfold sq;rw[bk,af,ah,af,aK,a.get,aU,aN];refine⟨⟨rfl,rfl,by simp[tI]⟩,?_⟩;exact b _ ((Δ [h] s).set _ (.inl V) a.lt) ⟨a.lt,ao ..⟩
def ark {Kq0:O->Prop}{g:Nat}(a:xr s h κ id n S)(b:∀s2,Kp [h] s s2->xr s2 h κ id n {S with gen:=g}->Kq0 s2):Lim.sq 1 9 (.ptr h 0) (I g) s Kq0:=by
 unfold sq;rw[bk,af,ah,af,aK,a.get,aU,show(I g).bY=[I g]from rfl];refine⟨⟨rfl,rfl,by simp[tI]⟩,?_⟩;exact b _ ((Δ [h] s).set _ (.inl V) a.lt) ⟨a.lt,ao ..⟩
def wD.Kq (H:wD s h κ τ π id n S L T)(c:Kp [h] s s')(a:xr s' h κ id n S')(f:S'.ok)(g:S.gen<=S'.gen):wD s' h κ τ π id n S' L T:=by
 obtain⟨fr,m,k,d,j⟩:=H.kv;have hn:=H.not;simp only[ip,rt]at hn;exact⟨⟨fr,m.off c λb i=>by simp;exact λe=>hn.2 (e▸i),(c.keep κ d (by simp;exact λe=>hn.1 e.symm)).trans k,ov d c.nx,j⟩,H.set,a,f,H.idb,H.nb,H.l.more g,H.not,c.fresh H.fr⟩
def uR.Kq {b:PI}{T':Nat}(w:uR Z s h κ τ π b id n S L T T')(d:Kp [h] s s')(a:xr s' h κ id n S')(e:S'.ok)(f:S.gen<=S'.gen):uR Z s' h κ τ π b id n S' L T T':=⟨w.kp.trans d λq c=>.inl (by simp at c;simp[c]),w.own,w.sh.Kq d a e f,w.le⟩
def stI {id n:Nat}{Vq0:mV}(hi:id<=5)(a:n<=3)(b:Vq0.ok)(g:Nat):QH (UInt8.ofNat (8+n)) g (jn id n Vq0):=by
 have c:(U1 id Vq0).length<=5*7:=Cd _ (Rk hi b);refine⟨⟨Hz (k:=[115]) a V,by show(U1 id Vq0).length<=_;omega,λe=>by cases e⟩,.inr (.inl ⟨by rw[show(jn id n Vq0).nm=(((8+n:Nat):Int),[115])from rfl,ri],by show(U1 id Vq0).length<=_;omega⟩)⟩
def Fp (S:mV)(id:Nat)(p q r:Int):mV:=⟨p.toNat,0,(oq S id q r).1,q.toNat,r.toNat,if (oq S id q r).2=θ then S.gen else S.gen+1⟩
def rG (S:mV)(id n:Nat)(p q r:Int):Bool×Nat×mV×δ nH:=
 if Lc p q r=φ then (φ,1,S,[])else if p<=S.jw then (φ,0,S,[])else (θ,0,Fp S id p q r,[jn id n (Fp S id p q r)])
def UL (Z:O)(h κ τ:Nat)(π:PI)(id n:Nat)(L:δ aT)(T:Nat)(r:Bool×Nat×mV×δ nH)(y:K)(s:O):Prop:=y=.tuple [.bool r.1,I r.2.1]/\∃a b,uR Z s h κ τ π a id n r.2.2.1 (gC L r.2.2.2) T b
def RS {p q r:Int}(h:Lc p q r=θ):(0<=p/\p<=2147483647)/\(0<=q/\q<=5)/\(0<=r/\r<=5):=by
 unfold Lc at h;simp only[mZ]at h;obtain⟨c,b,a,_⟩:=h;exact⟨by simpa[te]using c,by simpa[mB]using b,by simpa[mB]using a⟩
def Wz (S:mV)(id:Nat)(q r:Int):(oq S id q r).1<=5:=by
 unfold oq
 repeat' split
 all_goals simp only[]
 all_goals omega
set_option maxHeartbeats 1000000 in
def ahl (H:wD Z h κ τ π id n S L T)(hT:T<=800000000)(hL:L.length<=500)(hg:S.gen<1000000)(p q r:Int):
 Rq0 10 [.ptr h 0,.agg (CK p q r)] Z (UL Z h κ τ π id n L T (rG S id n p q r)):=by
 refine bE ?_;rw[w10,bz];refine⟨rfl,?_⟩;rw[aN];generalize lU:O.new Z (.cells (CK p q r) 32 false)=s1;obtain⟨k1,g1,n1⟩:=dB lU
 have d:∀(s:O) (b:Bool) (e:Nat),Kp [] Z s->rG S id n p q r=(b,e,S,[])->UL Z h κ τ π id n L T (rG S id n p q r) (.tuple [.bool b,I e]) s:=λs b e hk hw=>by
  rw[hw];exact⟨rfl,π,T,H.stay hk⟩
 have BP:=H.lts;rw[cc,af,ag,B tW,aG (n:=3) g1 rfl,af];refine(ahO p q r).mono ?_;rintro _ s2 ⟨rfl,C⟩;have n2:=C.nx;have u:=k1.trans C;have F:=(C.keep Z.nx J V).trans g1;rw[bZ,af,ag];cases v:Lc p q r with
 |false=>
  rw[ra,gq rfl];exact d s2 false 1 u (by unfold rG;rw[gq v])
 |true=>
 rw[r8,B tW,aZ];obtain⟨hp,hq,hr⟩:=RS v;obtain⟨p,rfl⟩:∃m:Nat,p=(m:Int):=⟨p.toNat,J⟩;obtain⟨q,rfl⟩:∃m:Nat,q=(m:Int):=⟨q.toNat,J⟩;obtain⟨r,rfl⟩:∃m:Nat,r=(m:Int):=⟨r.toNat,J⟩;have H2:=H.still u;have l0:(CK p q r)[0]?=some (I p):=rfl;have f0:(tI κ id n S)[0]?=some (.ptr κ 0):=rfl;have f3:(tI κ id n S)[3]?=some (I S.jw):=rfl;have f9:(tI κ id n S)[9]?=some (I S.gen):=rfl;have el:∀s,R .leq none false (I p) (I S.jw) s=.ok (.bool (decide (p<=S.jw))) s:=λs=>Hl
 simp only[rr,H2.at_.get,F,Nat.reduceAdd,f3,l0,el,ag,sE]
 by_cases hf:p<=S.jw
 .rw[jp hf,gq rfl];exact d s2 false 0 u (by unfold rG;rw[B (by simp[v]),gq J])
 rw[jo hf,B tW,aG (n:=3) F rfl,af];refine(abF H2.at_ p q r).mono ?_;rintro _ a ⟨rfl,z⟩;have n3:=z.nx;have K3:=u.trans z;have g3:=(z.keep Z.nx J V).trans F;have hM:rG S id n p q r=(true,0,Fp S id p q r,[jn id n (Fp S id p q r)]):=by unfold rG;rw[B (by simp[v]),B J]
 generalize hV:Fp S id p q r=Vq0 at*;have i:fM Vq0=[I p,I 0,.int .u8 ((oq S id q r).1:Nat),I p,I q,I r]:=by rw[<-hV];simp[fM,Fp]
 have P:Vq0.ok:=by
  have:=Wz S id q r;rw[<-hV];refine⟨show(p:Int).toNat<=2147483647 by omega,sw _,this,show(q:Int).toNat<=5 by omega,show(r:Int).toNat<=5 by omega,?_⟩;unfold Fp;dsimp only;split<;>omega
 have j:Vq0.gen=if (oq S id q r).2=true then S.gen else S.gen+1:=by rw[<-hV];rfl
 rw[aE,af,aL,aE,af,aZ];generalize PH:O.new a (.cells [.int .i64 0,.int .i64 0,.int .u8 0,.int .i64 0,.int .i64 0,.int .i64 0] 49 false)=s4;obtain⟨y,g4,n4⟩:=dB PH;have K4:=K3.trans y;have H4:=H.still K4;have Ax:=(y.keep Z.nx J V).trans g3;have hb:aR [.int .i64 0,.int .i64 0,.int .u8 0,.int .i64 0,.int .i64 0,.int .i64 0] [(0,1,I p),(2,1,.int .u8 ((oq S id q r).1:Nat)),(3,3,.agg (CK p q r))] s4=.ok (.agg (fM Vq0)) s4:=by rw[i];rfl
 rw[aG (n:=3) Ax rfl];simp only[rr,H4.at_.get,Ax,f9,l0,hb];rw[jZ g4,aP,aK,g4,aU,aN,db [.int .i64 0,.int .i64 0,.int .u8 0,.int .i64 0,.int .i64 0,.int .i64 0] (fM Vq0) rfl];refine⟨⟨rfl,by rw[i];rfl,V⟩,?_⟩;generalize N:O.set s4 a.nx (.cells (fM Vq0) 49 false)=l;have g5:l.m.g a.nx=some (.cells (fM Vq0) 49 false):=by rw[<-N];exact ao _ _ _
 have n5:l.nx=s4.nx:=by rw[<-N];rfl
 have k5:Kp [] a l:=by rw[<-N];exact y.set _ (.inr (hI _)) J
 have K5:=K3.trans k5;have W:=H.still K5;refine⟨⟨⟨by simp only[W.at_.get,lW,f9],gt⟩,gt⟩,?_⟩;refine iO (λY s=>Y=[.ptr h 0,.ptr a.nx 0,I Vq0.gen]/\s=l) ?_ ?_
 .intro Kq0 hK;rw[bZ,af,ag];cases hn:(oq S id q r).2 with
  |true=>
   rw[r8,B tW];rw[hn,gq rfl]at j;exact hK _ _ ⟨by rw[j],rfl⟩
  |false=>
   rw[ra,gq rfl,fV S.gen J,af];rw[hn,B tW]at j;exact hK _ _ ⟨by rw[j],rfl⟩
 .rintro Y s ⟨rfl,rfl⟩;simp only[ke];rw[aZ];have gX:(O.skip s).m.g s.nx=none:=W.fr _ (hI _);have x:=(Kp.refl [] s).skip;have n6:(O.skip s).nx=s.nx+1:=rfl;generalize O.skip s=s6 at*;have Q:=W.still x;have g6:=(x.keep a.nx J V).trans g5;rw[aG (n:=6) g6 rfl];simp only[rr,Q.at_.get,f0];have Th:=H.idb;refine(M0 Q.fr Q.at_ Th.2 P rfl).mono ?_;rintro _ f ⟨rfl,o⟩;have n7:=o.nx;have g7:=(o.keep a.nx J V).trans g6;rw[fY ((o.keep s.nx J V).trans gX) (pH (k:=4) rfl rfl rfl),aP];have k8:Kp [] s (O.set f s.nx (.cells (K.agg (jj (jn id n Vq0))).bY 107 false)):=(x.trans o).set _ (.inr (hI _)) J;have g8:(O.set f s.nx (.cells (K.agg (jj (jn id n Vq0))).bY 107 false)).m.g s.nx=some (.cells (jj (jn id n Vq0)) 107 false):=ao _ _ _;have n8:(O.set f s.nx (.cells (K.agg (jj (jn id n Vq0))).bY 107 false)).nx=f.nx:=rfl;have D:(O.set f s.nx (.cells (K.agg (jj (jn id n Vq0))).bY 107 false)).m.g a.nx=_:=(ar _ _ _ _ J).trans g7;generalize O.set f s.nx (.cells (K.agg (jj (jn id n Vq0))).bY 107 false)=s8 at*;have K8:=K5.trans k8;have H8:=H.still K8;have sl:Sl s8 (own τ π) (.slice s.nx 0 1 1 0) 4 (pJ [jn id n Vq0]):=.inr ⟨s.nx,0,1,1,0,rfl,rfl,⟨hI _,.inl rfl⟩,.inr ⟨λhh=>by have:=BP s.nx É;omega,J,_,_,_,g8,by simp[jj,pJ],rfl⟩⟩
  have tK:∀c∈[jn id n Vq0],QH (UInt8.ofNat (8+n)) S.gen c:=λc hc=>by
   rw[If]at hc;rw[hc];exact stI Th.2 H.nb P _
  refine(H8.apply hT hL sl tK V).mono ?_;rintro _ s9 ⟨rfl,w,T',kf,X⟩;have qz:∀b,Z.nx<=b->b∉own τ π:=λb hb hh=>by have:=BP b É;omega
  have g9:=(kf.keep a.nx J (qz _ J)).trans D;have e9:R .neq (some .int) true (I 0) (.int .i64 0) s9=.ok (.bool false) s9:=rfl;simp only[H8.at_.get,lW,f0,sE,and_true];rw[e9,af,ag,B tW,aG (n:=6) g9 rfl,af];refine agY X.sh.at_ λaa qP M=>?_;refine ark M λeo pG G=>?_;rw[hM];refine⟨rfl,w,T',(X.pre K8).Kq (qP.trans pG) G P ?_⟩;rw[j];split<;>omega
end
section
variable {X:δ Nat}{v:K}{i p k:Nat}{L:δ (δ K)}{α:Type}
structure OA where
 c:Int
 i:Int
 k:Nat
 f:Bool
 v:List UInt8
def CM (l:OA):δ K:=[I l.c,I l.i,.int .u8 (l.k:Nat),.bool l.f,.str l.v]
def Pb (x:aT):Bool:=decide (1<=x.1.length/\x.1.length<=32/\x.2.length<=2000)
def LS (l:OA):Bool:=te l.c&&(te l.i&&(decide (l.k=1)&&decide (l.v.length<=2000)))
section
variable {Z Z' s s':O} {a b:K} {P:δ aT} {Q:δ OA}
def pA (P:δ aT):∀x∈P.map bR,x.length=2:=λx c=>by obtain⟨p,_,rfl⟩:=lm.1 c;rfl
def YL (Q:δ OA):∀x∈Q.map CM,x.length=5:=λx c=>by obtain⟨p,_,rfl⟩:=lm.1 c;rfl
def Sl.uk (c:Sl Z X v 2 (cT P))(hi:i<P.length)(Kq0:K->Prop)(hK:Kq0 (.agg (bR P[i]))):Lim.fj 2 2 v (I i) Z Kq0:=
 Sl.fj (L:=P.map bR) c J (pA P) J9 _ adm
def Sl.ig (c:Sl Z X v 2 (cT P))(s:O):aY .slice v s=.ok (I P.length) s:=c.len P.length (by unfold cT;rw[dU (pA P)];simp) J s
def aaU {l row:δ K}(g:0<row.length)(h:∀o x,row[o]?=Φ x->l[p+o]?=Φ x):p+row.length<=l.length/\(l.drop p).take row.length=row:=by
 have h1:=λo c=>h o _ (li c);have h2:=h1 (row.length-1) J;obtain⟨f,_⟩:=qo.1 h2;refine⟨J,List.ext_getElem xI λo a b=>?_⟩;have e:=h1 o b;rw[List.getElem_take,List.getElem_drop];obtain⟨_,d⟩:=qo.1 e;exact d
def LN {l row:δ K}(e:0<row.length)(h:∀o x,row[o]?=Φ x->l[p+o]?=Φ x):iv l p row.length=Φ row:=by
 obtain⟨d,c⟩:=aaU e h;unfold iv;rw[gq d,c]
def Rd (Z:O)(v:K)(k:Nat)(L:δ (δ K)):Prop:=
 Sl Z [] v k L.flatten\/(v=.oM/\L=[])\/∃b off cap,v=.slice b off L.length cap 0/\b<Z.nx/\∀i (h:i<L.length),∃l o,Z.m.g b=Φ (.ro l o)/\∀j x,L[i][j]?=Φ x->l[off+i*k+j]?=Φ x
def Rd.mono (h:Rd s a k L)(c:Kp [] s s'):Rd s' a k L:=by
 rcases h with h|h|⟨b,off,cap,rfl,d,e⟩
 .exact .inl (h.mono c)
 .exact .inr (.inl h)
 .refine .inr (.inr ⟨b,off,cap,rfl,ov d c.nx,λi hi=>?_⟩);obtain⟨l,o,g,f⟩:=e i hi;exact⟨l,o,(c.keep b d V).trans g,f⟩
def Rd.fj (h:Rd s a k L)(g:0<k)(c:∀x∈L,x.length=k)(hi:i<L.length)(Kq0:K->Prop)(d:Kq0 (.agg L[i])):Lim.fj k k a (I i) s Kq0:=by
 rcases h with h|⟨_,rfl⟩|⟨b,off,cap,rfl,j,f⟩
 .exact Sl.fj h g c hi Kq0 d
 .simp at hi
 .obtain⟨l,o,h1,h2⟩:=f i hi;have hlen:=c _ (mp hi);unfold Lim.fj;rw[iq hi (.inl rfl),af,nW,h1,wQ];have e:=LN (l:=l) (row:=L[i]) (p:=off+i*k) J h2;rw[hlen]at e;rw[e,yi];exact d
def Rd.len (h:Rd s a k L)(d:0<k)(c:∀x∈L,x.length=k)(t:O):aY .slice a t=.ok (I L.length) t:=by
 rcases h with h|⟨rfl,rfl⟩|⟨b,off,cap,rfl,_⟩
 .exact h.len L.length (by rw[dU c]) d t
 .rfl
 .rfl
def Rd.uk (c:Rd Z a 2 (P.map bR))(hi:i<P.length)(Kq0:K->Prop)(hK:Kq0 (.agg (bR P[i]))):Lim.fj 2 2 a (I i) Z Kq0:=
 c.fj J (pA P) J9 _ adm
def Rd.Ss (c:Rd Z a 5 (Q.map CM))(hi:i<Q.length)(Kq0:K->Prop)(hK:Kq0 (.agg (CM Q[i]))):Lim.fj 5 5 a (I i) Z Kq0:=
 c.fj J (YL Q) J9 _ adm
def Rd.ig (c:Rd Z a 2 (P.map bR))(s:O):aY .slice a s=.ok (I P.length) s:=by
 have:=c.len J (pA P) s
 rwa [so]at this
def Rd.Gd (c:Rd Z a 5 (Q.map CM))(s:O):aY .slice a s=.ok (I Q.length) s:=by
 have:=c.len J (YL Q) s
 rwa [so]at this
def JM {p:α->Bool}{L:δ α}(hi:i<L.length):(L.take (i+1)).all p=((L.take i).all p&&p L[i]):=by
 rw[su hi,List.all_append];simp
def UE {p:α->Bool}{L:δ α}(hi:i<L.length)(h:p L[i]=φ):L.all p=φ:=by
 rw[List.all_eq_false];exact⟨_,mp hi,QO⟩
set_option maxHeartbeats 1000000 in
def QZ (N:Rd Z a 2 (P.map bR))(M:Rd Z b 5 (Q.map CM))(hl:P.length<=1000000/\Q.length<=1000000):
 Rq0 46 [a,b] Z λy s=>y=.bool (P.all Pb&&Q.all LS)/\Kp [] Z s:=by
 refine bE ?_;rw[w46,bU,N.ig,af];simp only[ke];refine bD (λfu w s=>∃i,fu+i=P.length/\i<=P.length/\w=[b,a,I P.length,I i]/\Kp [] Z s/\(P.take i).all Pb=true) ?_ (n:=P.length) ⟨0,rfl,sw _,rfl,Kp.refl _ _,rfl⟩;rintro fu w s H ⟨i,Qz,hi,rfl,g,r⟩ next;simp only[ke];rw[dd,af,ag]
 by_cases f:i<P.length
 .rw[jp f,gq rfl];refine(N.mono g).uk f _ ?_;refine gW rfl rfl rfl ?_;generalize G:O.new s (.cells (bR P[i]) 96 false)=s1;obtain⟨x,q,S⟩:=dB G;have D:(bR P[i])[0]?=some (.str P[i].1):=rfl;have l1:(bR P[i])[1]?=some (.str P[i].2):=rfl;have Y:R .lss none true (I P[i].1.length) (.int .i64 1) s1=.ok (.bool (decide (P[i].1.length<1))) s1:=by rw[au,cU];congr 2;simp only[CI];omega
  have F:∀m d:Nat,R .gtr none true (I m) (.int .i64 (d:Nat)) s1=.ok (.bool (decide (d<m))) s1:=λm d=>yZ
  have C:∀m:Nat,R .gtr none true (I m) (.int .i64 32) s1=.ok (.bool (decide (32<m))) s1:=λm=>F m 32;have j:∀m:Nat,R .gtr none true (I m) (.int .i64 2000) s1=.ok (.bool (decide (2000<m))) s1:=λm=>F m 2000;have l:Pb P[i]=false->(K.bool false=K.bool (P.all Pb&&Q.all LS)/\Kp [] Z s1):=λh=>⟨by rw[UE f h];rfl,g.trans x⟩;unfold fl gG;simp only[ly,q,D,eN,Y]
  by_cases u:P[i].1.length<1
  .simp only[jp u,ii,xk,ix];exact l adA
  simp only[jo u,ii,DI,av,q,lW,D,eN,C,j]
  by_cases o:32<P[i].1.length
  .simp only[jp o,ii,xk,ix];exact l adA
  simp only[jo o,ii,DI,av,q,lW,l1,eN,C,j]
  by_cases z:2000<P[i].2.length
  .simp only[jp z,ix,ag];exact l adA
  simp only[jo z,ii,ll,fV i J];refine next (fu-1) _ _ J ⟨i+1,J,J,rfl,g.trans x,?_⟩;rw[JM f,r,S5];unfold Pb;rw[jp J]
 .rw[jo f,B tW,bU,M.Gd,af];have e:i=P.length:=by omega
  subst e;rw[lw (hI _)]at r;rw[r,S5];simp only[ke];refine bD (λfu w s=>∃i,fu+i=Q.length/\i<=Q.length/\w=[b,I Q.length,I i]/\Kp [] Z s/\(Q.take i).all LS=true) ?_ (n:=Q.length) ⟨0,rfl,sw _,rfl,g,rfl⟩;rintro fu w s H ⟨i,Qz,hi,rfl,g,r⟩ next;simp only[ke];rw[dd,af,ag]
  by_cases f:i<Q.length
  .rw[jp f,gq rfl];refine(M.mono g).Ss f _ ?_;refine gW rfl rfl rfl ?_;generalize G:O.new s (.cells (CM Q[i]) 118 false)=s1;obtain⟨x,q,S⟩:=dB G;have D:(CM Q[i])[0]?=some (I Q[i].c):=rfl;have l1:(CM Q[i])[1]?=some (I Q[i].i):=rfl;have l2:(CM Q[i])[2]?=some (.int .u8 (Q[i].k:Nat)):=rfl;have T:(CM Q[i])[4]?=some (.str Q[i].v):=rfl;have F:∀m d:Nat,R .gtr none true (I m) (.int .i64 (d:Nat)) s1=.ok (.bool (decide (d<m))) s1:=λm d=>by rw[au,cQ];congr 2;simp only[CI];omega
   have W:∀m:Nat,R .neq (some .int) true (.int .u8 (m:Nat)) (.int .u8 1) s1=.ok (.bool (!decide (m=1))) s1:=λm=>Kk
   have j:∀m:Nat,R .gtr none true (I m) (.int .i64 2000) s1=.ok (.bool (decide (2000<m))) s1:=λm=>F m 2000;have l:LS Q[i]=false->(K.bool false=K.bool (Q.all LS)/\Kp [] Z s1):=λh=>⟨by rw[UE f h],g.trans x⟩;unfold fl gG;simp only[ly,q,D];refine(yG _).same ?_;cases h0:te Q[i].c with
   |false=>
    simp only[bZ,ra,ii,ix,xk,gP];exact l (by unfold LS;rw[h0];rfl)
   |true=>
   simp only[Gz,ii,DI,dH,av,q,lW,l1];refine(yG _).same ?_;cases u:te Q[i].i with
   |false=>
    simp only[bZ,ra,ii,ix,xk,gP];exact l (by unfold LS;rw[h0,u];rfl)
   |true=>
   simp only[Gz,ii,DI,vr,q,rc,l2,W]
   by_cases o:Q[i].k=1
   rotate_left
   .simp only[jo o,ra,ii,ix,xk];exact l (by unfold LS;rw[h0,u,jo o];rfl)
   simp only[jp o,ï,ii,tw,vr,q,Nat.reduceAdd,T,eN,j]
   by_cases z:2000<Q[i].v.length
   .simp only[jp z,ix];exact l (by unfold LS;rw[h0,u,jp o,jo J];rfl)
   simp only[jo z,yU,ii,fV i J];refine next (fu-1) _ _ J ⟨i+1,J,J,rfl,g.trans x,?_⟩;rw[JM f,r,S5];unfold LS;rw[h0,u,jp o,jp J];rfl
  .rw[jo f,B tW];have e:i=Q.length:=by omega
   subst e;rw[lw (hI _)]at r;exact⟨by rw[r],g⟩
end
end
def UZ (lo:Nat)(s:O)(v:K)(cs:δ nH):Prop:=∃b m t g,v=.slice b 0 m m g/\lo<=b/\b<s.nx/\cs.length=m/\0<m/\s.m.g b=Φ (.cells (pJ cs) 107 t)/\((m=1/\g=0/\t=φ)\/(g=4/\t=θ))
section
variable {Z Z' s s':O} {h κ τ id n T lo:Nat} {π:PI} {S S' Vq0:mV} {L L':δ aT} {v a b:K} {cs:δ nH} {P:δ aT} {Q:δ OA}
def UZ.sl {X:δ Nat}(c:UZ lo s v cs)(d:∀q∈X,q<lo):Sl s X v 4 (pJ cs):=by
 obtain⟨b,m,t,g,rfl,l,j,i,k,f,e⟩:=c;exact .inr ⟨b,0,m,m,g,rfl,by rw[jx,i],⟨hI _,e.elim (λh=>.inl h.2.1) λh=>.inr h.1⟩,.inr ⟨λhh=>by have:=d b hh;omega,j,_,_,_,f,by rw[jx];omega,by rw[tu,lw (by rw[jx];omega)]⟩⟩
def UZ.mono (c:UZ lo s v cs)(d:Kp [] s s'):UZ lo s' v cs:=by
 obtain⟨b,m,t,g,rfl,l,e,k,j,i,f⟩:=c;exact⟨b,m,t,g,rfl,l,ov e d.nx,k,j,(d.keep b e V).trans i,f⟩
def UZ.append (d:UZ lo s v cs)(c:nH)(G:cs.length<=1000)(D:lo<=s.nx):∃v' s',bI 107 4 48 v (Φ (1,jj c)) s=.ok v' s'/\UZ lo s' v' (cs++[c])/\∃F,Kp F s s'/\∀q∈F,lo<=q:=by
 obtain⟨b,m,t,g,rfl,h1,h2,i,x,f,w⟩:=d;have e:pJ (cs++[c])=pJ cs++jj c:=by unfold pJ;simp
 rcases w with⟨rfl,rfl,rfl⟩|⟨rfl,rfl⟩
 .refine⟨_,_,MJ f (by rw[jx];omega) rfl,⟨s.nx,2,θ,4,rfl,D,ã _,by simp[i],J,?_,.inr ⟨rfl,rfl⟩⟩,[],(Δ [] s).new _,V⟩;rw[e];exact ay _ _
 .have r:Own s (.slice b 0 m m 4) 4 107 (pJ cs) [b]:=.inr (.inr ⟨b,m,rfl,x,by rw[jx,i],rfl,f⟩);obtain⟨v',s',F',C,k,z,y⟩:=r.append (n:=1) (bytes:=48) (T:=jj c) J rfl rfl Vl (by rw[jx];simp[jj];omega);refine⟨v',s',C,?_,[b],z,QM⟩;rw[<-e]at k;rcases k with⟨_,h,_⟩|⟨_,_,_,_,_,h,_⟩|⟨j,u,rfl,p,o,rfl,l⟩
  .have:=congrArg List.length h;rw[jx]at this;simp at this
  .have:=congrArg List.length h;rw[jx]at this;simp at this
  .obtain⟨q1,q2⟩:=y j V;refine⟨j,u,θ,4,rfl,?_,q2,?_,p,l,.inr ⟨rfl,rfl⟩⟩
   .rcases q1 with q1|q1
    .simp at q1;omega
    .omega
   .rw[jx]at o;omega
def CW (S:mV)(last:Bool):mV:=if last=θ then {S with part:=0,phase:=5}else {S with part:=S.part+1}
def Hu (n id:Nat)(S:mV)(last:Bool)(P:δ aT)(Q:δ OA):δ nH:=jn id n (CW S last)::(P.map (λx=>vU n S.gen x.1 x.2)++Q.map λl=>oZ n S.gen l.c.toNat l.i.toNat l.f l.v)
def mE (S:mV)(id n:Nat)(p:Int)(last:Bool)(P:δ aT)(Q:δ OA):Int×Nat×mV×δ nH:=
 if p<0\/(P.all Pb&&Q.all LS)=φ then (0,1,S,[])else if 4<P.length+Q.length then (0,40,S,[])else if S.phase≠4 then (0,50,S,[])else if p≠S.part then ((S.part:Int),0,S,[])else
 (p+1,0,CW S last,Hu n id S last P Q)
def Oz (Z:O)(h κ τ:Nat)(π:PI)(id n:Nat)(L:δ aT)(T:Nat)(r:Int×Nat×mV×δ nH)(y:K)(s:O):Prop:=y=.tuple [I r.1,I r.2.1]/\∃c d,uR Z s h κ τ π c id n r.2.2.1 (gC L r.2.2.2) T d
set_option maxHeartbeats 1000000 in
def aaV (H:wD Z h κ τ π id n S L T)(hT:T<=800000000)(hL:L.length<=500)(al:S.part<1000000){p:Int}{last:Bool}(hp:Rd Z a 2 (P.map bR))(hq:Rd Z b 5 (Q.map CM))(hl:P.length<=1000000/\Q.length<=1000000):
 Rq0 12 [.ptr h 0,I p,.bool last,a,b] Z (Oz Z h κ τ π id n L T (mE S id n p last P Q)):=by
 refine bE ?_
 have o:∀(s:O) (x:Int) (e:Nat),Kp [] Z s->mE S id n p last P Q=(x,e,S,[])->Oz Z h κ τ π id n L T (mE S id n p last P Q) (.tuple [I x,I e]) s:=λs x e r hw=>by
  rw[hw];exact⟨rfl,π,T,H.stay r⟩
 have BP:=H.lts;have f0:(tI κ id n S)[0]?=some (.ptr κ 0):=rfl;have f4:(tI κ id n S)[4]?=some (I S.part):=rfl;have f5:(tI κ id n S)[5]?=some (.int .u8 (S.phase:Nat)):=rfl;have f9:(tI κ id n S)[9]?=some (I S.gen):=rfl;have e0:R .lss none true (I p) (.int .i64 0) Z=.ok (.bool (decide (p<0))) Z:=by rw[au,cU]
 rw[w12,cc,af,ag,B tW,e0,af]
 by_cases h0:p<0
 .simp only[jp h0,ii,xk,gP,ix];exact o Z 0 1 (Kp.refl _ _) (by unfold mE;rw[gq (.inl h0)])
 simp only[jo h0,aD,yU,ii,tw,dH];refine(QZ hp hq hl).mono ?_;rintro _ s1 ⟨rfl,M⟩;simp only[bZ,aC,ii,ll];cases C:(P.all Pb&&Q.all LS)with
 |false=>
  rw[ra,gq rfl];exact o s1 0 1 M (by unfold mE;rw[gq (.inr C)])
 |true=>
 have ea:R .add none false (I P.length) (I Q.length) s1=.ok (I ((P.length+Q.length:Nat):Int)) s1:=AU
 have eg:R .gtr none true (I ((P.length+Q.length:Nat):Int)) (.int .i64 4) s1=.ok (.bool (decide (4<P.length+Q.length))) s1:=yZ
 rw[r8,B tW,hp.ig,af,hq.Gd,af,ea,af,eg,af,ag]
 by_cases Y:4<P.length+Q.length
 .rw[jp Y,gq rfl];exact o s1 0 40 M (by unfold mE;rw[B (by simp[h0,C]),gq Y])
 rw[jo Y,B tW];have H1:=H.still M;have ep:R .neq (some .int) true (.int .u8 (S.phase:Nat)) (.int .u8 4) s1=.ok (.bool (!decide (S.phase=4))) s1:=Kk
 have eq:R .neq (some .int) false (I p) (I S.part) s1=.ok (.bool (!decide (p=S.part))) s1:=by rw[au,dJ]
 unfold oE fP zu;simp only[rr,H1.at_.get,Nat.reduceAdd,f4,f5,ep,ag]
 by_cases h5:S.phase=4
 rotate_left
 .rw[jo h5,ra,gq rfl];exact o s1 0 50 M (by unfold mE;rw[B (by simp[h0,C]),B Y,gq h5])
 rw[jp h5,r8,B tW,eq,af,ag]
 by_cases h6:p=S.part
 rotate_left
 .rw[jo h6,ra,gq rfl];exact o s1 S.part 0 M (by unfold mE;rw[B (by simp[h0,C]),B Y,B aeq,gq h6])
 subst h6;have hM:mE S id n S.part last P Q=((S.part:Int)+1,0,CW S last,Hu n id S last P Q):=by unfold mE;rw[B (by simp[C]),B Y,B aeq,B V]
 have aa:∀x∈P,Pb x=true:=by simp only[mZ,ù]at C;exact C.1
 have ab:∀x∈Q,LS x=true:=by simp only[mZ,ù]at C;exact C.2
 have y:=H.ok
 have Mr:(CW S last).ok:=by
  have:=y.part;unfold CW;cases last with
  |true=>exact⟨y.jw,sw _,show 5<=5 from tW,y.own,y.to,y.gen⟩
  |false=>exact⟨y.jw,show S.part+1<=2147483647 from J,y.phase,y.own,y.to,y.gen⟩
 have XE:(CW S last).gen=S.gen:=by unfold CW;split<;>rfl
 have ev:aF 6 (.ptr h 3) s1=.ok (.agg (fM S)) s1:=im (n:=6) H1.at_.get (by simp[tI]);rw[jp rfl,r8,B tW,ev,af];refine gW rfl rfl (by rfl) ?_;generalize rA:O.new s1 (.cells (fM S) 49 false)=s2;obtain⟨k2,g2,n2⟩:=dB rA;have K2:=M.trans k2;have n1:=M.nx;have v1:(fM S)[1]?=some (I S.part):=rfl;unfold fl;rw[ah,af,av,g2,ak,oa,v1,an,fV S.part J,af];refine Mw g2 J (by simp[fM]) rfl rfl λs3 g3 k3=>?_;have n3:=k3.nx;refine iO (λD s=>D=[.ptr h 0,I S.part,a,b,.ptr s1.nx 0]/\Kp [s1.nx] s2 s/\s.m.g s1.nx=some (.cells (fM (CW S last)) 49 false)) ?_ ?_
 .intro ad hK;cases last with
  |true=>
   rw[gq rfl];refine Mw g3 J (by simp[fM]) rfl rfl λs4 g4 k4=>?_;have n4:=k4.nx;refine Mw g4 J (by simp[fM]) rfl rfl λs5 g5 k5=>?_;exact hK _ _ ⟨rfl,(k3.trans k4).trans k5,by rw[g5];rfl⟩
  |false=>
   rw[B tW];exact hK _ _ ⟨rfl,k3,by rw[g3];rfl⟩
 .rintro D s4 ⟨rfl,k4,g4⟩;generalize hV:CW S last=Vq0 at*;have n4:=k4.nx;have K4:Kp [] Z s4:=K2.trans k4 λq hq=>.inr abf;have H4:=H.still K4;simp only[ke];rw[aZ];have gX:(O.skip s4).m.g s4.nx=none:=H4.fr _ (hI _);have k6:=(Kp.refl [] s4).skip;have n6:(O.skip s4).nx=s4.nx+1:=rfl;generalize O.skip s4=s6 at*;have H6:=H4.still k6;have g6:=(k6.keep s1.nx J V).trans g4;rw[aG (n:=6) g6 rfl];simp only[rr,H6.at_.get,f9];have Th:=H.idb;refine(M0 H6.fr H6.at_ Th.2 Mr XE).mono ?_;rintro _ X ⟨rfl,k7⟩;have n7:=k7.nx;have g7:=(k7.keep s1.nx J V).trans g6;rw[fY ((k7.keep s4.nx J V).trans gX) (pH (k:=4) rfl rfl rfl),aP];have k8:Kp [] s4 (O.set X s4.nx (.cells (K.agg (jj (jn id n Vq0))).bY 107 false)):=(k6.trans k7).set _ (.inr (hI _)) J;have g8:(O.set X s4.nx (.cells (K.agg (jj (jn id n Vq0))).bY 107 false)).m.g s4.nx=some (.cells (jj (jn id n Vq0)) 107 false):=ao _ _ _;have n8:(O.set X s4.nx (.cells (K.agg (jj (jn id n Vq0))).bY 107 false)).nx=X.nx:=rfl;have am:(O.set X s4.nx (.cells (K.agg (jj (jn id n Vq0))).bY 107 false)).m.g s1.nx=_:=(ar _ _ _ _ J).trans g7;generalize O.set X s4.nx (.cells (K.agg (jj (jn id n Vq0))).bY 107 false)=s8 at*;refine⟨⟨⟨gt,gt⟩,⟨gt,gt⟩,gt⟩,⟨gt,gt⟩,?_⟩;have K8:=K4.trans k8;have B8:UZ s4.nx s8 (.slice s4.nx 0 1 1 0) [jn id n Vq0]:=⟨s4.nx,1,false,0,rfl,hI _,J,rfl,J,by rw[g8];simp[pJ],.inl ⟨rfl,rfl,rfl⟩⟩;have aj:=hp.mono K4;have ai:=hq.mono K4;rw[bU,hp.ig,af];simp only[ke];refine bD (λfu D s=>∃i v,fu+i=P.length/\i<=P.length/\D=[.ptr h 0,I S.part,b,.ptr s1.nx 0,v,a,I P.length,I i]/\Kp [] s4 s/\UZ s4.nx s v (jn id n Vq0::(P.take i).map λx=>vU n S.gen x.1 x.2)) ?_ (n:=P.length) ⟨0,_,rfl,sw _,rfl,k8,B8⟩;rintro fu D s ad ⟨i,v,Qz,hi,rfl,r,z⟩ next;have ns:=r.nx;simp only[ke];rw[dd,af,ag]
  by_cases d:i<P.length
  .rw[jp d,gq rfl];have j:=aa _ (mp d);unfold Pb at j;have j:=Xm j;refine(aj.mono r).uk d _ ?_;refine gW rfl rfl rfl ?_;generalize N:O.new s (.cells (bR P[i]) 96 false)=s9;obtain⟨k9,g9,n9⟩:=dB N;have G:=H4.still (r.trans k9);rw[aG (n:=2) g9 rfl,af];refine(Yz G.fr G.at_ (k:=P[i].1) (v:=P[i].2) J).mono ?_;rintro _ u ⟨rfl,qP⟩;have Po:=qP.nx;rw[mO (k:=4) rfl rfl rfl,aP,aN];generalize BI:O.new u (.cells (jj (vU n S.gen P[i].1 P[i].2)) 107 false)=eo;obtain⟨pG,PZ,LI⟩:=dB BI;have w:=(k9.trans qP).trans pG;obtain⟨v',cH,ha,W,F,kF,hF⟩:=(z.mono w).append (vU n S.gen P[i].1 P[i].2) xI J;rw[wm PZ J rfl,ha,aP,fV i J,af];refine next (fu-1) _ _ J ⟨i+1,v',J,J,rfl,(r.trans w).trans kF λq hq=>.inr (hF q hq),?_⟩;rw[su d,wd];exact W
  .rw[jo d,B tW,bU,hq.Gd,af];have e:i=P.length:=by omega
   subst e;rw[lw (hI _)]at z;simp only[ke];refine bD (λfu D s=>∃i v,fu+i=Q.length/\i<=Q.length/\D=[.ptr h 0,I S.part,.ptr s1.nx 0,v,b,I Q.length,I i]/\Kp [] s4 s/\UZ s4.nx s v (jn id n Vq0::((P.map λx=>vU n S.gen x.1 x.2)++(Q.take i).map λl=>oZ n S.gen l.c.toNat l.i.toNat l.f l.v))) ?_ (n:=Q.length) ⟨0,_,rfl,sw _,rfl,r,by simpa using z⟩;clear z r ns;rintro fu D s ad ⟨i,v,Qz,hi,rfl,r,z⟩ next;have ns:=r.nx;simp only[ke];rw[dd,af,ag]
   by_cases d:i<Q.length
   .rw[jp d,gq rfl];have j:=ab _ (mp d);unfold LS at j;simp only[mZ,ws]at j;obtain⟨o1,o2,o3,o4⟩:=j;simp only[te,ws]at o1 o2
    have el:CM Q[i]=ik Q[i].c.toNat Q[i].i.toNat Q[i].f Q[i].v:=by
     unfold CM ik;rw[o3,show((Q[i].c.toNat:Nat):Int)=Q[i].c by omega,show((Q[i].i.toNat:Nat):Int)=Q[i].i by omega];rfl
    refine(ai.mono r).Ss d _ ?_;rw[el];refine gW rfl rfl rfl ?_;generalize N:O.new s (.cells (ik Q[i].c.toNat Q[i].i.toNat Q[i].f Q[i].v) 118 false)=s9;obtain⟨k9,g9,n9⟩:=dB N;have G:=H4.still (r.trans k9);rw[aG (n:=5) g9 rfl,af];refine(Sf G.fr G.at_ (c:=Q[i].c.toNat) (i:=Q[i].i.toNat) (f:=Q[i].f) (v:=Q[i].v) (show _<=2147483647 from J) o4).mono ?_;rintro _ u ⟨rfl,qP⟩;have Po:=qP.nx;rw[mO (k:=4) rfl rfl rfl,aP,aN];generalize BI:O.new u (.cells (jj (oZ n S.gen Q[i].c.toNat Q[i].i.toNat Q[i].f Q[i].v)) 107 false)=eo;obtain⟨pG,PZ,LI⟩:=dB BI;have w:=(k9.trans qP).trans pG;obtain⟨v',cH,ha,W,F,kF,hF⟩:=(z.mono w).append (oZ n S.gen Q[i].c.toNat Q[i].i.toNat Q[i].f Q[i].v) xI J;rw[wm PZ J rfl,ha,aP,fV i J,af];refine next (fu-1) _ _ J ⟨i+1,v',J,J,rfl,(r.trans w).trans kF λq hq=>.inr (hF q hq),?_⟩;rw[su d,wd]
    simpa using W
   .rw[jo d,B tW];have e:i=Q.length:=by omega
    subst e;rw[lw (hI _)]at z;have G:=H4.still r;have K9:=K4.trans r;have g9:=(r.keep s1.nx J V).trans g4;rw[bk,af,ah,af,av,G.at_.get,ak,oa,f0,an];have eC:jn id n Vq0::((P.map λx=>vU n S.gen x.1 x.2)++Q.map λl=>oZ n S.gen l.c.toNat l.i.toNat l.f l.v)=Hu n id S last P Q:=by unfold Hu;rw[hV]
    rw[eC]at z
    have tK:∀c∈Hu n id S last P Q,QH (UInt8.ofNat (8+n)) S.gen c:=λc d=>by
     unfold Hu at d;rw[hV]at d;rcases ip.1 d with rfl|d
     .exact stI Th.2 H.nb Mr _
     rcases lh.1 d with d|d
     .obtain⟨x,hx,rfl⟩:=lm.1 d;have j:=aa x hx;unfold Pb at j;have j:=Xm j;exact ahv H.nb ⟨j.1,j.2.1⟩ j.2.2
     .obtain⟨x,hx,rfl⟩:=lm.1 d;have j:=ab x hx;unfold LS at j;simp only[mZ,ws]at j;obtain⟨o1,o2,o3,o4⟩:=j;simp only[te,ws]at o1 o2;exact YG H.nb (show _<=2147483647 from J) (show _<=2147483647 from J) o4
    have PL:∀q∈own τ π,q<s4.nx:=λq hq=>by have:=BP q QU;have:=K4.nx;omega
    refine(G.apply hT hL (z.sl PL) tK (by unfold Hu;simp;omega)).mono ?_;rintro _ u ⟨rfl,ae,T',kf,wt⟩;have qz:s1.nx∉own τ π:=λhh=>by have:=BP s1.nx É;omega
    have N0:=(kf.keep s1.nx J qz).trans g9;have e9:R .neq (some .int) true (I 0) (.int .i64 0) u=.ok (.bool false) u:=rfl;rw[e9,af,ag,B tW,aG (n:=6) N0 rfl,af];refine agY wt.sh.at_ λeo pG ac=>?_;rw[fV S.part J,af,hM];have eV:({Vq0 with gen:=S.gen}:mV)=Vq0:=by rw[<-XE]
    rw[eV]at ac;exact⟨rfl,ae,T',(wt.pre K9).Kq pG ac Mr (by rw[XE];exact hI _)⟩
end
section
variable {Z Z' s s':O} {h κ τ id n T gen:Nat} {π:PI} {S:mV} {L:δ aT} {b:Γ}
def aaM (H:wD Z h κ τ π id n S L T):Rq0 13 [.ptr h 0] Z λy s=>y=.agg (fM S)/\Kp [] Z s:=by
 refine bE ?_;rw[w13,bW,aP];generalize c:O.new Z (ϱ ϐ6)=s1;obtain⟨a,d,g⟩:=dB c;have f:=H.still a;have e:aF 6 (.ptr h 3) s1=.ok (.agg (fM S)) s1:=im (n:=6) f.at_.get (by simp[tI]);unfold zu;rw[cc,af,ag,B tW,bk,af,ah,af,oa,e,af,aK,d,aU,aN,db ϐ6 (fM S) rfl];refine⟨⟨rfl,rfl,V⟩,?_⟩;rw[aG (n:=6) (ao ..) rfl,af];exact⟨rfl,a.set _ (.inr (hI _)) J⟩
def MV (k:Γ)(g:Nat):ia k g≠[]:=by unfold ia;simp
def O4 (n:Nat)(k:Γ)(g:Nat):uj L ((8+n:Nat):Int) (ia k g) (ia k (g+1))=(L.filter (iE (UInt8.ofNat (8+n)) k g)).map iX:=by
 unfold uj wv;rw[B (MV _ _),ri,ri]
 congr 2
def O3 (n:Nat)(k:Γ)(g:Nat):uj L ((8+n:Nat):Int) (ia k 0) (ia k g)=(L.filter (mK (UInt8.ofNat (8+n)) k g)).map iX:=by
 unfold uj wv;rw[B (MV _ _),ri,ri]
 congr 2
def aal (H:wD Z h κ τ π id n S L T)(o:L.length<=1000000)(k:Γ):Rq0 47 [.ptr h 0,bG k] Z λy s=>∃x,y=.tuple [x,μ]/\Kp [] Z s/\Sl s [] x 2 (cT ((L.filter (iE (UInt8.ofNat (8+n)) k S.gen)).map iX)):=by
 refine bE ?_;have d:(tI κ id n S)[0]?=Φ (.ptr κ 0):=rfl;have c:(tI κ id n S)[2]?=Φ (ζ (8+n)):=rfl;have j:(tI κ id n S)[9]?=Φ (I S.gen):=rfl;have hg:=H.ok.gen;have r:=H.nb;rw[w47,cc,af,ag,B tW,aZ];simp only[rr,H.at_.get,d,c,j];refine(sG H.fr k S.gen).mono ?_;rintro _ q ⟨rfl,g⟩;have e:=H.still g;simp only[e.at_.get,d,c,j,fV S.gen J,rb];refine(sG e.fr k (S.gen+1)).mono ?_;rintro _ s2 ⟨rfl,f⟩;have l:=e.still f;obtain⟨fr,a⟩:=l.at';refine(AF a (sp:=((8+n:Nat):Int)) (fm:=ia k S.gen) (to:=ia k (S.gen+1)) ⟨⟨J,OJ⟩,ñ⟩ ⟨⟨J,OJ⟩,ñ⟩ o).mono ?_;rintro _ p ⟨x,rfl,m,i⟩;simp only[DK,rb,l.at_.get,d,c,sE,and_true];rw[O4]at i;exact⟨x,rfl,(g.trans f).trans m,i⟩
def qm (x:aT):aT:=(x.1.drop 5,x.2)
def lL (b:Γ)(gen:Nat)(L:δ aT):δ aT:=((L.filter (iE b 112 gen)).map iX).map qm
def aer (j:rB b gen L){x:aT}(d:x∈L.filter (iE b 112 gen)):6<=x.1.length:=by
 obtain⟨m,l⟩:=tH.1 d;obtain⟨_,a⟩:=xd l;rcases j.items x m with h|⟨g,c,i,f,v,_,_,_,_,rfl⟩|⟨g,k,_,_,_,e,_⟩
 .rw[h.1,gN]at a;rcases a with a|⟨_,a⟩
  .exact absurd a (SG _)
  .unfold ia at a;rw[gN]at a;rcases a with a|⟨a,_⟩
   .exact absurd a tW
   .exact absurd a tW
 .simp[lK,ia,b4]
 .rw[e];simp[pK,ia,b4]
def aes (i:rB b gen L){x:aT}(f:x∈L.filter (iE b 108 gen)):OC b gen x:=by
 obtain⟨l,j⟩:=tH.1 f;obtain⟨_,a⟩:=xd j
 have d:∀(q:Γ) (r:bS),108<q->x.1=b::q::r->False:=λq r c e=>by
  rw[e,gN]at a;rcases a with a|⟨_,a⟩
  .exact absurd a (SG _)
  .unfold ia at a;rw[gN]at a;rcases a with a|⟨a,_⟩
   .exact absurd (UInt8.lt_trans c a) (SG _)
   .rw[a]at c;exact absurd c (SG _)
 rcases i.items x l with h|h|⟨g,k,_,_,_,e,_⟩
 .exact(d 115 _ tW h.1).elim
 .exact h
 .exact(d 112 _ tW e).elim
def Fin (Z s:O)(x:K)(k:Nat)(l:δ K):Prop:=Kp [] Z s/\∀X,(∀q∈X,q<Z.nx)->Sl s X x k l
set_option maxHeartbeats 1000000 in
def Wg (H:wD Z h κ τ π id n S L T)(P:L.length<=1000000):Rq0 14 [.ptr h 0] Z λy s=>∃x,y=.tuple [x,I 0]/\Fin Z s x 2 (cT (lL (UInt8.ofNat (8+n)) S.gen L)):=by
 refine bE ?_;rw[w14];refine(aal H P 112).mono ?_;rintro _ u ⟨x,rfl,f,N⟩
 have a:∀y∈(L.filter (iE (UInt8.ofNat (8+n)) 112 S.gen)).map iX,5<=y.1.length:=λy hy=>by
  obtain⟨z,hz,rfl⟩:=lm.1 hy;have:=aer H.l hz;show 5<=(z.1.drop 1).length;rw[st];omega
 have aa:((L.filter (iE (UInt8.ofNat (8+n)) 112 S.gen)).map iX).length<=1000000:=by
  rw[so];exact rx (Jf _ _) P
 unfold lL;generalize hM:(L.filter (iE (UInt8.ofNat (8+n)) 112 S.gen)).map iX=M at*;rw[aE,af,aL,aE,af,bU,N.ig,af];simp only[ke];have o:=f.fresh H.fr;refine bD (λfu r s=>∃i v F,fu+i=M.length/\i<=M.length/\r=[I 0,v,x,I M.length,I i]/\Kp [] u s/\Own s v 2 96 (cT ((M.take i).map qm)) F/\∀q∈F,u.nx<=q/\q<s.nx) ?_ (n:=M.length) ⟨0,.ae,[],rfl,sw _,rfl,Kp.refl _ _,.inl ⟨rfl,rfl,rfl⟩,V⟩;rintro fu r s ab ⟨i,v,F,Qz,hi,rfl,c,j,hF⟩ next;have ns:=c.nx;simp only[ke];rw[dd,af,ag]
 by_cases d:i<M.length
 .rw[jp d,gq rfl];refine(N.mono c).uk d _ ?_;refine gW rfl rfl rfl ?_;generalize Y:O.new s (.cells (bR M[i]) 123 false)=s2;obtain⟨G,g2,n2⟩:=dB Y;rw[aZ];have gX:(O.skip s2).m.g s2.nx=none:=((c.trans G).fresh o) _ (hI _);have D:=(Kp.refl [] s2).skip;have n3:(O.skip s2).nx=s2.nx+1:=rfl;generalize O.skip s2=s3 at*;have Q:=(D.keep s.nx J V).trans g2;have C:(bR M[i])[0]?=some (.str M[i].1):=rfl;have l1:(bR M[i])[1]?=some (.str M[i].2):=rfl;have h5:=a _ (mp d);have hb:aR [.str [],.str []] [(0,1,.str (M[i].1.drop 5)),(1,1,.str M[i].2)] s3=.ok (.agg (bR (qm M[i]))) s3:=rfl;rw[show I 5=I ((5:Nat):Int)from rfl];simp only[ly,Q,C,l1,DQ h5,hb];rw[fY gX (pH (k:=2) rfl rfl rfl),aP];have k4:Kp [] s2 (O.set s3 s2.nx (.cells (K.agg (bR (qm M[i]))).bY 96 false)):=D.set _ (.inr (hI _)) J;have g4:(O.set s3 s2.nx (.cells (K.agg (bR (qm M[i]))).bY 96 false)).m.g s2.nx=some (.cells (bR (qm M[i])) 96 false):=ao _ _ _;have n4:(O.set s3 s2.nx (.cells (K.agg (bR (qm M[i]))).bY 96 false)).nx=s3.nx:=rfl;have p:(O.set s3 s2.nx (.cells (K.agg (bR (qm M[i]))).bY 96 false)).m.g s.nx=_:=(ar _ _ _ _ J).trans Q;generalize O.set s3 s2.nx (.cells (K.agg (bR (qm M[i]))).bY 96 false)=s4 at*;have W:=G.trans k4;have SZ:(cT ((M.take i).map qm)).length=i*2:=by unfold cT;rw[dU (pA _)];simp;omega
  obtain⟨v',s5,F',ha,ho,kF,w⟩:=(j.mono λq hq=>W.keep q (hF q hq).2 V).append (n:=1) (bytes:=32) (T:=bR (qm M[i])) J rfl rfl (λq hq=>aaF) (by rw[SZ];simp[bR];omega);rw[wm g4 J rfl,ha,aP];simp only[p,C,l1,fV i J,rb,sE,and_true];refine next (fu-1) _ _ J ⟨i+1,v',F',J,J,rfl,(c.trans W).trans kF λq hq=>.inr (hF q hq).1,?_,λq hq=>⟨?_,(w q hq).2⟩⟩
  .rw[su d,wd];have e:cT ((M.take i).map qm++[M[i]].map qm)=cT ((M.take i).map qm)++bR (qm M[i]):=by unfold cT;simp
   rw[e];exact ho
  .rcases(w q hq).1 with h1|h1
   .exact(hF q h1).1
   .omega
 .rw[jo d,B tW];have e:i=M.length:=by omega
  subst e;rw[lw (hI _)]at j;have:=f.nx;exact⟨v,rfl,f.trans c,λX hX=>j.sl λq hq=>⟨λhh=>by have:=hX q hh;have:=(hF q hq).1;omega,(hF q hq).2⟩⟩
end
def Yl (x:aT)(p:Nat×Nat×Nat×Bool×δ Γ):Prop:=p.2.1<=kj/\p.2.2.1<=kj/\p.2.2.2.2.length<=2000/\x=(lK p.1 p.2.1,lG p.2.2.1 p.2.2.2.1 p.2.2.2.2)
open Classical in
def LQ (x:aT):Nat×Nat×Nat×Bool×List UInt8:=if h:∃p,Yl x p then h.choose else (0,0,0,false,[])
def abS {x:aT}(h:∃p,Yl x p):Yl x (LQ x):=by unfold LQ;rw[dif_pos h];exact h.choose_spec
def LK (p:Nat×Nat×Nat×Bool×δ Γ):δ K:=ik p.2.1 p.2.2.1 p.2.2.2.1 p.2.2.2.2
def uu (l:δ (Nat×Nat×Nat×Bool×δ Γ)):δ K:=(l.map LK).flatten
def rj (b:Γ)(gen:Nat)(L:δ aT):δ (Nat×Nat×Nat×Bool×δ Γ):=((L.filter (iE b 108 gen)).map iX).map LQ
def Sm (l:δ (Nat×Nat×Nat×Bool×δ Γ)):∀x∈l.map LK,x.length=5:=λx a=>by obtain⟨p,_,rfl⟩:=lm.1 a;rfl
section
variable {Z Z' s s':O} {h κ τ id n T gen:Nat} {π:PI} {S:mV} {L:δ aT} {b:Γ}
set_option maxHeartbeats 1000000 in
def WI (H:wD Z h κ τ π id n S L T)(Q:L.length<=1000000):Rq0 15 [.ptr h 0] Z λy s=>∃x,y=.tuple [x,I 0]/\Fin Z s x 5 (uu (rj (UInt8.ofNat (8+n)) S.gen L)):=by
 refine bE ?_;rw[w15];refine(aal H Q 108).mono ?_;rintro _ C ⟨x,rfl,m,P⟩
 have r:∀y∈(L.filter (iE (UInt8.ofNat (8+n)) 108 S.gen)).map iX,Yl y (LQ y):=λy hy=>by
  obtain⟨z,hz,rfl⟩:=lm.1 hy;obtain⟨g,c,i,f,v,_,j,h2,h3,rfl⟩:=aes H.l hz;exact abS ⟨(g,c,i,f,v),j,h2,h3,rfl⟩
 have aa:((L.filter (iE (UInt8.ofNat (8+n)) 108 S.gen)).map iX).length<=1000000:=by
  rw[so];exact rx (Jf _ _) Q
 unfold rj;generalize hM:(L.filter (iE (UInt8.ofNat (8+n)) 108 S.gen)).map iX=M at*;rw[aE,af,aL,aE,af,bU,P.ig,af];simp only[ke];have u:=m.fresh H.fr;refine bD (λfu w s=>∃i v F,fu+i=M.length/\i<=M.length/\w=[I 0,v,x,I M.length,I i]/\Kp [] C s/\Own s v 5 118 (uu ((M.take i).map LQ)) F/\∀q∈F,C.nx<=q/\q<s.nx) ?_ (n:=M.length) ⟨0,.ae,[],rfl,sw _,rfl,Kp.refl _ _,.inl ⟨rfl,rfl,rfl⟩,V⟩;rintro fu w s ab ⟨i,v,F,Qz,hi,rfl,a,o,hF⟩ next;have ns:=a.nx;simp only[ke];rw[dd,af,ag]
 by_cases d:i<M.length
 .rw[jp d,gq rfl];obtain⟨i1,i2,i3,i4⟩:=r _ (mp d);refine(P.mono a).uk d _ ?_;have el:LK (LQ M[i])=ik (LQ M[i]).2.1 (LQ M[i]).2.2.1 (LQ M[i]).2.2.2.1 (LQ M[i]).2.2.2.2:=rfl;generalize hp:LQ M[i]=p at*;refine gW rfl rfl rfl ?_;generalize rA:O.new s (.cells (bR M[i]) 123 false)=s2;obtain⟨N,g2,n2⟩:=dB rA;have l0:(bR M[i])[0]?=some (.str M[i].1):=rfl;have l1:(bR M[i])[1]?=some (.str M[i].2):=rfl;unfold fl;simp only[ly,g2,l0,l1];rw[i4];refine(II ((a.trans N).fresh u) i1 i2 i3).mono ?_;rintro _ Y ⟨rfl,G⟩;have n3:=G.nx;rw[<-el,aE,af,aL,aE,af];refine gW rfl rfl rfl ?_;generalize PH:O.new Y (.cells (LK p) 118 false)=s4;obtain⟨k4,g4,n4⟩:=dB PH;rw[aG (n:=5) g4 rfl,af,mO (k:=5) rfl rfl rfl,aP,aN];generalize Xh:O.new s4 (.cells (LK p) 118 false)=s5;obtain⟨k5,g5,n5⟩:=dB Xh;have W:=((N.trans G).trans k4).trans k5;have SZ:(uu ((M.take i).map LQ)).length=i*5:=by unfold uu;rw[dU (Sm _)];simp;omega
  obtain⟨v',s6,F',ha,ho,kF,D⟩:=(o.mono λq hq=>W.keep q (hF q hq).2 V).append (n:=1) (bytes:=40) (T:=LK p) J rfl rfl (λq hq=>aaF) (by rw[SZ];simp[LK,ik];omega);rw[wm g5 J rfl,ha,aP,fV i J,af];refine next (fu-1) _ _ J ⟨i+1,v',F',J,J,rfl,(a.trans W).trans kF λq hq=>.inr (hF q hq).1,?_,λq hq=>⟨?_,(D q hq).2⟩⟩
  .rw[su d,wd];have e:uu ((M.take i).map LQ++[M[i]].map LQ)=uu ((M.take i).map LQ)++LK p:=by unfold uu;simp[hp]
   rw[e];exact ho
  .rcases(D q hq).1 with j|j
   .exact(hF q j).1
   .omega
 .rw[jo d,B tW];have e:i=M.length:=by omega
  subst e;rw[lw (hI _)]at o;have:=m.nx;exact⟨v,rfl,m.trans a,λX hX=>o.sl λq hq=>⟨λhh=>by have:=hX q hh;have:=(hF q hq).1;omega,(hF q hq).2⟩⟩
end
section
variable {Z Z' s s':O} {h κ τ id n T gen:Nat} {π:PI} {S:mV} {L:δ aT} {b:Γ}
def Ca (n:Nat)(x:aT):nH:=⟨((8+n:Nat):Int),x.1,[],θ⟩
def Lp (M:δ aT):bh (cT M)=θ:=by
 induction M with
 |nil=>rfl
 |cons a r c=>show(cI (.str a.1)&&(cI (.str a.2)&&bh (cT r)))=θ;rw[c];rfl
def Rf (c:rB (UInt8.ofNat (8+n)) gen L):gC L ((((ku (UInt8.ofNat (8+n)) gen L).take 3).map iX).map (Ca n))=re (UInt8.ofNat (8+n)) gen L:=by
 have key:∀(M a:δ aT),(∀y∈M,y∈L)->gC a ((M.map iX).map (Ca n))=(M.map (·.1)).foldl mM a:=λM=>by
  induction M with
  |nil=>intro a _;rfl
  |cons y r f=>
   intro a d;obtain⟨q,j,_⟩:=c.first (d y V)
   have e:vj (Ca n (iX y)).nm=y.1:=by
    rw[show(Ca n (iX y)).nm=(((8+n:Nat):Int),y.1.drop 1)from rfl,ri,j];rfl
   show gC (GD a (Ca n (iX y))) ((r.map iX).map (Ca n))=(r.map (·.1)).foldl mM (mM a y.1);rw[f _ λz g=>d z (by simp[g])]
   congr 1
   unfold GD;rw[gq (show(Ca n (iX y)).gone=θ from rfl),e]
 rw[key _ _ λy i=>(Bq (ww i)).1,XV c.srt]
 rfl
def arJ (j:rB (UInt8.ofNat (8+n)) gen L)(d:n<=3){y:aT}(a:y∈L):QH (UInt8.ofNat (8+n)) gen (Ca n (iX y)):=by
 refine⟨⟨Hz (k:=y.1.drop 1) d ?_,by simp[Ca],λ_=>rfl⟩,.inl rfl⟩;rw[st];rcases j.items y a with h|⟨g,c,i,f,v,_,_,_,_,rfl⟩|⟨g,k,_,l,_,e,_⟩
 .rw[h.1];simp
 .simp[lK,ia,b4]
 .rw[e];simp[pK,ia,b4];omega
def kQ:δ Γ:=[108,112]
set_option maxHeartbeats 1000000 in
def VS (H:wD Z h κ τ π id n S L T)(hT:T<=800000000)(hL:L.length<=500):
 Rq0 16 [.ptr h 0] Z λy s=>y=.tuple [.bool (decide (3<(ku (UInt8.ofNat (8+n)) S.gen L).length)),I 0]/\∃u T',uR Z s h κ τ π u id n S (re (UInt8.ofNat (8+n)) S.gen L) T T':=by
 refine bE ?_;have f0:(tI κ id n S)[0]?=some (.ptr κ 0):=rfl;have f2:(tI κ id n S)[2]?=some (I ((8+n:Nat):Int)):=rfl;have f9:(tI κ id n S)[9]?=some (I S.gen):=rfl;have Et:=H.nb;have BP:=H.lts;have NW:bB 5 2 (cr 2 [.int .u8 0]) [(0,1,.int .u8 108),(1,1,.int .u8 112)] Z=.ok (.slice Z.nx 0 2 2 0) (O.new Z (.cells (al kQ) 5 false)):=rfl;rw[w16,cc,af,ag,B tW,bU,NW,aP,jM,af];generalize lU:O.new Z (.cells (al kQ) 5 false)=s1;obtain⟨k1,g1,n1⟩:=dB lU;simp only[ke];refine bD (λfu vs s=>∃i v F,fu+i=2/\i<=2/\vs=[.ptr h 0,v,.slice Z.nx 0 2 2 0,I ((2:Nat):Int),I i]/\Kp [] s1 s/\Own s v 2 123 (cT ((kQ.take i).flatMap λk=>(L.filter (mK (UInt8.ofNat (8+n)) k S.gen)).map iX)) F/\∀q∈F,s1.nx<=q/\q<s.nx) ?_ (n:=2) ⟨0,.ae,[],rfl,sw _,rfl,Kp.refl _ _,.inl ⟨rfl,rfl,rfl⟩,V⟩;rintro fu vs s aw ⟨i,v,F,Qz,hi,rfl,Q,hv,hF⟩ next;have ns:=Q.nx;simp only[ke];rw[dd,af,ag]
 by_cases f:i<2
 .rw[jp f,gq rfl];have gs:=(Q.keep Z.nx J V).trans g1;have sl:Sl s [] (.slice Z.nx 0 2 2 0) 1 (al kQ):=.inr ⟨Z.nx,0,2,2,0,rfl,rfl,⟨hI _,.inl rfl⟩,.inr ⟨V,J,_,_,_,gs,by simp[kQ],rfl⟩⟩;refine sl.idx (i:=i) (by simp[kQ,f]) _ ?_;have ek:(al kQ)[i]'(by simp[kQ,f])=bG (kQ[i]'(by simp[kQ,f])):=by unfold al;rw[S7]
  rw[ek];generalize Hc:kQ[i]'(by simp[kQ,f])=k;have X:=H.still (k1.trans Q);rw[aZ];simp only[rr,X.at_.get,f0,f2,f9];refine(sG X.fr k 0).mono ?_;rintro _ s2 ⟨rfl,k2⟩;have Y:=X.still k2;simp only[Y.at_.get,lW,f0,f2,f9];refine(sG Y.fr k S.gen).mono ?_;rintro _ s3 ⟨rfl,P⟩;have H3:=Y.still P;obtain⟨fr,ac⟩:=H3.at';refine(AF ac (sp:=((8+n:Nat):Int)) (fm:=ia k 0) (to:=ia k S.gen) ⟨⟨J,OJ⟩,ñ⟩ ⟨⟨J,OJ⟩,ñ⟩ J).mono ?_;rintro _ s4 ⟨x,rfl,k4,hx⟩;rw[O3]at hx;have C:=(k2.trans P).trans k4;have n4:=C.nx;have aq:R .neq (some .int) true (I 0) (.int .i64 0) s4=.ok (.bool false) s4:=rfl;simp only[H3.at_.get,lW,f0,f2,f9,sE,and_true,aq,zY,ii];obtain⟨m,hm,vY⟩:=hx.src [.str [],.str []]
  have ay:(cT ((L.filter (mK (UInt8.ofNat (8+n)) k S.gen)).map iX)).length<=1000:=by
   unfold cT;rw[dU (pA _)];have:=Jf (mK (UInt8.ofNat (8+n)) k S.gen) L;simp only[so];omega
  have az:(cT ((kQ.take i).flatMap λk=>(L.filter (mK (UInt8.ofNat (8+n)) k S.gen)).map iX)).length<=2000:=by
   unfold cT;rw[dU (pA _)];generalize UInt8.ofNat (8+n)=b;have h1:=Jf (mK b 108 S.gen) L;have:i=0\/i=1:=J
   rcases this with rfl|rfl<;>simp[kQ]<;>omega
  have hZ:(cT _).length=m*2:=hm;obtain⟨v',s5,F',ha,ho,kF,nM⟩:=(hv.mono λq hq=>C.keep q (hF q hq).2 V).append (n:=m) (bytes:=32) J hm (Lp _) (λq hq=>aaF) J;rw[vY,ha,aP,fV i J,af];refine next (fu-1) _ _ J ⟨i+1,v',F',J,J,rfl,(Q.trans C).trans kF λq hq=>.inr (hF q hq).1,?_,λq hq=>⟨?_,(nM q hq).2⟩⟩
  .rw[su (show i<kQ.length from f),List.flatMap_append,Hc];have e:∀D Bq0:List aT,cT (D++Bq0)=cT D++cT Bq0:=λD Bq0=>by unfold cT;simp
   rw[e];simpa using ho
  .rcases(nM q hq).1 with h1|h1
   .exact(hF q h1).1
   .omega
 .rw[jo f,B tW,bU];have e:i=2:=by omega
  subst e
  have eO:((kQ.take 2).flatMap λk=>(L.filter (mK (UInt8.ofNat (8+n)) k S.gen)).map iX)=(ku (UInt8.ofNat (8+n)) S.gen L).map iX:=by
   unfold ku;rw[wd];simp[kQ]
  rw[eO]at hv
  have aC:(ku (UInt8.ofNat (8+n)) S.gen L).length<=1000:=by
   unfold ku;rw[km];have h1:=Jf (mK (UInt8.ofNat (8+n)) 108 S.gen) L;have h2:=Jf (mK (UInt8.ofNat (8+n)) 112 S.gen) L;omega
  have Gs:∀y∈ku (UInt8.ofNat (8+n)) S.gen L,y∈L:=λy hy=>(Bq hy).1;have ad:=Rf (n:=n) H.l;generalize hO:ku (UInt8.ofNat (8+n)) S.gen L=d at*;have sv:Sl s [] v 2 (cT (d.map iX)):=hv.sl λq hq=>⟨V,(hF q hq).2⟩
  have aj:Bk false (.int .i64 3) (I (d.map iX).length) s=.ok (I ((min 3 d.length:Nat):Int)) s:=by
   have e:Bk false (.int .i64 3) (I (d.map iX).length) s=.ok (I (if ((d.map iX).length:Int)<3 then ((d.map iX).length:Int)else 3)) s:=rfl;rw[e,so];congr 2
   split<;>omega
  have PN:(cT (d.map iX)).length=d.length*2:=by unfold cT;rw[dU (pA _)];simp
  obtain⟨x3,e3,s3⟩:=sv.hi (k:=2) (n:=d.length) J PN (h:=min 3 d.length) J s
  have eT:(cT (d.map iX)).take (min 3 d.length*2)=cT ((d.take 3).map iX):=by
   have e:∀(M:List aT) (j:Nat),(cT M).take (j*2)=cT (M.take j):=λM=>by
    induction M with
    |nil=>intro j;simp[cT]
    |cons a r ih=>
     intro j;cases j with
     |zero=>simp[cT]
     |succ j=>
      have h1:=ih j;rw[tx,Li];show(K.str a.1::K.str a.2::cT r).take (j*2+2)=K.str a.1::K.str a.2::cT (r.take j);rw[aNO,aNO,h1]
   rw[e,<-L3]
   congr 2
   rcases wl d.length 3 with h1|h1
   .rw[Nat.min_eq_right J,lw (hI _),lw J]
   .rw[us h1]
  rw[eT]at s3;generalize hM:(d.take 3).map iX=M at*;have aD:M.length<=3:=by rw[<-hM,so,pu];omega
  rw[sv.ig,af,aj,af,e3,af,s3.ig,af];simp only[ke];have X:=H.still (k1.trans Q);clear Qz next;refine bD (λfu vs s'=>∃i w G,fu+i=M.length/\i<=M.length/\vs=[.ptr h 0,v,w,x3,I M.length,I i]/\Kp [] s s'/\Own s' w 4 107 (pJ ((M.take i).map (Ca n))) G/\∀q∈G,s.nx<=q/\q<s'.nx) ?_ (n:=M.length) ⟨0,.ae,[],rfl,sw _,rfl,Kp.refl _ _,.inl ⟨rfl,rfl,rfl⟩,V⟩;rintro fu vs s' aw ⟨i,w,G,Qz,hi,rfl,N,hw,W⟩ next;have ax:=N.nx;simp only[ke];rw[dd,af,ag]
  by_cases f:i<M.length
  .rw[jp f,gq rfl];refine(s3.mono N).uk f _ ?_;refine gW rfl rfl rfl ?_;generalize rA:O.new s' (.cells (bR M[i]) 123 false)=s2;obtain⟨k2,g2,n2⟩:=dB rA;rw[aZ];have Y:=X.still (N.trans k2);have gX:(O.skip s2).m.g s2.nx=none:=Y.fr _ (hI _);have P:=(Kp.refl [] s2).skip;have n3:(O.skip s2).nx=s2.nx+1:=rfl;generalize O.skip s2=o at*;have H3:=Y.still P;have g3:=(P.keep s'.nx J V).trans g2;have l0:(bR M[i])[0]?=some (.str M[i].1):=rfl;have hb:aR [.int .i64 0,.str [],.str [],.bool false] [(0,1,I ((8+n:Nat):Int)),(1,1,.str M[i].1),(3,1,.bool true)] o=.ok (.agg (jj (Ca n M[i]))) o:=rfl;simp only[rr,g3,H3.at_.get,l0,f2,hb];rw[fY gX (pH (k:=4) rfl rfl rfl),aP];have k4:Kp [] s2 (O.set o s2.nx (.cells (K.agg (jj (Ca n M[i]))).bY 107 false)):=P.set _ (.inr (hI _)) J;have g4:(O.set o s2.nx (.cells (K.agg (jj (Ca n M[i]))).bY 107 false)).m.g s2.nx=some (.cells (jj (Ca n M[i])) 107 false):=ao _ _ _;have n4:(O.set o s2.nx (.cells (K.agg (jj (Ca n M[i]))).bY 107 false)).nx=o.nx:=rfl;have ai:(O.set o s2.nx (.cells (K.agg (jj (Ca n M[i]))).bY 107 false)).m.g s'.nx=_:=(ar _ _ _ _ J).trans g3;generalize O.set o s2.nx (.cells (K.agg (jj (Ca n M[i]))).bY 107 false)=s4 at*;have C:=k2.trans k4;have H4:=X.still (N.trans C);obtain⟨w',s5,G',ha,ho,kG,aa⟩:=(hw.mono λq hq=>C.keep q (W q hq).2 V).append (n:=1) (bytes:=48) (T:=jj (Ca n M[i])) J rfl rfl (λq hq=>by have:=(W q hq).2;omega) (by rw[jx];simp[jj];omega);rw[wm g4 J rfl,ha,aP];simp only[ai,H4.at_.get,l0,f2,fV i J,rb,sE,and_true];refine next (fu-1) _ _ J ⟨i+1,w',G',J,J,rfl,(N.trans C).trans kG λq hq=>.inr (W q hq).1,?_,λq hq=>⟨?_,(aa q hq).2⟩⟩
   .rw[su f,wd];have e:pJ ((M.take i).map (Ca n)++[M[i]].map (Ca n))=pJ ((M.take i).map (Ca n))++jj (Ca n M[i]):=by unfold pJ;simp
    rw[e];exact ho
   .rcases(aa q hq).1 with h1|h1
    .exact(W q h1).1
    .omega
  .rw[jo f,B tW];have e:i=M.length:=by omega
   subst e;rw[lw (hI _)]at hw;have p:=(k1.trans Q).trans N;have H':=H.still p;unfold fP;rw[bk,af,ah,af,av,H'.at_.get,ak,oa,f0,an];have ab:Sl s' (own τ π) w 4 (pJ (M.map (Ca n))):=hw.sl λq hq=>⟨λhh=>by have:=BP q É;have:=(W q hq).1;omega,(W q hq).2⟩;refine(H'.apply hT hL ab (λc f=>?_) (by rw[so];omega)).mono ?_
   .rw[<-hM]at f;obtain⟨y,hy,rfl⟩:=lm.1 f;obtain⟨z,hz,rfl⟩:=lm.1 hy;exact arJ H.l Et (Gs z (ww hz))
   rintro _ s6 ⟨rfl,u,T',kf,wt⟩;have ap:R .neq (some .int) true (I 0) (.int .i64 0) s6=.ok (.bool false) s6:=rfl;have am:R .gtr none true (I (d.map iX).length) (.int .i64 3) s6=.ok (.bool (decide (3<d.length))) s6:=by rw[so,au,cQ];congr 2;simp only[CI];omega
   rw[ap,af,ag,B tW,sv.ig,af,am,af];rw[ad]at wt;exact⟨rfl,u,T',wt.pre p⟩
end
