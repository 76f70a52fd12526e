import Derived.Test.YtckodcbgpffimaaGreatDoorPagF
import Derived.Test.YtckodcbgpffimaaGreatDoorBtE
namespace Lim
open Go
noncomputable section
set_option linter.defProp false
set_option maxRecDepth 100000
section
variable {s:O}{M:cA}{D:aX}{r0:Nat}{sB:O}{pj:δ fx}{bd r:Nat}{F:δ Nat}{base:Nat}{P:Nat->Piece}{Ls:δ (δ fx)}
def Wf {l:δ fx}{n:Nat}{s:kh}(h:n∉l.map (·.1)):jr l n s=l++[(n,s)]:=by
 induction l with
 |nil=>rfl
 |cons p r a=>
  simp only[pw,ip,rt]at h;simp only[jr,B h.1,ut];rw[a h.2]
def Ie {l:δ fx}(h:(l.map (·.1)).Nodup){e:fx}(a:e∈l):dm l e.1=Φ e.2:=by
 induction l with
 |nil=>cases a
 |cons p r b=>
  rw[pw,me]at h;simp only[dm];rcases ip.1 a with rfl|a
  .rw[gq rfl]
  .rw[B (λhh=>h.1 (by rw[<-hh];exact Ey a))];exact b h.2 a
def tT.abk {G:GM}(h:tT M D G)(idle:δ Nat)(hi:∀n,n∈idle↔n∈G.fr)(a:idle.Nodup):tT {M with idle:=idle} D G:=
 ⟨h.aO,h.used,h.root,h.head,h.free,hi,a,h.ok,h.fits,h.len,h.cont,h.chain.congr λ_ _=>rfl,h.count,h.uJ,h.wo,h.eu⟩
structure JU (π:PI)(r0:Nat)(M:cA)(G Gk:GM)(T:Nat)(sB s:O)(pj:List fx)(bd r:Nat)(F:List Nat)(D:aX)(base last:Nat)(P:Nat->Piece)(Ls:List (List fx)):Prop where
 oX:dx s π.p π.a (.ptr r 0) {M with cC:=pj} bd π.bn π.bi π.bc
 MB:dz s π.a F D
 ok:mS D Gk base last P Ls π.kept
 len:D.aB.length=π.D.aB.length
 set:D.set=π.D.set
 dir:∀n,dm pj n=dm (eU [] Ls) n
 rq:∀e∈pj,e.1<M.aO/\e.2.length=512
 ring:gR s r π.a ⟨1,D.aB.length/4,base,last,last⟩
 rF:r∉F
 rP:r∉[π.p,bd,π.bn,π.bi,π.bc]
 Og:∀b∈F,b∉[π.p,bd,π.bn,π.bi,π.bc]
 T:last<=T
 bdN:bd=π.bd\/sB.nx<=bd
 rN:r=r0\/sB.nx<=r
 FN:∀b∈F,b∈π.Fd\/sB.nx<=b
 kp:Kp (r0::π.all) sB s
 fresh:dV s
 rep:tT {M with cC:=pj} D G
def CA (π:PI)(s:O)(F:δ Nat):Prop:=∃c M bd d f g,dx s π.p π.a c M bd d f g/\(∀b∈F,b≠π.p)/\(∀e∈M.cC,e.2.length=512)/\M.first+M.aO<=1000000
structure CG (π:PI)(r0:Nat)(M:cA)(G Gk:GM)(T:Nat)(l:List fx)(sB s:O)(pj:List fx)(bd r:Nat)(F:List Nat)(D D':aX)(base last:Nat)(P:Nat->Piece)(Ls:List (List fx)):Prop where
 oX:dx s π.p π.a (.ptr r 0) {M with cC:=pj} bd π.bn π.bi π.bc
 MB:dz s π.a F D'
 ok:mS D Gk base last P Ls π.kept
 wrote:UK D D' (D.aB.length/4) (xV P (D.aB.length/4) (eR l) last (bf (eR l).length)) (lE (D.aB.length/4) base last last (eR l) (bf (eR l).length))
 len:D.aB.length=π.D.aB.length
 set:D.set=π.D.set
 dir:∀n,dm pj n=dm (eU [] Ls) n
 rq:∀e∈pj,e.1<M.aO/\e.2.length=512
 ring:gR s r π.a ⟨1,D.aB.length/4,base,last+bf (eR l).length,last+bf (eR l).length⟩
 rF:r∉F
 rP:r∉[π.p,bd,π.bn,π.bi,π.bc]
 Og:∀b∈F,b∉[π.p,bd,π.bn,π.bi,π.bc]
 T:last<=T
 room:bf (eR l).length+(last-base)<=D.aB.length/4
 bdN:bd=π.bd\/sB.nx<=bd
 rN:r=r0\/sB.nx<=r
 FN:∀b∈F,b∈π.Fd\/sB.nx<=b
 kp:Kp (r0::π.all) sB s
 fresh:dV s
 rep:tT {M with cC:=pj} D G
def PI.uT {π:PI}{b:Nat}(h:b∈π.Fd):b∈π.all:=by unfold PI.all;simp[h]
def xU {π:PI}{G Gk:GM}{T:Nat}{last:Nat}(h:JU π r0 M G Gk T sB s pj bd r F D base last P Ls){l:δ fx}{rec:K}(o:Sl s F rec 1 (al (eR l)))(N:(eR l).length<=1000000)(hT:T<=900000000)(C:bf (eR l).length+(last-base)<=D.aB.length/4):
 Rq0 186 [.ptr r 0,rec] s λx s'=>(x=I 0/\∃F' D',CG π r0 M G Gk T l sB s' pj bd r F' D D' base last P Ls)\/(x=I 20/\Kp (r0::π.all) sB s'/\D.set=θ/\∃F' D',dz s' π.a F' D'/\(∀b∈F',b∈π.Fd\/sB.nx<=b)/\lS D.aB (lE (D.aB.length/4) base last last (eR l) (bf (eR l).length)) D'/\CA π s' F'):=by
 have Mt:=h.ok.least;have S:=h.ok.jT;have vu:=h.ok.laid.le.1;have L:=h.T;have H:bf (eR l).length<=1000000:=J
 have Y:(⟨1,D.aB.length/4,base,last,last⟩:RingM).room=(D.aB.length/4:Nat)-((last:Int)-base):=by unfold RingM.room;rw[B V]
 refine(Qk h.fresh h.ring h.MB h.rF h.ok.calm.dead o N (by show 0<D.aB.length/4;omega) (by show 1+D.aB.length/4<=_;omega) (by show base<=_;omega) (by show last<=_;omega) (by show _<=D.aB.length/4;omega) V (by rw[Y];omega) (by rw[h.ok.waits];simp)).mono ?_;rintro x s' ⟨d,L0,rfl,m,⟨F',z,k⟩,w⟩;have g:=h.oX.lt;have X:=h.ring.1;have hn:=h.kp.nx;have W:=h.MB.lt
 have y:=h.kp.trans m λq f=>by
  rcases ip.1 f with f|f
  .exact h.rN.imp (λe=>by simp[f,e]) (λe=>J)
  .exact(h.FN q f).imp (λe=>by simp[PI.uT e]) id
 have i:∀b∈F',b∈π.Fd\/sB.nx<=b:=λb c=>by
  rcases k b c with h1|h1
  .exact h.FN b h1
  .right;omega
 have u:=OK (D:=D) (count:=D.aB.length/4) (base:=base) (last:=last) (top:=last) (P:=P) (rec:=eR l) h.ok.calm (by unfold aX.En;rw[h.ok.waits];simp) J J h.ok.oN J H _ (hI _);rw[show D.writes (lE (D.aB.length/4) base last last (eR l) (bf (eR l).length))=d from L0]at u;rcases u with⟨j,n⟩|⟨j,n,v⟩
 case inr=>
  rw[B (by rw[j];decide)];rw[h.ok.waits,ow]at v
  refine .inr ⟨rfl,y,n,F',_,z,i,v,.ptr r 0,_,bd,π.bn,π.bi,π.bc,h.oX.keep m λb c hh=>by
   rcases ip.1 hh with hh|hh
   .exact h.rP (hh▸c)
   .exact h.Og b hh c,λb c e=>?_,λe Q=>(h.rq e Q).2,by have:=h.rep.fits;have:M.first+M.aO<=D.aB.length:=this;show M.first+M.aO<=_;omega⟩
  rcases k b c with h1|h1
  .exact h.Og b h1 (by simp[e])
  .have:=g π.p V;omega
 rw[gq j]at w;refine .inl ⟨by rw[gq j],F',d.2,?_,z,h.ok,n,h.len,h.set,h.dir,h.rq,w,λhh=>?_,h.rP,λb c hh=>?_,h.T,C,h.bdN,h.rN,i,y,m.fresh h.fresh,h.rep⟩
 .exact h.oX.keep m λb c hh=>by
   rcases ip.1 hh with hh|hh
   .exact h.rP (hh▸c)
   .exact h.Og b hh c
 .rcases k r hh with h1|h1
  .exact h.rF h1
  .omega
 .rcases k b c with h1|h1
  .exact h.Og b h1 hh
  .have:=g b hh;omega
def Fz {π:PI}{G Gk:GM}{T:Nat}{last:Nat}(h:JU π r0 M G Gk T sB s pj bd r F D base last P Ls)(hT:T<=900000000)(H:M.first=1+D.aB.length/4)(W:M.first+M.aO=D.aB.length):
 Rq0 114 [.ptr π.p 0,I last] s λx s'=>(x=I 0/\∃bd' r' F' D',JU π r0 M G Gk T sB s' [] bd' r' F' D' last last P [])\/(x=I 20/\Kp (r0::π.all) sB s'/\D.set=θ/\∃F' D',dz s' π.a F' D'/\(∀b∈F',b∈π.Fd\/sB.nx<=b)/\aeK D M.first pj last D'/\CA π s' F'):=by
 have Mt:=h.ok.least;have ab:=h.ok.jT;have aa:=h.T;have c:=h.oX.lt;have hn:=h.kp.nx;have ZH:=kP (by rw[<-ni];exact h.oX.cC.nd)
 have Mo:pj.length<=65536:=by
  have:=qb 65536 (pj.map (·.1)) ZH λx o=>by
   obtain⟨e,v,rfl⟩:=lm.1 o;have:=(h.rq e v).1;omega
  rwa [so]at this
 refine(KZ (M:={M with cC:=pj}) h.oX h.MB h.ok.calm h.ok.waits h.fresh h.Og (by show pj.length<=_;omega) h.rq W H J J h.ok.oN).mono ?_
 have C:∀s',Kp (π.p::F) s s'->Kp (r0::π.all) sB s':=λs' f=>h.kp.trans f λq g=>by
  rcases ip.1 g with g|g
  .left;rw[g];unfold PI.all;simp
  .exact(h.FN q g).imp (λe=>by simp[PI.uT e]) id
 rintro _ s' (⟨rfl,f,r',bd',F',D',w,z,X,u,l,N,CN,ac,jg,i,S,y⟩|⟨f,rfl,Y,F',D',z,i,hs⟩)
 case inr=>
  refine .inr ⟨rfl,C s' (f.mono λq g=>.inl (EQ _ g)),Y,F',D',z,λb d=>?_,hs,.ptr r 0,_,bd,π.bn,π.bi,π.bc,h.oX.keep f λb d hh=>h.Og b hh d,λb d e=>?_,λe v=>(h.rq e v).2,by show M.first+M.aO<=_;omega⟩
  .rcases i b d with h2|h2
   .exact h.FN b h2
   .right;omega
  .rcases i b d with h1|h1
   .exact h.Og b h1 (by simp[e])
   .have:=c π.p V;omega
 have L:∀j,D'.cur j=if j=0 then dZ last else if j<1+D.aB.length/4 then D.cur j else (dm pj (j-(1+D.aB.length/4))).getD (D.cur j):=λj=>by rw[S];show(if j=0 then _ else if j<M.first then _ else (dm pj (j-M.first)).getD _)=_;rw[H]
 have k:=h.ok.toK.settled h.dir X u l L;have Q:=(k.opened).2;rw[l]at Q;rw[Q]at N;refine .inl ⟨rfl,bd',r',F',D',w,z,k,l.trans h.len,y.trans h.set,λn=>rfl,V,by rw[l];exact N,λhh=>(i r' hh).2.1 rfl,?_,λb d hh=>?_,h.T,.inr J,.inr J,λb d=>?_,C s' f,f.fresh h.fresh,?_⟩
 .have h1:=c π.p V;have h2:=c π.bn V;have h3:=c π.bi V;have h4:=c π.bc V;simp only[ip,wn,GZ];exact⟨J,jg,J,J,J⟩
 .have h1:=i b d;simp only[ip,wn,PP]at hh
  have m:∀x∈[π.p,bd,π.bn,π.bi,π.bc],b=x->False:=λx o e=>by
   rcases h1.1 with h2|h2
   .exact h.Og b h2 (e▸o)
   .have:=c x o;omega
  rcases hh with hh|hh|hh|hh|hh
  .exact m π.p V hh
  .exact h1.2.2 hh
  .exact m π.bn V hh
  .exact m π.bi V hh
  .exact m π.bc V hh
 .rcases(i b d).1 with h2|h2
  .exact h.FN b h2
  .right;omega
 .refine h.rep.congr (λn hn=>?_) rfl rfl rfl rfl rfl rfl l;unfold cA.get;show(match dm M.now n with|some s=>s|none=>match dm [] n with|some s=>s|none=>D'.cur (M.first+n))=match dm M.now n with|some s=>s|none=>match dm pj n with|some s=>s|none=>D.cur (M.first+n)
  rw[L,B J,B J,show M.first+n-(1+D.aB.length/4)=n from J];cases dm M.now n with
  |some s=>rfl
  |none=>cases dm pj n<;>rfl
def abq:∀(n:Nat) (l:δ Nat),l.Nodup->(∀x∈l,x<n)->l.length<=n:=by
 intro n
 induction n with
 |zero=>
  intro l _ h;cases l with
  |nil=>simp
  |cons a r=>exact absurd (h a V) J
 |succ n d=>
  intro l c h
  by_cases f:n∈l
  .have:=d (l.erase n) (c.erase n) λx b=>by
    have h1:=(c.mem_erase_iff).1 b;have:=h x h1.2;omega
   rw[List.length_erase_of_mem f]at this;omega
  .have:=d l c λx b=>by
    have:=h x b;have:x≠n:=λe=>f (e▸b);omega
   omega
section
variable {Z Z':O} {π:PI} {G Gk:GM} {T:Nat}
def CF (π:PI)(r:Nat)(G Gk:GM)(T:Nat)(Z Z':O):Prop:=Kp (r::π.all) Z Z'/\π.D.set=θ/\∃F' D',dz Z' π.a F' D'/\(∀b∈F',b∈π.Fd\/Z.nx<=b)/\(aeJ Gk π.D.aB.length T D'\/aeJ G.reset π.D.aB.length T D')/\CA π Z' F'
def EU (π:PI)(G Gk:GM)(T:Nat)(Z:O)(v:K)(Z':O):Prop:=
 (v=I 3/\Kp [] Z Z'/\π.D.aB.length/8<G.eu.length)\/(v=I 0/\∃c r,c.p=π.p/\c.a=π.a/\Pg c Z' G.reset/\ja c Z' G.reset T/\π.lg=.ptr r 0/\(∃r',c.lg=.ptr r' 0/\(r'=r\/Z.nx<=r'))/\Kp (r::π.all) Z Z'/\(∀b∈c.all,b∈π.all\/Z.nx<=b)/\c.D.aB.length=π.D.aB.length/\c.D.set=π.D.set)\/(v=I 20/\∃r,π.lg=.ptr r 0/\CF π r G Gk T Z Z')
set_option maxHeartbeats 2000000 in
def Lj (h:Pg π Z G)(hk:ja π Z Gk T)(lR:dV Z)(hT:T<=900000000)(LZ:π.D.aB.length<=8000)(IT:G.root=0\/G.bV G.root)(c7:G.aO=Gk.aO):Rq0 133 [.ptr π.p 0] Z (EU π G Gk (T+10000) Z):=by
 obtain⟨M,H,i,hd,yA,hF,ay,c6,bs⟩:=h;obtain⟨⟨base,last,P,Ls,r,oD,ba,Mh,uz,Zj,Xy⟩,bb,be,uB⟩:=hk;rw[Mh]at H;have ax:∀n,dm M.cC n=dm (eU [] Ls) n:=by rw[ay];exact Xy
 have Mt:=oD.least;have Eu:=H.main;have qS:M.now.length=M.count.length:=by rw[<-i.count,so]
 refine bE ?_;rw[aqy];rw[cc,af,ag,B tW,aZ,bk,af,ah,af,av,Eu,ak];simp only[Gm,kc,io]
 have bl:aY .map (.map π.bc) Z=.ok (I M.count.length) Z:=by
  have:=IsMap.len (.inl H.count)
  rwa [show(vS M.count).length=M.count.length by unfold vS;simp]at this
 rw[bl,af,af,ah,af,av,Eu,ak];simp only[Gm,io];refine(zl hd).same ?_
 have e8:R .quo none true (I π.D.aB.length) (.int .i64 8) Z=.ok (I ((π.D.aB.length/8:Nat):Int)) Z:=by
  have e0:R .quo none true (I π.D.aB.length) (.int .i64 8) Z=.ok (I (IntKind.i64.wrap (Int.tdiv π.D.aB.length 8))) Z:=rfl;have e1:Int.tdiv (π.D.aB.length:Int) 8=((π.D.aB.length/8:Nat):Int):=rfl;rw[e0,e1,bt J]
 have bw:R .gtr none false (I M.count.length) (I ((π.D.aB.length/8:Nat):Int)) Z=.ok (.bool (decide (π.D.aB.length/8<M.count.length))) Z:=yZ
 rw[e8,af,bw,af];refine⟨⟨gt,gt,gt,gt⟩,gt,?_⟩;rw[ag]
 by_cases mh:π.D.aB.length/8<M.count.length
 .rw[jp mh,gq rfl];exact .inl ⟨rfl,Kp.refl _ _,by rw[<-i.eu];omega⟩
 rw[jo mh,B tW]
 have Tz:M.m.root=0\/M.bV M.m.root:=by
  rw[i.root];exact IT.imp id λhu=>(i.xL _).2 hu
 have c8:=i.ok.jT;have pe:=i.ok.size
 have cx:M.m.root<2147483648:=by
  rcases Tz with Q|Q
  .omega
  .have:=Q.2.1;rw[i.used]at this;omega
 have bv:R .neq (some .int) true (I M.m.root) (.int .i64 0) Z=.ok (.bool (decide (M.m.root≠0))) Z:=by rw[au,dJ];congr 2;by_cases h:M.m.root=0<;>simp[h]
 have cw:∀Kq0:K->O->Prop,Kq0 (.bool false) Z->oE 10 0 (.ptr π.p 0) Z (λcP=>U (R .neq (some .int) true cP (.int .i64 0) Z) λcJ=>U (kx (bj true cJ) Z (.ok (.ptr π.p 0) Z)) λdj=>U (kx (bj true cJ) Z (.ok (.ptr π.p 0) Z)) λdP=>U (kx (bj true cJ) Z (df dP Z)) λdE=>U (kx (bj true cJ) Z (aj 10 dE Z)) λdO=>
  gG (bj true cJ) 0 dO Z λdC=>iF (bj true cJ) Z (λk=>Rq0 184 [dj,dC] Z k) λdD s2=>U (kx (bj true cJ) s2 (kZ .not dD s2)) λdN=>U (bg cJ dN (.bool false) s2) λdL=>Kq0 dL s2):=by
  intro Kq0 u;simp only[oE,rr,Eu,Nat.reduceAdd,kc,io,bv]
  by_cases Q:M.m.root=0
  .simp only[Q,ne_eq,not_true_eq_false,FS,ix,bA,gG,gP,NE,ii];exact u
  .have hu:=Tz.resolve_left Q;simp only[Q,ne_eq,not_false_eq_true,PO,aD,ix,aW,gG,rr,Eu,Nat.reduceAdd,kc,io,dH];refine(xK H _).same ?_;simp only[hu,bZ,Al,af,aC,ix];exact u
 refine cw (λdL s2=>aA dL _ _) ?_;rw[ag,B tW,aZ,bk,af,ah,af,av,Eu,ak];simp only[Gm,kc,io];rw[af,ah,af,im (n:=4) Eu V,af];have dg:=qb G.used G.fr i.ok.nd λx hx=>(i.ok.fr x hx).2
 have c3:G.fr.headD 0<=65536:=by
  cases hf:G.fr with
  |nil=>simp
  |cons n r=>have:=(i.ok.fr n (by rw[hf];simp)).2;simp;omega
 have ap:∀n∈ot M.m,n<9223372036854775808:=by
  intro n z;have q1:=i.used;have q2:=i.head;have q3:=i.free;simp only[ot,ip,wn,PP]at z;rcases z with rfl|rfl|rfl|rfl<;>omega
 refine(F6 (m:=M.m) ap).mono ?_;rintro _ s3 ⟨rfl,k3⟩;have ZY:=H.keep k3 V;have aq:=ZY.main;obtain⟨blk,u1,u2,u3⟩:=IsMap.update (.inl ZY.now) 0 (.agg (al (cB M.m)));have u4:=u3 ZY.now
 have u5:ef (O.set s3 π.bn blk) π.bn (iA (jr M.now 0 (cB M.m))):=by
  have:=A3 M.now 0 (cB M.m);rw[<-this];exact u4
 rw[show fe .int (.map π.bn) (.int .i64 0) (.agg (al (cB M.m))) s3=.ok .undef (O.set s3 π.bn blk)from u1,aP,av,aq,ak];refine⟨⟨⟨rfl,gt⟩,gt,gt⟩,gt,?_⟩;have nd:=H.nd;simp only[me,ip,wn,GZ]at nd;obtain⟨⟨m1,m2,m3,m4⟩,⟨m5,m6,m7⟩,⟨m8,m9⟩,cY,_⟩:=nd;have cd:=ZY.lt π.bn V
 have aa:dx (O.set s3 π.bn blk) π.p π.a (.ptr r 0) {M with now:=jr M.now 0 (cB M.m)} π.bd π.bn π.bi π.bc:=
  ⟨(ar _ _ _ _ m2).trans aq,ZY.cC.mono (ar _ _ _ _ m5),u5,ZY.idle.mono (ar _ _ _ _ (ny m8)),ZY.count.mono (ar _ _ _ _ (ny m9)),H.nd,ZY.lt,H.lgs⟩
 have k4:Kp [π.bn] Z (O.set s3 π.bn blk):=(k3.mono V).set _ (.inl V) cd;generalize O.set s3 π.bn blk=s4 at*;have a9:=aa.main;have bT:=k4.fresh lR
 have Z4:0∉M.now.map (·.1):=λhh=>by
  rw[i.count]at hh;have:=(i.wo 0 hh).1;omega
 have aw:=Wf (s:=cB M.m) Z4;generalize hN:jr M.now 0 (cB M.m)=N at*;have br:N.length=M.now.length+1:=by rw[aw];simp
 have PS:M.aO=π.D.aB.length-1-π.D.aB.length/4:=by
  have a1:=i.aO;have a2:π.D.aB.length-1-π.D.aB.length/4=Gk.aO:=oD.rep.aO;omega
 have ZZ:M.first=1+π.D.aB.length/4:=by rw[bs,bb]
 have NX:∀n∈N.map (·.1),∃s,dm N n=some s/\n<=100000/\n<M.aO/\s.length=512:=λn z=>by
  have hg:dm N n=if n=0 then some (cB M.m)else dm M.now n:=by rw[<-hN,rJ]
  by_cases Q:n=0
  .rw[gq Q]at hg;have h1:=i.ok.one;exact⟨_,hg,J,by have:=i.aO;omega,jN _⟩
  .rw[B Q]at hg;rw[aw,wd,lh]at z
   have Hb:n∈M.now.map (·.1):=by
    rcases z with h1|h1
    .exact h1
    .exact absurd QM Q
   cases hp:dm M.now n with
   |none=>exact absurd Hb (nt.1 hp)
   |some s=>
    rw[hp]at hg;rw[i.count]at Hb;have h2:=i.wo n Hb;have h3:=i.len n h2.2;have h4:M.get π.D n=s:=by unfold cA.get;rw[hp]
    rw[h4]at h3;exact⟨s,hg,J,by have:=i.aO;omega,h3⟩
 have cj:∀{Kq0:K->Prop},Kq0 (.map π.bn)->fP 5 (.ptr π.p 0) s4 Kq0:=λ{Kq0} u=>by
  rw[fP,bk,af,ah,af,av,a9,ak];exact u
 rw[bU];refine cj ?_;refine Nx.mono ?_;rintro _ AD ⟨rfl,bu,Py,cL⟩;have bN:=aa.keep Py V;refine(DP (L:=N) bu (.inl bN.now) (by rw[br];omega) (λn z=>by obtain⟨_,_,h1,_⟩:=NX n z;omega)).mono ?_;intro x Qq IW;have a7:=IW.kp;have Yi:=Py.trans a7 V;have aI:=aa.keep Yi V;have cm:=Yi.fresh bT;have bq:(N.map (·.1)).Nodup:=kP (by rw[<-ni];exact aa.now.nd);have di:(pV (N.map (·.1))).length=N.length:=by rw[zc,so]
 have Xs:=zL bq;have SJ:=IW.sl [] V;have Xr:∀n,n∈pV (N.map (·.1))↔n∈N.map (·.1):=λn=>uY;generalize oL:pV (N.map (·.1))=ks at*;rw[SJ.len ks.length V J Qq,af];simp only[ke];refine Wb (M:=M) (N:=N) aI cm (λs hs=>SJ.mono hs) ⟨λn z=>?_⟩ J ?_
 .obtain⟨s,q1,q2,_,q4⟩:=NX n ((Xr n).1 z);exact⟨s,q1,q2,q4⟩
 intro s rec ad qz;simp only[ke];have BQ:=oH N ks;have c1:(dS N ks).length=ks.length:=by unfold dS;simp
 have SW:∀e∈dS N ks,e.1<M.aO/\e.2.length=512:=λe w=>by
  unfold dS at w;obtain⟨n,z,rfl⟩:=lm.1 w;obtain⟨s',q1,q2,q3,q4⟩:=NX n ((Xr n).1 z);simp only[q1,Jd];exact⟨q3,q4⟩
 have Zw:∀n,dm (dS N ks) n=if n=0 then some (cB M.m)else dm M.now n:=λn=>by
  have hg:dm N n=if n=0 then some (cB M.m)else dm M.now n:=by rw[<-hN,rJ]
  rw[<-hg]
  have key:∀js:List Nat,dm (dS N js) n=if n∈js then some ((dm N n).getD [])else none:=by
   intro js
   induction js with
   |nil=>rfl
   |cons j js ih=>
    show(if n=j then some ((dm N j).getD [])else dm (dS N js) n)=_
    by_cases hj:n=j
    .subst hj;rw[gq rfl,gq V]
    .rw[B hj,ih];simp only[ip,hj,false_or]
  rw[key]
  by_cases z:n∈ks
  .rw[gq z];obtain⟨s',q1,_⟩:=NX n ((Xr n).1 z);rw[q1];rfl
  .rw[B z];exact(nt.2 λhh=>z ((Xr n).2 hh)).symm
 have c9:=M7 _ λe w=>by have:=SW e w;omega
 have Vc:bf (eR (dS N ks)).length<=π.D.aB.length/4:=by
  have h1:(dS N ks).length<=π.D.aB.length/8+1:=J
  generalize (eR (dS N ks)).length=X at*;unfold bf
  split<;>omega
 have am:(eR (dS N ks)).length<=1000000:=J
 generalize hl:dS N ks=l at*;have Ae:=aI.keep ad V;have Me:=Ae.main
 have cs:∀{Kq0:K->Prop},Kq0 (.map π.bn)->fP 5 (.ptr π.p 0) s Kq0:=λ{Kq0} u=>by
  rw[fP,bk,af,ah,af,av,Me,ak];exact u
 refine cs ?_;obtain⟨v,d1,d2,d3⟩:=Ae.now.delete 0;rw[show qM .int (.map π.bn) (.int .i64 0) s=.ok .undef v from d1,aP]
 have d4:ef v π.bn (iA M.now):=by
  have e:sR (iA N) 0=iA M.now:=by rw[<-hN];exact Ry Z4
  rw[<-e];exact d3
 have cb:=Ae.lt π.bn V
 have oR:Kp [π.bn] s v:=by
  rcases d2 with rfl|⟨blk,rfl⟩
  .exact Kp.refl _ _
  .exact(Kp.refl _ s).set _ (.inl V) cb
 have kk:∀q∈[π.p,π.bd,π.bn,π.bi,π.bc],q≠π.bn->v.m.g q=s.m.g q:=λq y jg=>oR.keep q (Ae.lt q y) acm
 have aH:dx v π.p π.a (.ptr r 0) {M with cC:=M.cC} π.bd π.bn π.bi π.bc:=
  ⟨(kk π.p V (ny (ny m2))).trans Me,Ae.cC.mono (kk π.bd V m5),d4,Ae.idle.mono (kk π.bi V (ny m8)),Ae.count.mono (kk π.bc V (ny m9)),H.nd,λb d=>ov (Ae.lt b d) oR.nx,H.lgs⟩
 have Vq:=((k4.trans Yi V).trans ad V).trans oR lk;have bz:∀b∈π.Fd,b∉[π.bn]:=λb d hh=>hF b d (by simp at hh;simp[hh]);have aL:=hd.keep Vq bz;have bW:r≠π.bn:=λe=>Zj (by unfold PI.all;simp[e]);have Gj:=uz.keep Vq (by simpa using bW);have cl:=Vq.fresh lR;have Nl:=oR.nx
 have L5:JU π r M G Gk T v v M.cC π.bd r π.Fd π.D base last P Ls:=
  ⟨aH,aL,oD,rfl,rfl,ax,λe w=>by rw[PS];exact be e (by rw[<-ay];exact w),Gj,λhh=>Zj (PI.uT hh),λhh=>Zj (by unfold PI.all;simp at hh⊢;rcases hh with h|h|h|h|h<;>simp[h]),hF,ba,.inl rfl,.inl rfl,lk,Kp.refl _ _,cl,i⟩
 obtain⟨Fr,a0,ac⟩:=qz;have cI:=Yi.nx;have n4:=k4.nx;have cF:=ad.nx;have cp:=a0.keep oR λb d=>⟨(ac b d).2,by have:=(ac b d).1;have:=H.lt π.bn V;simp;omega⟩
 have SN:∀(s':O) (F':List Nat),Kp (r::π.all) v s'->(∀b∈F',b∈π.Fd\/v.nx<=b)->Sl s' F' rec 1 (al (eR l)):=λs' F' wB nM=>by
  have tE:∀b∈Fr,Z.nx<=b/\b<v.nx:=λb d=>by have:=ac b d;omega
  have de:=uz.1
  have fJ:∀b∈Fr,b∉r::π.all:=λb d hh=>by
   have h1:=tE b d;rcases ip.1 hh with hh|hh
   .omega
   .have:b<Z.nx:=by
     unfold PI.all at hh;simp only[ip]at hh;rcases hh with hh|hh|hh|hh|hh|hh
     .rw[hh];exact H.lt _ V
     .rw[hh];exact H.lt _ V
     .rw[hh];exact H.lt _ V
     .rw[hh];exact H.lt _ V
     .rw[hh];exact H.lt _ V
     .exact hd.lt b hh
    omega
  have cy:=cp.keep wB λb d=>⟨(tE b d).2,fJ b d⟩;have cG:=wB.nx
  exact cy.sl λb d=>⟨λhh=>by
   have h1:=tE b d;rcases nM b hh with h2|h2
   .exact fJ b d (by simp[PI.uT h2])
   .omega,by have:=tE b d;omega⟩
 have bP:=aH.main
 have ZE:∀{Kq0:K->Prop},Kq0 (.ptr r 0)->fP 1 (.ptr π.p 0) v Kq0:=λ{Kq0} u=>by
  rw[fP,bk,af,ah,af,av,bP,ak];exact u
 refine ZE ?_
 have ae:∀{s':O} {pj:List fx} {bd' r':Nat} {F':List Nat} {D':aX} {base' last':Nat} {P':Nat->Piece} {UQ:List (List fx)},D'.aB.length=π.D.aB.length->(∀n,dm pj n=dm (eU [] UQ) n)->tT {M with cC:=pj} D' G->yS D' G {M with cC:=pj} l UQ:=λ{s' pj bd' r' F' D' base' last' P' UQ} ph ce cn=>
  ⟨cn,by show M.first=_;rw[ZZ,ph],by show M.aO=_;rw[PS,ph],ce,by rw[<-hl,oH];exact Xs,Zw,SW,am,cx⟩
 have dh:bf (eR l).length<=2000:=J
 have ab:∀{s0 s':O} {pj:List fx} {bd' r':Nat} {F':List Nat} {D':aX} {base' last':Nat} {P':Nat->Piece} {UQ:List (List fx)},JU π r M G Gk T v s0 pj bd' r' F' D' base' last' P' UQ->bf (eR l).length+(last'-base')<=D'.aB.length/4->Kp (r::π.all) v s'->D'.set=true->
  (∃F2 Y,dz s' π.a F2 Y/\(∀b∈F2,b∈π.Fd\/v.nx<=b)/\lS D'.aB (lE (D'.aB.length/4) base' last' last' (eR l) (bf (eR l).length)) Y/\CA π s' F2)->CF π r G Gk (T+10000) v s':=by
  rintro s0 s' pj bd' r' F' D' base' last' P' UQ C qR wB jh ⟨F2,Y,Hh,Dr,XB,NK⟩;have bp:=C.T;refine⟨wB,by rw[<-C.set];exact jh,F2,Y,Hh,Dr,?_,NK⟩;rcases C.ok.agN (ae (s':=s') (bd':=bd') (r':=r') (F':=F') (base':=base') (last':=last') (P':=P') C.len C.dir C.rep) J qR XB with⟨top,P2,u,b5⟩|⟨P2,u⟩
  .exact .inl ⟨XB.dead,by rw[XB.len];exact C.len,_,_,_,_,_,_,u,J⟩
  .exact .inr ⟨XB.dead,by rw[XB.len];exact C.len,_,_,_,_,_,_,u,J⟩
 have Tu:Rq0 186 [.ptr r 0,rec] v λx s'=>(x=I 0/\∃pj bd r' F D D' base last P Ls,CG π r M G Gk T l v s' pj bd r' F D D' base last P Ls)\/(x=I 3/\s'=v)\/(x=I 20/\CF π r G Gk (T+10000) v s'):=by
  by_cases qR:bf (eR l).length+(last-base)<=π.D.aB.length/4
  .refine(xU L5 (SN v π.Fd (Kp.refl _ _) lk) am J qR).mono ?_;rintro x s' (⟨rfl,F',D',c⟩|⟨rfl,wB,jh,hx⟩)
   .exact .inl ⟨rfl,_,_,_,_,_,_,_,_,_,_,c⟩
   .exact .inr (.inr ⟨rfl,ab L5 qR wB jh hx⟩)
  .have Vb:(⟨1,π.D.aB.length/4,base,last,last⟩:RingM).room=(π.D.aB.length/4:Nat)-((last:Int)-base):=by unfold RingM.room;rw[B V]
   have vu:=oD.laid.le.1;refine(JK (X:=[]) Gj aL yA ((SN v π.Fd (Kp.refl _ _) lk).fc V) J (by show π.D.aB.length/4<=_;omega) (by show base<=_;omega) (by show last<=_;omega) Vc V (by rw[Vb];omega)).mono ?_;rintro x s' ⟨rfl,rfl⟩;exact .inr (.inl ⟨rfl,rfl⟩)
 refine Tu.mono ?_;intro pS dw b6;have bx:∀s,R .eql (some .int) true (I 20) (.int .i64 3) s=.ok (.bool false) s:=λs=>rfl;have aG:∀s,R .eql (some .int) true (I 20) (.int .i64 0) s=.ok (.bool false) s:=λs=>rfl;have aF:∀s,R .neq (some .int) true (I 20) (.int .i64 0) s=.ok (.bool true) s:=λs=>rfl
 have az:∀s',CF π r G Gk (T+10000) v s'->EU π G Gk (T+10000) Z (I 20) s':=λs' ⟨a1,a2,F',D',a3,a4,a5,a6⟩=>by
  have q1:Kp (r::π.all) Z v:=Vq.mono (by intro q y;left;simp at y;subst y;unfold PI.all;simp);have:=Vq.nx;exact .inr (.inr ⟨rfl,r,Mh,q1.trans a1 lk,a2,F',D',a3,λb d=>(a4 b d).imp id λh=>J,a5,a6⟩)
 refine iO (λvs s=>(vs=[.ptr π.p 0,I 0]/\∃pj bd r' F D D' base last P Ls,CG π r M G Gk T l v s pj bd r' F D D' base last P Ls)\/(vs=[.ptr π.p 0,I 20]/\CF π r G Gk (T+10000) v s)) ?_ ?_
 .intro c0 Mi;rcases b6 with⟨rfl,c⟩|⟨rfl,rfl⟩|⟨rfl,hx⟩
  .have e3:R .eql (some .int) true (I 0) (.int .i64 3) dw=.ok (.bool false) dw:=rfl;rw[e3,af,ag,B tW];exact Mi _ _ (.inl ⟨rfl,c⟩)
  .have e3:R .eql (some .int) true (I 3) (.int .i64 3) dw=.ok (.bool true) dw:=rfl;rw[e3,af,ag,gq rfl];refine ZE ?_;refine(aaR Gj).same ?_;refine(Fz L5 J ZZ (by rw[ZZ,PS];omega)).mono ?_;rintro _ AE (⟨rfl,bd',r',F',D',C⟩|⟨rfl,wB,jh,F',D',Av,nM,hs,NK⟩)
   .have e0:R .eql (some .int) true (I 0) (.int .i64 0) AE=.ok (.bool true) AE:=rfl;rw[e0,af,ag,gq rfl];have b0:=C.oX.main
    have cr:∀{Kq0:K->Prop},Kq0 (.ptr r' 0)->fP 1 (.ptr π.p 0) AE Kq0:=λ{Kq0} u=>by
     rw[fP,bk,af,ah,af,av,b0,ak];exact u
    refine cr ?_;refine(xU C (SN AE F' C.kp C.FN) am J (by rw[C.len];omega)).mono ?_;rintro x wj (⟨rfl,F2,Y,c⟩|⟨rfl,wB,jh,hx⟩)
    .exact Mi _ _ (.inl ⟨rfl,_,_,_,_,_,_,_,_,_,_,c⟩)
    .exact Mi _ _ (.inr ⟨rfl,ab C (by rw[C.len];omega) wB jh hx⟩)
   .rw[aG,af,ag,B tW];rw[ZZ]at hs;obtain⟨b2,l2,cz,u⟩:=oD.toK.axD ax hs;exact Mi _ _ (.inr ⟨rfl,wB,jh,F',D',Av,nM,.inl ⟨hs.dead,hs.len,b2,l2,_,_,cz,_,u,J⟩,NK⟩)
  .rw[bx,af,ag,B tW];exact Mi _ _ (.inr ⟨rfl,hx⟩)
 .rintro _ ew (⟨rfl,pj,bd',r',F',D',Y,base',last',P',UQ,c⟩|⟨rfl,hx⟩)
  case inr=>
   rw[bU];simp only[ke];rw[aG,af,ag,B tW,aF,af,ag,gq rfl];exact az _ hx
  rw[bU];simp only[ke];have e0:∀s,R .eql (some .int) true (I 0) (.int .i64 0) s=.ok (.bool true) s:=λs=>rfl;have e2:∀s,R .neq (some .int) true (I 0) (.int .i64 0) s=.ok (.bool false) s:=λs=>rfl;have ct:=c.oX.main;rw[e0,af,ag,gq rfl]
  have cq:∀{Kq0:K->Prop},Kq0 (.ptr r' 0)->fP 1 (.ptr π.p 0) ew Kq0:=λ{Kq0} u=>by
   rw[fP,bk,af,ah,af,av,ct,ak];exact u
  refine cq ?_;have ph:=c.len;refine(VQ c.ring c.MB (by rw[c.wrote.waits,c.ok.waits];simp[lE];omega)).mono ?_;rintro _ gJ ⟨rfl,lH,F3,To,Dq⟩;rcases c.wrote.calm.flush c.wrote.En with⟨f1,f2,f3,f4,f5,f6⟩|⟨f1,f2,f3⟩
  case inr=>
   rw[B (by rw[f1];decide),aF,af,ag,gq rfl];rw[c.wrote.set,c.set]at f2;rw[c.wrote.aB,c.wrote.waits,c.ok.waits,ow]at f3;have bp:=c.T;refine az _ ⟨c.kp.trans lH λq y=>(c.FN q y).imp (λh=>by simp[PI.uT h]) id,f2,F3,_,To,λb d=>?_,?_,?_⟩
   .rcases Dq b d with h1|h1
    .exact c.FN b h1
    .have:=c.kp.nx;right;omega
   .rcases c.ok.agN (ae (s':=ew) (bd':=bd') (r':=r') (F':=F') (base':=base') (last':=last') (P':=P') ph c.dir c.rep) J c.room f3 with⟨top,P2,u,b5⟩|⟨P2,u⟩
    .exact .inl ⟨f3.dead,by rw[f3.len];exact ph,_,_,_,_,_,_,u,J⟩
    .exact .inr ⟨f3.dead,by rw[f3.len];exact ph,_,_,_,_,_,_,u,J⟩
   .refine⟨_,_,_,_,_,_,c.oX.keep lH λb d hh=>c.Og b hh d,λb d e=>?_,λe w=>(c.rq e w).2,by show M.first+M.aO<=_;rw[ZZ,PS];omega⟩;rcases Dq b d with h1|h1
    .exact c.Og b h1 (by simp[e])
    .have:=c.oX.lt π.p V;omega
  have dd:=c.MB.lt;have Gl:=c.oX.lt;have S:=c.oX.keep lH λb d hh=>c.Og b hh d;have NG:=c.ring.keep lH c.rF;have Zp:=c.ok.aev (ae (s':=ew) (bd':=bd') (r':=r') (F':=F') (base':=base') (last':=last') (P':=P') ph c.dir c.rep) c.room c.wrote f1;rw[gq f1,e2,af,ag,B tW,aZ];have bQ:=S.main;have YH:=c.kp.nx;have cX:=lH.nx;have NM:gJ.m.g π.p=some (.cells [.ptr π.a 0,.ptr r' 0,I M.first,I M.aO,.map bd',.map π.bn,I M.kept.root,I M.kept.used,I M.kept.head,I M.kept.free,I M.m.root,I M.m.used,I M.m.head,I M.m.free,.map π.bi,.map π.bc] 213 false):=bQ;have an:=c.oX.nd;simp only[me,ip,wn,GZ]at an;obtain⟨⟨v1,v2,v3,v4⟩,⟨v5,v6,v7⟩,⟨v8,v9⟩,cD,_⟩:=an;have ch:(pj.map (·.1)).Nodup:=kP (by rw[<-ni];exact S.cC.nd)
  have db:pj.length<=65536:=by
   have:=qb 65536 (pj.map (·.1)) ch λx hx=>by
    obtain⟨e,w,rfl⟩:=lm.1 hx;have:=(c.rq e w).1;omega
   rwa [so]at this
  have cg:(M.now.map (·.1)).Nodup:=by rw[i.count];exact i.uJ
  have SQ:∀e∈M.now,e.1<M.aO/\e.2.length=512:=λe w=>by
   have h1:=Ie cg w;have h2:e.1∈M.count:=by rw[<-i.count];exact Ey w
   have h3:=i.wo _ h2;have h4:=i.len e.1 h3.2;have h5:M.get π.D e.1=e.2:=by unfold cA.get;rw[h1]
   rw[h5]at h4;exact⟨by have:=i.aO;omega,h4⟩
  rw[bk,af,ah,af,av,NM,ak];simp only[Gm,kc,io];rw[af,ah,af,av,NM,ak];simp only[Gm,kc,io]
  have bD:∀n∈pj.map (·.1),n<=1000000:=λn z=>by
   obtain⟨e,w,Vg⟩:=lm.1 z;have h1:=(c.rq e w).1;rw[<-Vg];omega
  have bF:∀n∈M.now.map (·.1),n<=1000000:=λn z=>by
   obtain⟨e,w,Vg⟩:=lm.1 z;have h1:=(SQ e w).1;rw[<-Vg];omega
  have bH:pj.length<=1000000:=J
  have cv:M.now.length<=1000000:=J
  have bG:=λe w=>(SQ e w).2;have bI:=S.lt bd' V;have Vi:IsMap gJ bd' (iA pj):=S.cC;have Dp:IsMap gJ π.bn (iA M.now):=.inl S.now;refine(XY Vi Dp v5 bH bD cv bF bG bI).mono ?_;rintro _ dt ⟨tP,cW,bh⟩;refine⟨⟨gt,gt,gt⟩,gt,?_⟩;have b3:∀q∈[π.p,bd',π.bn,π.bi,π.bc],q≠bd'->dt.m.g q=gJ.m.g q:=λq y jg=>tP.keep q (S.lt q y) acm;have ai:=(b3 π.p V v1).trans NM;rw[aZ,bk,af,ah,af,av,ai,ak];simp only[Gm,kc,io];rw[af,ah,af,im (n:=4) ai V,af];refine(F6 (m:=M.m) ap).mono ?_;rintro _ dA ⟨rfl,zn⟩;have cf:=bh.mono (zn.keep bd' (by have:=S.lt bd' V;omega) V);have bS:=(zn.keep π.p (by have:=S.lt π.p V;omega) V).trans ai;obtain⟨Uy,w1,w2,_⟩:=IsMap.update cf 0 (.agg (al (cB M.m)))
  have w3:IsMap (O.set dA bd' Uy) bd' (iA (jr (qa pj M.now) 0 (cB M.m))):=by
   have:=A3 (qa pj M.now) 0 (cB M.m);rw[<-this];exact w2
  rw[show fe .int (.map bd') (.int .i64 0) (.agg (al (cB M.m))) dA=.ok .undef (O.set dA bd' Uy)from w1,aP,av,bS,ak];refine⟨⟨⟨rfl,gt⟩,gt,gt⟩,gt,?_⟩;have cT:=zn.nx;have b9:bd'<dA.nx:=by have:=S.lt bd' V;omega
  have a8:Kp [bd'] dA (O.set dA bd' Uy):=(Kp.refl _ dA).set _ (.inl V) b9;have aS:=(tP.trans zn V).trans a8 lk;have cS:(O.set dA bd' Uy).nx=dA.nx:=rfl;generalize O.set dA bd' Uy=f at*;have b4:∀q∈[π.p,bd',π.bn,π.bi,π.bc],q≠bd'->f.m.g q=gJ.m.g q:=λq y jg=>aS.keep q (S.lt q y) acm;have aQ:=(b4 π.p V v1).trans NM
  have ck:∀{Kq0:K->Prop},Kq0 (.agg [I M.m.root,I M.m.used,I M.m.head,I M.m.free])->zu 4 10 (.ptr π.p 0) f Kq0:=λ{Kq0} u=>by
   unfold zu;rw[bk,af,ah,af,im (n:=4) aQ V,af];exact u
  refine ck ?_;rw[og,aP,og,aP];have y1:(O.new f (.map [] 0)).nx=f.nx+1:=rfl;have y2:(O.new (O.new f (.map [] 0)) (.map [] 0)).nx=f.nx+2:=rfl;rw[y1];have Pz:Kp [] f (O.new (O.new f (.map [] 0)) (.map [] 0)):=((Kp.refl [] f).new _).new _;have z1:ef (O.new (O.new f (.map [] 0)) (.map [] 0)) f.nx []:=(ef.new f).mono (by rw[bo _ _ _ V]);have z2:ef (O.new (O.new f (.map [] 0)) (.map [] 0)) (f.nx+1) []:=ef.new (O.new f (.map [] 0));generalize O.new (O.new f (.map [] 0)) (.map [] 0)=jd at*;have b1:π.p<f.nx:=by have:=S.lt π.p V;omega
  have bX:=(Pz.keep π.p b1 V).trans aQ;have xj:bC [.ptr π.a 0,.ptr r' 0,I M.first,I M.aO,.map bd',.map π.bn,I M.kept.root,I M.kept.used,I M.kept.head,I M.kept.free,I M.m.root,I M.m.used,I M.m.head,I M.m.free,.map π.bi,.map π.bc] 6 [I M.m.root,I M.m.used,I M.m.head,I M.m.free]=[.ptr π.a 0,.ptr r' 0,I M.first,I M.aO,.map bd',.map π.bn,I M.m.root,I M.m.used,I M.m.head,I M.m.free,I M.m.root,I M.m.used,I M.m.head,I M.m.free,.map π.bi,.map π.bc]:=rfl;have nv:bC [.ptr π.a 0,.ptr r' 0,I M.first,I M.aO,.map bd',.map π.bn,I M.m.root,I M.m.used,I M.m.head,I M.m.free,I M.m.root,I M.m.used,I M.m.head,I M.m.free,.map π.bi,.map π.bc] 5 [.map f.nx]=[.ptr π.a 0,.ptr r' 0,I M.first,I M.aO,.map bd',.map f.nx,I M.m.root,I M.m.used,I M.m.head,I M.m.free,I M.m.root,I M.m.used,I M.m.head,I M.m.free,.map π.bi,.map π.bc]:=rfl;have Mc:bC [.ptr π.a 0,.ptr r' 0,I M.first,I M.aO,.map bd',.map f.nx,I M.m.root,I M.m.used,I M.m.head,I M.m.free,I M.m.root,I M.m.used,I M.m.head,I M.m.free,.map π.bi,.map π.bc] 15 [.map (f.nx+1)]=[.ptr π.a 0,.ptr r' 0,I M.first,I M.aO,.map bd',.map f.nx,I M.m.root,I M.m.used,I M.m.head,I M.m.free,I M.m.root,I M.m.used,I M.m.head,I M.m.free,.map π.bi,.map (f.nx+1)]:=rfl
  have NF:∀{s:O} {l l':List K} {Kq0:O->Prop},s.m.g π.p=some (.cells l 213 false)->10<=l.length->bC l 6 [I M.m.root,I M.m.used,I M.m.head,I M.m.free]=l'->Kq0 (O.set s π.p (.cells l' 213 false))->sq 4 6 (.ptr π.p 0) (.agg [I M.m.root,I M.m.used,I M.m.head,I M.m.free]) s Kq0:=by
   intro s l l' Kq0 hg h3 h4 u;simp only[sq,bk,ah,af,xz,hg,aN,oa,h4];exact⟨⟨rfl,rfl,J⟩,u⟩
  have Zc:∀{s:O} {l l':List K} {o b:Nat} {Kq0:O->Prop},s.m.g π.p=some (.cells l 213 false)->o<l.length->bC l o [.map b]=l'->Kq0 (O.set s π.p (.cells l' 213 false))->sq 1 o (.ptr π.p 0) (.map b) s Kq0:=by
   intro s l l' o b Kq0 hg h3 h4 u;have Xg:(K.map b).bY=[.map b]:=rfl;simp only[sq,bk,ah,af,xz,hg,Xg,oa,h4];exact⟨⟨rfl,rfl,h3⟩,u⟩
  refine NF bX V xj ?_;refine Zc (ao _ _ _) V nv ?_;rw[set_set];refine Zc (ao _ _ _) V Mc ?_;rw[set_set];have BL:=S.lt;have CP:=BL π.p V;have AJ:=BL bd' V;have c5:=BL π.bn V;have bm:=BL π.bi V;have c4:=BL π.bc V;have cN:=Pz.nx;have NA:Kp [π.p] jd (O.set jd π.p (.cells [.ptr π.a 0,.ptr r' 0,I M.first,I M.aO,.map bd',.map f.nx,I M.m.root,I M.m.used,I M.m.head,I M.m.free,I M.m.root,I M.m.used,I M.m.head,I M.m.free,.map π.bi,.map (f.nx+1)] 213 false)):=(Kp.refl _ jd).set _ (.inl V) J;have cu:(O.set jd π.p (.cells [.ptr π.a 0,.ptr r' 0,I M.first,I M.aO,.map bd',.map f.nx,I M.m.root,I M.m.used,I M.m.head,I M.m.free,I M.m.root,I M.m.used,I M.m.head,I M.m.free,.map π.bi,.map (f.nx+1)] 213 false)).m.g π.p=some (.cells [.ptr π.a 0,.ptr r' 0,I M.first,I M.aO,.map bd',.map f.nx,I M.m.root,I M.m.used,I M.m.head,I M.m.free,I M.m.root,I M.m.used,I M.m.head,I M.m.free,.map π.bi,.map (f.nx+1)] 213 false):=ao _ _ _;have cM:(O.set jd π.p (.cells [.ptr π.a 0,.ptr r' 0,I M.first,I M.aO,.map bd',.map f.nx,I M.m.root,I M.m.used,I M.m.head,I M.m.free,I M.m.root,I M.m.used,I M.m.head,I M.m.free,.map π.bi,.map (f.nx+1)] 213 false)).nx=jd.nx:=rfl;generalize O.set jd π.p (.cells [.ptr π.a 0,.ptr r' 0,I M.first,I M.aO,.map bd',.map f.nx,I M.m.root,I M.m.used,I M.m.head,I M.m.free,I M.m.root,I M.m.used,I M.m.head,I M.m.free,.map π.bi,.map (f.nx+1)] 213 false)=fO at*;have aT:=(Pz.mono V).trans NA lk;have OB:Kp [π.p,bd'] gJ fO:=(aS.mono V).trans aT V;have ZI:=w3.mono (aT.keep bd' J (by simp;exact ny v1));have ca:ef fO π.bi (vS M.idle):=S.idle.mono (OB.keep π.bi bm (by simp;exact⟨ny v3,ny v6⟩));have b7:=z1.mono (NA.keep f.nx J xI);have b8:=z2.mono (NA.keep (f.nx+1) J xI)
  have ZJ:∀n,dm (jr (qa pj M.now) 0 (cB M.m)) n=dm (eU [] (UQ++[l])) n:=λn=>by
   rw[rJ,O8,xT,DX l _ n (by rw[<-hl,oH];exact Xs),Zw,<-c.dir]
   by_cases Q:n=0
   .rw[gq Q,gq Q];rfl
   .rw[B Q,B Q]
  have IX:=f3.trans ((congrArg List.length c.wrote.aB).trans ph);have Zk:=Zp.rep;rw[IX]at Zk
  have co:=(Zk.congr (M':=⟨M.first,M.aO,jr (qa pj M.now) 0 (cB M.m),[],M.m,M.m,G.fr,[]⟩) (D':=Y.flush.2) (λn _=>by
   rw[iK];show(mg M.first M.aO (jr (qa pj M.now) 0 (cB M.m)) M.m G.fr).get _ n=_;rw[iK,ZJ,ZZ]) PS rfl rfl rfl rfl ZZ rfl).abk M.idle i.idle i.Aa
  have da:∀b∈F3,(b∈D'.aB.map (λ_=>0)\/True)->b∈F'\/ew.nx<=b:=λb d _=>Dq b d;have Ma:=c.oX.lt
  have aM:∀b∈F3,b∉[π.p,bd',π.bi]/\b<gJ.nx:=λb d=>by
   refine⟨λhh=>?_,To.lt b d⟩;rcases Dq b d with h1|h1
   .exact c.Og b h1 (by simp at hh⊢;rcases hh with hh|hh|hh<;>simp[hh])
   .have h2:b<ew.nx:=by
     simp only[ip,wn,PP]at hh;rcases hh with hh|hh|hh
     .rw[hh];exact Ma _ V
     .rw[hh];exact Ma _ V
     .rw[hh];exact Ma _ V
    omega
  have dc:=NG.1;have W:=c.rP;simp only[ip,wn,GZ]at W;have Xi:=NG.keep OB (by simp;exact⟨W.1,W.2.1⟩);have bL:=To.keep OB λb d hh=>(aM b d).1 (by simp at hh⊢;rcases hh with hh|hh<;>simp[hh]);have bM:=kP (by rw[<-ni];exact ZI.nd)
  have ci:∀e∈jr (qa pj M.now) 0 (cB M.m),e.1<M.aO/\e.2.length=512:=λe w=>by
   rcases RR w with h1|h1
   .unfold qa at h1;rcases lh.1 h1 with h2|h2
    .exact c.rq e (tH.1 h2).1
    .exact SQ e h2
   .rw[h1];exact⟨by have:=i.aO;have:=i.ok.one;show 0<M.aO;omega,jN _⟩
  have dk:=Vq.nx;refine .inr (.inl ⟨rfl,⟨π.p,π.a,.ptr r' 0,bd',f.nx,π.bi,f.nx+1,F3,Y.flush.2,jr (qa pj M.now) 0 (cB M.m),M.m,1+π.D.aB.length/4⟩,r,rfl,rfl,⟨⟨M.first,M.aO,jr (qa pj M.now) 0 (cB M.m),[],M.m,M.m,M.idle,[]⟩,⟨cu,ZI,b7,ca,b8,?_,?_,⟨rfl,rfl,rfl⟩⟩,co,bL,f2.dead,λb d hh=>?_,rfl,rfl,ZZ⟩,⟨⟨base',last'+bf (eR l).length,_,UQ++[l],r',Zp,by have:=c.T;omega,rfl,?_,?_,ZJ⟩,by show 1+π.D.aB.length/4=1+(Y.flush.2).aB.length/4;rw[IX],λe w=>?_,bM⟩,Mh,⟨r',rfl,c.rN.imp id λh=>J⟩,?_,λb d=>?_,IX,(f6.trans c.wrote.set).trans c.set⟩)
  .simp only[me,ip,wn,GZ];exact⟨⟨v1,J,v3,J⟩,⟨J,v6,J⟩,⟨J,J⟩,J,not_false,è⟩
  .intro b d;simp at d;omega
  .have h1:=aM b d;simp only[ip,wn,GZ]at hh h1;rcases hh with hh|hh|hh|hh|hh
   .exact h1.1.1 hh
   .exact h1.1.2.1 hh
   .omega
   .exact h1.1.2.2 hh
   .omega
  .show gR fO r' π.a ⟨1,(Y.flush.2).aB.length/4,base',_,_⟩;rw[IX,<-ph];exact Xi
  .unfold PI.all;simp only[ip,rt];refine⟨W.1,W.2.1,J,W.2.2.2.1,J,λhh=>?_⟩;rcases Dq r' hh with h1|h1
   .exact c.rF h1
   .have:=c.ring.1;omega
  .show e.1<(Y.flush.2).aB.length-1-(Y.flush.2).aB.length/4/\_;rw[IX,<-PS];exact ci e w
  .have q1:Kp (r::π.all) Z v:=Vq.mono (by intro q y;left;simp at y;subst y;unfold PI.all;simp);have q2:=q1.trans c.kp lk
   have q3:=q2.trans lH λq y=>by
    rcases c.FN q y with h1|h1
    .left;simp[PI.uT h1]
    .right;omega
   exact q3.trans OB λq y=>by
    simp only[ip,wn,PP]at y;rcases y with y|y
    .left;rw[y];unfold PI.all;simp
    .rcases c.bdN with h1|h1
     .left;rw[y,h1];unfold PI.all;simp
     .right;omega
  .unfold PI.all at d;simp only[ip]at d;rcases d with d|d|d|d|d|d
   .left;rw[d];unfold PI.all;simp
   .rcases c.bdN with h1|h1
    .left;rw[d,h1];unfold PI.all;simp
    .right;omega
   .right;omega
   .left;rw[d];unfold PI.all;simp
   .right;omega
   .rcases Dq b d with h1|h1
    .rcases c.FN b h1 with h2|h2
     .left;exact PI.uT h2
     .right;omega
    .right;omega
end
end
section
variable {Z Z':O} {p a:Nat} {lg:K} {M:cA} {bd bn bi bc:Nat} {F:δ Nat} {D:aX}
end
structure r7 (τ:Nat)(π:PI)(Z:O)(L Lk:List aT)(T N fr:Nat):Prop where
 ex:∃G Gk,Tg τ π Z G/\gQ G L/\ja π Z Gk T/\gQ Gk Lk/\G.aO=Gk.aO/\G.bT=fr
 calm:Calm π.D
 len:π.D.aB.length=N
structure kW (c:Nat)(τ:Nat)(π:PI)(Z:O)(L Lk:List aT)(T N fr:Nat):Prop where
 ex:∃G Gk,Tg τ π Z G/\gQ G L/\ja π Z Gk T/\gQ Gk Lk/\G.aO=Gk.aO/\G.bT=fr/\G.eu.length<=c
 calm:Calm π.D
 len:π.D.aB.length=N
def gQ.reset {G:GM}{L:δ aT}(h:gQ G L):gQ G.reset L:=
 ⟨⟨h.ok.one,h.ok.jT,h.ok.size,h.ok.nd,h.ok.fr⟩,h.tree.imp (λ⟨a,b,c⟩=>⟨a,b,c.to c.nd rfl rfl⟩) λ⟨hh,ps,nd,hs⟩=>⟨hh,ps,nd.to nd.nd rfl rfl,hs.kept λq d=>⟨id,rfl⟩⟩⟩
def aap (L:δ aT)(N T:Nat)(D:aX):Prop:=∃G,gQ G L/\aeJ G N T D
def own (τ:Nat)(π:PI):δ Nat:=τ::((match π.lg with| .ptr r _=>[r]|_=>[])++π.all)
def xx (τ:Nat)(π a:PI)(Z Z':O):Prop:=Kp (own τ π) Z Z'/\∀b∈own τ a,b∈own τ π\/Z.nx<=b
def vh {τ:Nat}{π:PI}{b:Nat}(h:b∈π.all):b∈own τ π:=by unfold own;simp[h]
def Jm {τ:Nat}{π:PI}{Z Z':O}(h:Kp π.W Z Z'):xx τ π π Z Z':=⟨h.mono λq a=>.inl (vh (PI.EM a)),lk⟩
def uD {τ:Nat}{π:PI}{Z Z':O}(h:Kp [] Z Z'):xx τ π π Z Z':=⟨h.mono V,lk⟩
section
variable {τ:Nat} {π:PI} {Z Z':O} {L Lk:δ aT} {T N fr:Nat}
def ja.log {g:GM}(h:ja π Z g T):∃r,π.lg=.ptr r 0/\r∉π.all/\r<Z.nx:=by
 obtain⟨base,last,P,Ls,r,a,b,c,d,e,f⟩:=h.ex;exact⟨r,c,e,d.1⟩
def ja.YP {a:GM}(h:ja π Z a T)(b:Kp π.W Z Z'):ja π Z' a T:=by
 obtain⟨r,d,c,_⟩:=h.log;refine h.keep b λr' e=>?_;rw[d]at e;cases e;exact λhh=>c (PI.EM hh)
def ja.still {a:GM}(h:ja π Z a T)(b:Kp [] Z Z'):ja π Z' a T:=h.keep b V
def RG {G:GM}(h:gQ G L):G.root=0\/G.bV G.root:=by
 rcases h.tree with b|⟨hh,ps,_,a⟩
 .exact .inl b.1
 .obtain⟨n,q,hn,_⟩:=a;exact .inr hn.bV
def ami (τ:Nat)(π:PI)(S:aX->Prop)(Z Z':O):Prop:=Kp (own τ π) Z Z'/\π.D.set=θ/\(∃F' D',dz Z' π.a F' D'/\(∀b∈F',b∈own τ π\/Z.nx<=b)/\D'.dead=θ/\S D'/\CA π Z' F')/\∃ty g,Z'.m.g τ=Φ (.cells [.ptr π.p 0] ty g)
def kW.t2 {c:Nat}(h:kW c τ π Z L Lk T N fr):r7 τ π Z L Lk T N fr:=by
 obtain⟨⟨G,k,a,b,d,e,f,g,_⟩,i,j⟩:=h;exact⟨⟨G,k,a,b,d,e,f,g⟩,i,j⟩
def kW.still {c:Nat}(h:kW c τ π Z L Lk T N fr)(i:Kp [] Z Z'):kW c τ π Z' L Lk T N fr:=by
 obtain⟨⟨G,j,a,b,c,d,e⟩,f,g⟩:=h;exact⟨⟨G,j,a.still i,b,c.still i,d,e⟩,f,g⟩
def Rb {c:Nat}(h:kW c τ π Z L Lk T N fr)(hT:T<=900000000)(hN:N<=8000):Rq0 79 [.ptr τ 0] Z λv Z'=>(v=I 3/\Kp [] Z Z'/\N/8<c)\/(v=I 0/\∃e,e.a=π.a/\xx τ π e Z Z'/\kW 0 τ e Z' L L (T+10000) N fr/\e.D.set=π.D.set)\/(v=I 20/\ami τ π (λD=>aap Lk N (T+10000) D\/aap L N (T+10000) D) Z Z'):=by
 obtain⟨⟨G,Gk,f,o,x,Kh,S,lR,Dp⟩,hc,w⟩:=h;refine bE ?_;rw[w79];rw[cc,af,ag,B tW];refine f.get' ?_;refine(Lj f.pg x f.fr hT J (RG o) S).mono ?_
 have F:∀r,π.lg=.ptr r 0->∀q∈r::π.all,q∈own τ π:=λr i q k=>by
  rcases ip.1 k with h1|h1
  .unfold own;rw[i];simp[h1]
  .exact vh h1
 have P:∀r,π.lg=.ptr r 0->τ∉r::π.all:=λr i hh=>by
  obtain⟨ty,g,m⟩:=f.get;rcases ip.1 hh with hh|hh
  .have hd:=x.ex;obtain⟨_,_,_,_,W,_,_,c,d,_,_⟩:=hd;have:W=r:=by rw[c]at i;cases i;rfl
   rw[this]at d;have h1:=d.2;rw[<-hh,m]at h1;simp at h1
  .exact f.not hh
 rintro v s1 (⟨rfl,j,u⟩|⟨rfl,e,r,e1,e2,Zo,C,i,⟨r',y,CN⟩,j,M,l,p⟩|⟨rfl,r,i,j,p,F',D',Av,Y,s,NK⟩)
 .rw[w]at u;exact .inl ⟨rfl,j,J⟩
 rotate_left
 .rw[w]at s;refine .inr (.inr ⟨rfl,j.mono λq k=>.inl (F r i q k),p,⟨F',D',Av,λb n=>(Y b n).imp (λh=>vh (PI.uT h)) id,?_,s.imp (λh=>⟨Gk,Kh,h⟩) λh=>⟨G.reset,o.reset,h⟩,NK⟩,?_⟩)
  .rcases s with h1|h1<;>exact h1.1
  .obtain⟨ty,g,m⟩:=f.get;exact⟨ty,g,(j.keep τ f.lt (P r i)).trans m⟩
 .obtain⟨r2,l1,l2,l3⟩:=x.log;obtain⟨ty,g,m⟩:=f.get;have Q:=P r i
  have z:xx τ π e Z s1:=by
   refine⟨j.mono λq k=>.inl (F r i q k),λb n=>?_⟩
   .unfold own at n;rw[y]at n;rcases ip.1 n with h1|h1
    .left;unfold own;simp[h1]
    .rcases lh.1 h1 with h2|h2
     .have h2:b=r':=by simpa using h2
      rcases CN with H|H
      .left;unfold own;rw[i];simp[h2,H]
      .right;omega
     .exact(M b h2).imp vh id
  refine .inr (.inl ⟨rfl,e,e2,z,⟨⟨G.reset,G.reset,⟨Zo,ov f.lt j.nx,λhh=>?_,⟨ty,g,?_⟩,j.fresh f.fr⟩,o.reset,C,o.reset,rfl,lR,hI _⟩,?_,l.trans w⟩,p⟩)
  .rcases M τ hh with h1|h1
   .exact f.not h1
   .have:=f.lt;omega
  .rw[e1];exact(j.keep τ f.lt Q).trans m
  .obtain⟨_,_,_,_,_,X,_⟩:=C.ex;exact X.calm
end
section
variable {τ:Nat} {π:PI} {Z Z':O} {L Lk:δ aT} {T N fr c:Nat}
def ja.axE {a:GM}(h:ja π Z a T):a.eu=[]:=by
 obtain⟨⟨base,last,P,Ls,r,b,_⟩,_⟩:=h;exact b.rep.eu.symm
def kW.aO {G a:GM}(h:ja π Z a T)(e:π.D.aB.length=N)(d:G.aO=a.aO):G.aO=N-1-N/4:=by
 obtain⟨⟨base,last,P,Ls,r,b,_⟩,_⟩:=h;have f:π.D.aB.length-1-π.D.aB.length/4=a.aO:=b.rep.aO;rw[d,<-f,e]
def kW.room (h:kW c τ π Z L Lk T N fr):N-1-N/4<=fr+(2*L.length+eW L)+1:=by
 obtain⟨⟨G,j,f,e,d,i,a,rfl,k⟩,g,b⟩:=h;rw[<-kW.aO d b a];exact e.room
def amb (c τ:Nat)(π:PI)(L Lk:δ aT)(T N fr:Nat)(key v:δ Γ)(Z:O)(y:K)(Z':O):Prop:=
 xx τ π π Z Z'/\(y=I (if 48<key.length\/8192<v.length then 1 else if fr<24+bO v.length then 3 else 0:Nat))/\∃fr',kW (c+bO ((ey L key).getD []).length+bO v.length+35) τ π Z' (if 48<key.length\/8192<v.length then L else if fr<24+bO v.length then L else oO L key v) Lk T N fr'
def agM (h:kW c τ π Z L Lk T N fr)(key v:δ Γ):Rq0 132 [.ptr τ 0,.str key,.str v] Z λy Z'=>amb c τ π L Lk T N fr key v Z y Z':=by
 have x:=h;obtain⟨⟨G,q,j,o,m,p,f,rfl,z⟩,n,l⟩:=h
 have b:∀s,Kp [] Z s->kW (c+bO ((ey L key).getD []).length+bO v.length+35) τ π s L Lk T N G.bT:=λs k=>
  ⟨⟨G,q,j.still k,o,m.still k,p,f,rfl,J⟩,n,l⟩
 refine(VK j o key v).mono ?_;intro y Z' a;unfold Cz at a;unfold amb
 by_cases e:48<key.length\/8192<v.length
 .rw[gq e]at a;rw[gq e,gq e];exact⟨uD a.2,a.1,_,b _ a.2⟩
 .rw[B e]at a;rw[B e,B e]
  by_cases d:G.bT<24+bO v.length
  .rw[gq d]at a;rw[gq d,gq d];exact⟨uD a.2,a.1,_,b _ a.2⟩
  .rw[B d]at a;rw[B d,B d];obtain⟨rfl,i,G',r,u,w,g,_⟩:=a;unfold We at g;exact⟨Jm i,rfl,_,⟨G',q,r,u,m.YP i,p,w.trans f,rfl,by split at g<;>omega⟩,n,l⟩
def amj (c τ:Nat)(π:PI)(L Lk:δ aT)(T N fr:Nat)(key:δ Γ)(Z:O)(y:K)(Z':O):Prop:=
 xx τ π π Z Z'/\(y=if 48<key.length then .tuple [Θ,I 1]else if fr<24 then .tuple [Θ,I 3]else .tuple [.bool (ey L key).isSome,μ])/\∃fr',kW (c+bO ((ey L key).getD []).length+35) τ π Z' (if 48<key.length then L else if fr<24 then L else mM L key) Lk T N fr'
def agR (h:kW c τ π Z L Lk T N fr)(key:δ Γ):Rq0 131 [.ptr τ 0,.str key] Z λy Z'=>amj c τ π L Lk T N fr key Z y Z':=by
 have w:=h;obtain⟨⟨G,p,i,n,l,o,f,rfl,x⟩,m,k⟩:=h
 have b:∀s,Kp [] Z s->kW (c+bO ((ey L key).getD []).length+35) τ π s L Lk T N G.bT:=λs j=>
  ⟨⟨G,p,i.still j,n,l.still j,o,f,rfl,J⟩,m,k⟩
 refine(VO i n key).mono ?_;intro y Z' a;unfold MP at a;unfold amj
 by_cases e:48<key.length
 .rw[gq e]at a;rw[gq e,gq e];exact⟨uD a.2,a.1,_,b _ a.2⟩
 .rw[B e]at a;rw[B e,B e]
  by_cases d:G.bT<24
  .rw[gq d]at a;rw[gq d,gq d];exact⟨uD a.2,a.1,_,b _ a.2⟩
  .rw[B d]at a;rw[B d,B d];obtain⟨rfl,g,G',q,r,u,v⟩:=a;exact⟨Jm g,rfl,_,⟨G',p,q,r,l.YP g,o,u.trans f,rfl,J⟩,m,k⟩
def agP {π:PI}{a:GM}(f:Pg π Z a)(i:dV Z)(d:ja π Z a T)(e:gQ a Lk)(j:Calm π.D)(g:π.D.aB.length=N):Rq0 117 [.ptr π.p 0] Z λv Z'=>∃τ,v=.ptr τ 0/\Z.nx<=τ/\Kp [] Z Z'/\kW 0 τ π Z' Lk Lk T N a.bT:=by
 refine(VL f i).mono ?_;rintro v k ⟨rfl,b,t⟩;exact⟨_,rfl,hI _,b,⟨a,a,t,e,d.still b,e,rfl,rfl,by rw[d.axE];exact hI _⟩,j,g⟩
end
