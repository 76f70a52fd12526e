import Derived.Test.YtomffjeofpafnaaGreatDoorPagF
import Derived.Test.YtomffjeofpafnaaGreatDoorBtE
namespace Lim
open Go
noncomputable section
set_option linter.defProp false
set_option maxRecDepth 100000
section
variable {l:List dN}{s:St}{M:bR}{D:aU}{r0:Nat}{sB:St}{nw:List dN}{bd r:Nat}{F:List Nat}{base last:Nat}{P:Nat->Piece}{Ls:List (List dN)}
def Uv {n:Nat}{s:iT}(h:n∉l.map (·.1)):ix l n s=l++[(n,s)]:=by
 induction l with
 |nil=>rfl
 |cons p r a=>
  simp only[aIt,aHJ,aJf]at h;simp only[ix,aHM h.1,aIL];rw[a h.2]
def GV (h:(l.map (·.1)).Nodup){e:dN}(a:e∈l):cZ l e.1=some e.2:=by
 induction l with
 |nil=>cases a
 |cons p r b=>
  rw[aIt,aHX]at h;simp only[cZ];rcases aHJ.1 a with rfl|a
  .rw[aHP rfl]
  .rw[aHM (λhh=>h.1 (by rw[<-hh];exact aIW a))];exact b h.2 a
def sC.YL {G:GM}(h:sC M D G)(idle:List Nat)(hi:∀n,n∈idle↔n∈G.fr)(a:idle.Nodup):sC {M with idle:=idle} D G:=
 ⟨h.aE,h.used,h.root,h.head,h.free,hi,a,h.ok,h.fits,h.len,h.cont,h.chain.congr λ_ _=>rfl,h.count,h.tp,h.uS,h.ef⟩
structure IU (π:PI)(r0:Nat)(M:bR)(G Gk:GM)(T:Nat)(sB s:St)(nw:List dN)(bd r:Nat)(F:List Nat)(D:aU)(base last:Nat)(P:Nat->Piece)(Ls:List (List dN)):Prop where
 nG:bZ s π.p π.a (.ptr r 0) {M with dirty:=nw} bd π.bn π.bi π.bc
 Bj:cQ s π.a F D
 ok:jh D Gk base last P Ls π.kept
 len:D.aq.length=π.D.aq.length
 set:D.set=π.D.set
 dir:∀n,cZ nw n=cZ (cU [] Ls) n
 og:∀e∈nw,e.1<M.aE/\e.2.length=512
 ring:fL s r π.a ⟨1,D.aq.length/4,base,last,last⟩
 rF:r∉F
 rP:r∉[π.p,bd,π.bn,π.bi,π.bc]
 MF:∀b∈F,b∉[π.p,bd,π.bn,π.bi,π.bc]
 T:last<=T
 bdN:bd=π.bd\/sB.nx<=bd
 rN:r=r0\/sB.nx<=r
 FN:∀b∈F,b∈π.Fd\/sB.nx<=b
 kp:Kp (r0::π.all) sB s
 fresh:eA s
 rep:sC {M with dirty:=nw} D G
def Bz (π:PI)(s:St)(F:List Nat):Prop:=∃c M bd d f g,bZ s π.p π.a c M bd d f g/\(∀b∈F,b≠π.p)/\(∀e∈M.dirty,e.2.length=512)/\M.first+M.aE<=1000000
structure BH (π:PI)(r0:Nat)(M:bR)(G Gk:GM)(T:Nat)(l:List dN)(sB s:St)(nw:List dN)(bd r:Nat)(F:List Nat)(D D':aU)(base last:Nat)(P:Nat->Piece)(Ls:List (List dN)):Prop where
 nG:bZ s π.p π.a (.ptr r 0) {M with dirty:=nw} bd π.bn π.bi π.bc
 Bj:cQ s π.a F D'
 ok:jh D Gk base last P Ls π.kept
 wrote:SM D D' (D.aq.length/4) (wB P (D.aq.length/4) (dL l) last (bf (dL l).length)) (kR (D.aq.length/4) base last last (dL l) (bf (dL l).length))
 len:D.aq.length=π.D.aq.length
 set:D.set=π.D.set
 dir:∀n,cZ nw n=cZ (cU [] Ls) n
 og:∀e∈nw,e.1<M.aE/\e.2.length=512
 ring:fL s r π.a ⟨1,D.aq.length/4,base,last+bf (dL l).length,last+bf (dL l).length⟩
 rF:r∉F
 rP:r∉[π.p,bd,π.bn,π.bi,π.bc]
 MF:∀b∈F,b∉[π.p,bd,π.bn,π.bi,π.bc]
 T:last<=T
 room:bf (dL l).length+(last-base)<=D.aq.length/4
 bdN:bd=π.bd\/sB.nx<=bd
 rN:r=r0\/sB.nx<=r
 FN:∀b∈F,b∈π.Fd\/sB.nx<=b
 kp:Kp (r0::π.all) sB s
 fresh:eA s
 rep:sC {M with dirty:=nw} D G
def PI.l6 {π:PI}{b:Nat}(h:b∈π.Fd):b∈π.all:=by unfold PI.all;simp[h]
def wz {π:PI}{G Gk:GM}{T:Nat}(h:IU π r0 M G Gk T sB s nw bd r F D base last P Ls){rec:CV}(o:Sl s F rec 1 (ai (dL l)))(C:(dL l).length<=1000000)(N:T<=900000000)(A:bf (dL l).length+(last-base)<=D.aq.length/4):
 R 131 [.ptr r 0,rec] s λx s'=>(x=I 0/\∃F' D',BH π r0 M G Gk T l sB s' nw bd r F' D D' base last P Ls)\/(x=I 20/\Kp (r0::π.all) sB s'/\D.set=true/\∃F' D',cQ s' π.a F' D'/\(∀b∈F',b∈π.Fd\/sB.nx<=b)/\ln D.aq (kR (D.aq.length/4) base last last (dL l) (bf (dL l).length)) D'/\Bz π s' F'):=by
 have S:=h.ok.least;have H:=h.ok.ik;have L:=h.ok.laid.le.1;have O:=h.T;have B:bf (dL l).length<=1000000:=uM
 have J:(⟨1,D.aq.length/4,base,last,last⟩:RingM).room=(D.aq.length/4:Nat)-((last:Int)-base):=by unfold RingM.room;rw[aHM wb]
 refine(OE h.fresh h.ring h.Bj h.rF h.ok.calm.dead o C adl acT adp (by show last<=_;omega) (by show _<=D.aq.length/4;omega) wb (by rw[J];omega) (by rw[h.ok.waits];simp)).mono ?_;rintro x s' ⟨d,K,rfl,m,⟨F',u,k⟩,z⟩;have g:=h.nG.lt;have U:=h.ring.1;have hn:=h.kp.nx;have Q:=h.Bj.lt
 have y:=h.kp.trans m λq f=>by
  rcases aHJ.1 f with f|f
  .exact h.rN.imp (λe=>by simp[f,e]) (λe=>uM)
  .exact(h.FN q f).imp (λe=>by simp[PI.l6 e]) id
 have i:∀b∈F',b∈π.Fd\/sB.nx<=b:=λb c=>by
  rcases k b c with h1|h1
  .exact h.FN b h1
  .right;omega
 have w:=MS (D:=D) (count:=D.aq.length/4) (base:=base) (last:=last) (top:=last) (P:=P) (rec:=dL l) h.ok.calm (by unfold aU.Dq;rw[h.ok.waits];simp) uM uM h.ok.kQ uM B _ (aHK _);rw[show D.writes (kR (D.aq.length/4) base last last (dL l) (bf (dL l).length))=d from K]at w;rcases w with⟨j,n⟩|⟨j,n,v⟩
 case inr=>
  rw[aHM (by rw[j];decide)];rw[h.ok.waits,aIm]at v
  refine .inr ⟨rfl,y,n,F',_,u,i,v,.ptr r 0,_,bd,π.bn,π.bi,π.bc,h.nG.keep m λb c hh=>by
   rcases aHJ.1 hh with hh|hh
   .exact h.rP (hh▸c)
   .exact h.MF b hh c,λb c e=>?_,λe E=>(h.og e E).2,by have:=h.rep.fits;have:M.first+M.aE<=D.aq.length:=this;show M.first+M.aE<=_;omega⟩
  rcases k b c with h1|h1
  .exact h.MF b h1 ady
  .have:=g π.p wb;omega
 rw[aHP j]at z;refine .inl ⟨by rw[aHP j],F',d.2,?_,u,h.ok,n,h.len,h.set,h.dir,h.og,z,λhh=>?_,h.rP,λb c hh=>?_,h.T,A,h.bdN,h.rN,i,y,m.fresh h.fresh,h.rep⟩
 .exact h.nG.keep m λb c hh=>by
   rcases aHJ.1 hh with hh|hh
   .exact h.rP (hh▸c)
   .exact h.MF b hh c
 .rcases k r hh with h1|h1
  .exact h.rF h1
  .omega
 .rcases k b c with h1|h1
  .exact h.MF b h1 hh
  .have:=g b hh;omega
def Ep {π:PI}{G Gk:GM}{T:Nat}(h:IU π r0 M G Gk T sB s nw bd r F D base last P Ls)(Y:T<=900000000)(A:M.first=1+D.aq.length/4)(J:M.first+M.aE=D.aq.length):
 R 73 [.ptr π.p 0,I last] s λx s'=>(x=I 0/\∃bd' r' F' D',IU π r0 M G Gk T sB s' [] bd' r' F' D' last last P [])\/(x=I 20/\Kp (r0::π.all) sB s'/\D.set=true/\∃F' D',cQ s' π.a F' D'/\(∀b∈F',b∈π.Fd\/sB.nx<=b)/\abM D M.first nw last D'/\Bz π s' F'):=by
 have Ic:=h.ok.least;have N:=h.ok.ik;have X:=h.ok.laid.le.1;have Vs:=h.T;have c:=h.nG.lt;have Co:=h.ring.1;have hn:=h.kp.nx;have Ob:=h.Bj.lt;have V:(nw.map (·.1)).Nodup:=iW (by rw[<-lA];exact h.nG.dirty.nd)
 have Jb:nw.length<=65536:=by
  have:=kT 65536 (nw.map (·.1)) V λx u=>by
   obtain⟨e,w,rfl⟩:=aIk.1 u;have:=(h.og e w).1;omega
  rwa [aIx]at this
 refine(Ar (M:={M with dirty:=nw}) h.nG h.Bj h.ok.calm h.ok.waits h.fresh h.MF (by show nw.length<=_;omega) h.og J A uM uM h.ok.kQ).mono ?_
 have z:∀s',Kp (π.p::F) s s'->Kp (r0::π.all) sB s':=λs' f=>h.kp.trans f λq g=>by
  rcases aHJ.1 g with g|g
  .left;rw[g];unfold PI.all;simp
  .exact(h.FN q g).imp (λe=>by simp[PI.l6 e]) id
 rintro _ s' (⟨rfl,f,r',bd',F',D',y,v,K,U,m,C,BL,S,O,i,H,W⟩|⟨f,rfl,Q,F',D',v,i,L⟩)
 case inr=>
  refine .inr ⟨rfl,z s' (f.mono λq g=>.inl (aIH _ g)),Q,F',D',v,λb d=>?_,L,.ptr r 0,_,bd,π.bn,π.bi,π.bc,h.nG.keep f λb d hh=>h.MF b hh d,λb d e=>?_,λe w=>(h.og e w).2,by show M.first+M.aE<=_;omega⟩
  .rcases i b d with h2|h2
   .exact h.FN b h2
   .right;omega
  .rcases i b d with h1|h1
   .exact h.MF b h1 ady
   .have:=c π.p wb;omega
 have B:∀j,D'.cur j=if j=0 then c9 last else if j<1+D.aq.length/4 then D.cur j else (cZ nw (j-(1+D.aq.length/4))).getD (D.cur j):=λj=>by rw[H];show(if j=0 then _ else if j<M.first then _ else (cZ nw (j-M.first)).getD _)=_;rw[A]
 have k:=h.ok.toK.settled h.dir K U m B;have E:=(k.opened).2;rw[m]at E;rw[E]at C;refine .inl ⟨rfl,bd',r',F',D',y,v,k,m.trans h.len,W.trans h.set,λn=>rfl,wb,by rw[m];exact C,λhh=>(i r' hh).2.1 rfl,?_,λb d hh=>?_,h.T,.inr uM,.inr uM,λb d=>?_,z s' f,f.fresh h.fresh,?_⟩
 .have h1:=c π.p wb;have h2:=c π.bn wb;have h3:=c π.bi wb;have Z:=c π.bc wb;simp only[aHJ,aIo,aJj,aJf];exact⟨uM,O,uM,uM,uM⟩
 .have h1:=i b d;simp only[aHJ,aIo,aJj]at hh
  have o:∀x∈[π.p,bd,π.bn,π.bi,π.bc],b=x->False:=λx u e=>by
   rcases h1.1 with h2|h2
   .exact h.MF b h2 (e▸u)
   .have:=c x u;omega
  rcases hh with hh|hh|hh|hh|hh
  .exact o π.p wb hh
  .exact h1.2.2 hh
  .exact o π.bn wb hh
  .exact o π.bi wb hh
  .exact o π.bc wb hh
 .rcases(i b d).1 with h2|h2
  .exact h.FN b h2
  .right;omega
 .refine h.rep.congr (λn hn=>?_) rfl rfl rfl rfl rfl rfl m;unfold bR.get;show(match cZ M.now n with|some s=>s|none=>match cZ [] n with|some s=>s|none=>D'.cur (M.first+n))=match cZ M.now n with|some s=>s|none=>match cZ nw n with|some s=>s|none=>D.cur (M.first+n)
  rw[B,aHM uM,aHM uM,show M.first+n-(1+D.aq.length/4)=n from uM];cases cZ M.now n with
  |some s=>rfl
  |none=>cases cZ nw n<;>rfl
def YQ:∀(n:Nat) (l:List Nat),l.Nodup->(∀x∈l,x<n)->l.length<=n:=by
 intro n
 induction n with
 |zero=>
  intro l _ h;cases l with
  |nil=>simp
  |cons a r=>exact absurd (h a wb) uM
 |succ n d=>
  intro l c h
  by_cases f:n∈l
  .have:=d (l.erase n) (c.erase n) λx b=>by
    have h1:=(c.mem_erase_iff).1 b;have:=h x h1.2;omega
   rw[List.length_erase_of_mem f]at this;omega
  .have:=d l c λx b=>by
    have:=h x b;have:x≠n:=λe=>f (e▸b);omega
   omega
section
variable {st st':St} {π:PI} {G Gk:GM} {T:Nat}
def BF (π:PI)(r:Nat)(G Gk:GM)(T:Nat)(st st':St):Prop:=Kp (r::π.all) st st'/\π.D.set=true/\∃F' D',cQ st' π.a F' D'/\(∀b∈F',b∈π.Fd\/st.nx<=b)/\(Wi Gk π.D.aq.length T D'\/Wi G.reset π.D.aq.length T D')/\Bz π st' F'
def DR (π:PI)(G Gk:GM)(T:Nat)(st:St)(v:CV)(st':St):Prop:=
 (v=I 3/\Kp [] st st'/\π.D.aq.length/8<G.ef.length)\/(v=I 0/\∃c r,c.p=π.p/\c.a=π.a/\Pg c st' G.reset/\ib c st' G.reset T/\π.lg=.ptr r 0/\(∃r',c.lg=.ptr r' 0/\(r'=r\/st.nx<=r'))/\Kp (r::π.all) st st'/\(∀b∈c.all,b∈π.all\/st.nx<=b)/\c.D.aq.length=π.D.aq.length/\c.D.set=π.D.set)\/(v=I 20/\∃r,π.lg=.ptr r 0/\BF π r G Gk T st st')
set_option maxHeartbeats 2000000 in
def JR (h:Pg π st G)(hk:ib π st Gk T)(jH:eA st)(hT:T<=900000000)(Hy:π.D.aq.length<=8000)(HC:G.root=0\/G.bW G.root)(cA:G.aE=Gk.aE):R 83 [.ptr π.p 0] st (DR π G Gk (T+10000) st):=by
 obtain⟨M,B,i,hd,nj,hF,VK,cz,XY⟩:=h;obtain⟨⟨base,last,P,Ls,r,lG,Vs,BM,kV,Kj,Cu⟩,aQ,aR,rE⟩:=hk;rw[BM]at B;have ax:∀n,cZ M.dirty n=cZ (cU [] Ls) n:=by rw[VK];exact Cu
 have Ic:=lG.least;have Dw:=B.main;have qR:M.now.length=M.count.length:=by rw[<-i.count,aIx]
 refine bK ?_;rw[w83];rw[cc,af,ag,aHM xI,bD,bj,af,ah,af,az,Dw,ar];simp only[aHN,aHI,aHG,aw]
 have aW:bt .map (.map π.bc) st=.ok (I M.count.length) st:=by
  have:=IsMap.len (.inl B.count)
  rwa [show(uz M.count).length=M.count.length by unfold uz;simp]at this
 rw[aW,af,af,ah,af,az,Dw,ar];simp only[aHN,aHG,aw];refine(vD hd).same ?_
 have e8:aj .quo none true (I π.D.aq.length) (.int .i64 8) st=.ok (I ((π.D.aq.length/8:Nat):Int)) st:=by
  have e0:aj .quo none true (I π.D.aq.length) (.int .i64 8) st=.ok (I (IntKind.i64.wrap (Int.tdiv π.D.aq.length 8))) st:=rfl;have e1:Int.tdiv (π.D.aq.length:Int) 8=((π.D.aq.length/8:Nat):Int):=rfl;rw[e0,e1,bA uM]
 have bb:aj .gtr none false (I M.count.length) (I ((π.D.aq.length/8:Nat):Int)) st=.ok (.bool (decide (π.D.aq.length/8<M.count.length))) st:=BT
 rw[e8,af,bb,af];refine⟨⟨afp,afp,afp,afp⟩,afp,?_⟩;rw[ag]
 by_cases kX:π.D.aq.length/8<M.count.length
 .rw[aHQ kX,aHP rfl];exact .inl ⟨rfl,Kp.refl _ _,by rw[<-i.ef];omega⟩
 rw[aHL kX,aHM xI]
 have RH:M.m.root=0\/M.bW M.m.root:=by
  rw[i.root];exact HC.imp id λhu=>(i.wj _).2 hu
 have Xw:=i.ok.ik;have nL:=i.ok.size
 have ZM:M.m.root<2147483648:=by
  rcases RH with C|C
  .omega
  .have:=C.2.1;rw[i.used]at this;omega
 have a9:aj .neq (some .int) true (I M.m.root) (.int .i64 0) st=.ok (.bool (decide (M.m.root≠0))) st:=by rw[av,ff];congr 2;by_cases h:M.m.root=0<;>simp[h]
 have ZN:∀K:CV->St->Prop,K (.bool false) st->sy 10 0 (.ptr π.p 0) st (λdm=>us (aj .neq (some .int) true dm (.int .i64 0) st) λdt=>us (br (ao true dt) st (.ok (.ptr π.p 0) st)) λeB=>us (br (ao true dt) st (.ok (.ptr π.p 0) st)) λeJ=>us (br (ao true dt) st (dJ eJ st)) λeE=>us (br (ao true dt) st (al 10 eE st)) λeN=>
  iy (ao true dt) 0 eN st λeh=>gK (ao true dt) st (λk=>R 101 [eB,eh] st k) λew s2=>us (br (ao true dt) s2 (mi .not ew s2)) λdW=>us (bk dt dW (.bool false) s2) λdP=>K dP s2):=by
  intro K u;simp only[sy,bj,ah,af,az,Dw,ar,aHN,Nat.reduceAdd,aHI,aHG,aw,a9]
  by_cases C:M.m.root=0
  .simp only[C,ne_eq,not_true_eq_false,aJm,aG,aIj,bU,af,iy,pV,aF,aHH,aHV];exact u
  .have hu:=RH.resolve_left C;simp only[C,ne_eq,not_false_eq_true,aIS,aG,aIj,ba,af,iy,bj,ah,az,Dw,ar,aHN,Nat.reduceAdd,aHI,aHG,aw,dI];refine(wi B _).same ?_;simp only[hu,aIS,cR,aIb,af,aF,aIj];exact u
 refine ZN (λdP s2=>aC dP _ _) ?_;rw[ag,aHM xI,bD,bj,af,ah,af,az,Dw,ar];simp only[aHN,aHI,aHG,aw];rw[af,ah,af,gL (n:=4) Dw wb,af];have cG:=kT G.used G.fr i.ok.nd λx Q=>(i.ok.fr x Q).2
 have cw:G.fr.headD 0<=65536:=by
  cases hf:G.fr with
  |nil=>simp
  |cons n r=>have:=(i.ok.fr n (by rw[hf];simp)).2;simp;omega
 have am:∀n∈mn M.m,n<9223372036854775808:=by
  intro n z;have q1:=i.used;have q2:=i.head;have q3:=i.free;simp only[mn,aHJ,aIo,aJj]at z;rcases z with rfl|rfl|rfl|rfl<;>omega
 refine(ER (m:=M.m) am).mono ?_;rintro _ s3 ⟨rfl,k3⟩;have RG:=B.keep k3 wb;have ap:=RG.main;obtain⟨blk,u1,u2,u3⟩:=IsMap.update (.inl RG.now) 0 (.agg (ai (bO M.m)));have u4:=u3 RG.now
 have u5:dd (St.set s3 π.bn blk) π.bn (gX (ix M.now 0 (bO M.m))):=by
  have:=wy M.now 0 (bO M.m);rw[<-this];exact u4
 rw[show dG .int (.map π.bn) (.int .i64 0) (.agg (ai (bO M.m))) s3=.ok .undef (St.set s3 π.bn blk)from u1,aP,az,ap,ar];refine⟨⟨⟨rfl,afp⟩,afp,afp⟩,afp,?_⟩;have nd:=B.nd;simp only[aHX,aHJ,aIo,aJj,aJf]at nd;obtain⟨⟨m1,m2,m3,m4⟩,⟨m5,m6,m7⟩,⟨m8,m9⟩,ct,_⟩:=nd;have bP:=RG.lt π.bn wb
 have TA:bZ (St.set s3 π.bn blk) π.p π.a (.ptr r 0) {M with now:=ix M.now 0 (bO M.m)} π.bd π.bn π.bi π.bc:=
  ⟨(ak _ _ _ _ m2).trans ap,RG.dirty.mono (ak _ _ _ _ m5),u5,RG.idle.mono (ak _ _ _ _ (aIG m8)),RG.count.mono (ak _ _ _ _ (aIG m9)),B.nd,RG.lt,B.lgs⟩
 have k4:Kp [π.bn] st (St.set s3 π.bn blk):=(k3.mono wb).set _ (.inl wb) bP;generalize St.set s3 π.bn blk=s4 at*;have aO:=TA.main;have bv:=k4.fresh jH
 have X5:0∉M.now.map (·.1):=λhh=>by
  rw[i.count]at hh;have:=(i.uS 0 hh).1;omega
 have au:=Uv (s:=bO M.m) X5;generalize hN:ix M.now 0 (bO M.m)=N at*;have a7:N.length=M.now.length+1:=by rw[au];simp
 have H0:M.aE=π.D.aq.length-1-π.D.aq.length/4:=by
  have a1:=i.aE;have a2:π.D.aq.length-1-π.D.aq.length/4=Gk.aE:=lG.rep.aE;omega
 have RI:M.first=1+π.D.aq.length/4:=by rw[XY,aQ]
 have Mx:∀n∈N.map (·.1),∃s,cZ N n=some s/\n<=100000/\n<M.aE/\s.length=512:=λn z=>by
  have S:cZ N n=if n=0 then some (bO M.m)else cZ M.now n:=by rw[<-hN,qB]
  by_cases C:n=0
  .rw[aHP C]at S;have h1:=i.ok.one;exact⟨_,S,uM,by have:=i.aE;omega,il _⟩
  .rw[aHM C]at S;rw[au,aIQ,aHT]at z
   have Cr:n∈M.now.map (·.1):=by
    rcases z with h1|h1
    .exact h1
    .exact absurd aal C
   cases hp:cZ M.now n with
   |none=>exact absurd Cr (mz.1 hp)
   |some s=>
    rw[hp]at S;rw[i.count]at Cr;have h2:=i.uS n Cr;have h3:=i.len n h2.2;have h4:M.get π.D n=s:=by unfold bR.get;rw[hp]
    rw[h4]at h3;exact⟨s,S,uM,by have:=i.aE;omega,h3⟩
 have bY:∀{K:CV->Prop},K (.map π.bn)->eQ 5 (.ptr π.p 0) s4 K:=λ{K} u=>by
  rw[eQ,bj,af,ah,af,az,aO,ar];exact u
 rw[cM];refine bY ?_;refine LW.mono ?_;rintro _ zi ⟨rfl,a8,NH,cl⟩;have bo:=TA.keep NH wb;refine(CM (L:=N) a8 (.inl bo.now) (by rw[a7];omega) (λn z=>by obtain⟨_,_,h1,_⟩:=Mx n z;omega)).mono ?_;intro x Ul HI;have aN:=HI.kp;have Wm:=NH.trans aN wb;have aD:=TA.keep Wm wb;have b3:=Wm.fresh bv;have a0:(N.map (·.1)).Nodup:=iW (by rw[<-lA];exact TA.now.nd);have cF:(oG (N.map (·.1))).length=N.length:=by rw[xV,aIx]
 have Vu:=yD a0;have L6:=HI.sl [] wb;have Vt:∀n,n∈oG (N.map (·.1))↔n∈N.map (·.1):=λn=>tM;generalize mC:oG (N.map (·.1))=ks at*;rw[L6.len ks.length wb uM Ul,af];simp only[aK,aL];refine Uq (M:=M) (N:=N) aD b3 (λs hs=>L6.mono hs) ⟨λn z=>?_⟩ uM ?_
 .obtain⟨s,q1,q2,_,q4⟩:=Mx n ((Vt n).1 z);exact⟨s,q1,q2,q4⟩
 intro s rec ab w9;simp only[aK,aL];have A3:=ng N ks;have cv:(dK N ks).length=ks.length:=by unfold dK;simp
 have Rc:∀e∈dK N ks,e.1<M.aE/\e.2.length=512:=λe w=>by
  unfold dK at w;obtain⟨n,z,rfl⟩:=aIk.1 w;obtain⟨s',q1,q2,q3,q4⟩:=Mx n ((Vt n).1 z);simp only[q1,aJg];exact⟨q3,q4⟩
 have Xy:∀n,cZ (dK N ks) n=if n=0 then some (bO M.m)else cZ M.now n:=λn=>by
  have S:cZ N n=if n=0 then some (bO M.m)else cZ M.now n:=by rw[<-hN,qB]
  rw[<-S]
  have aM:∀js:List Nat,cZ (dK N js) n=if n∈js then some ((cZ N n).getD [])else none:=by
   intro js
   induction js with
   |nil=>rfl
   |cons j js ih=>
    show(if n=j then some ((cZ N j).getD [])else cZ (dK N js) n)=_
    by_cases hj:n=j
    .subst hj;rw[aHP rfl,aHP wb]
    .rw[aHM hj,ih];simp only[aHJ,hj,false_or]
  rw[aM]
  by_cases z:n∈ks
  .rw[aHP z];obtain⟨s',q1,_⟩:=Mx n ((Vt n).1 z);rw[q1];rfl
  .rw[aHM z];exact(mz.2 λhh=>z ((Vt n).2 hh)).symm
 have cD:=Lu _ λe w=>by have:=Rc e w;omega
 have Tq:bf (dL (dK N ks)).length<=π.D.aq.length/4:=by
  have h1:(dK N ks).length<=π.D.aq.length/8+1:=uM
  generalize (dL (dK N ks)).length=X at*;unfold bf
  split<;>omega
 have ZO:(dL (dK N ks)).length<=1000000:=uM
 generalize hl:dK N ks=l at*;have Z:=aD.keep ab wb;have A2:=Z.main
 have cf:∀{K:CV->Prop},K (.map π.bn)->eQ 5 (.ptr π.p 0) s K:=λ{K} u=>by
  rw[eQ,bj,af,ah,af,az,A2,ar];exact u
 refine cf ?_;obtain⟨v,d1,d2,d3⟩:=Z.now.delete 0;rw[show pO .int (.map π.bn) (.int .i64 0) s=.ok .undef v from d1,aP]
 have d4:dd v π.bn (gX M.now):=by
  have e:rA (gX N) 0=gX M.now:=by rw[<-hN];exact PK X5
  rw[<-e];exact d3
 have bN:=Z.lt π.bn wb
 have nJ:Kp [π.bn] s v:=by
  rcases d2 with rfl|⟨blk,rfl⟩
  .exact Kp.refl _ _
  .exact(Kp.refl _ s).set _ (.inl wb) bN
 have kk:∀q∈[π.p,π.bd,π.bn,π.bi,π.bc],q≠π.bn->v.m.g q=s.m.g q:=λq y gV=>nJ.keep q (Z.lt q y) acK
 have Cv:bZ v π.p π.a (.ptr r 0) {M with dirty:=M.dirty} π.bd π.bn π.bi π.bc:=
  ⟨(kk π.p wb (aIG (aIG m2))).trans A2,Z.dirty.mono (kk π.bd wb m5),d4,Z.idle.mono (kk π.bi wb (aIG m8)),Z.count.mono (kk π.bc wb (aIG m9)),B.nd,λb d=>aId (Z.lt b d) nJ.nx,B.lgs⟩
 have E:=((k4.trans Wm wb).trans ab wb).trans nJ afk;have bg:∀b∈π.Fd,b∉[π.bn]:=λb d hh=>hF b d aeG;have NY:=hd.keep E bg;have bx:r≠π.bn:=λe=>Kj adQ;have E4:=kV.keep E (by simpa using bx);have b1:=E.fresh jH;have LI:=nJ.nx
 have Kl:IU π r M G Gk T v v M.dirty π.bd r π.Fd π.D base last P Ls:=
  ⟨Cv,NY,lG,rfl,rfl,ax,λe w=>by rw[H0];exact aR e (by rw[<-VK];exact w),E4,λhh=>Kj (PI.l6 hh),λhh=>Kj (by unfold PI.all;simp at hh⊢;rcases hh with h|h|h|h|h<;>simp[h]),hF,Vs,.inl rfl,.inl rfl,afk,Kp.refl _ _,b1,i⟩
 obtain⟨Fr,aJ,RK⟩:=w9;have ck:=Wm.nx;have n4:=k4.nx;have ci:=ab.nx;have b8:=aJ.keep nJ λb d=>⟨(RK b d).2,by have:=(RK b d).1;have:=B.lt π.bn wb;simp;omega⟩
 have QV:∀(s':St) (F':List Nat),Kp (r::π.all) v s'->(∀b∈F',b∈π.Fd\/v.nx<=b)->Sl s' F' rec 1 (ai (dL l)):=λs' F' U oX=>by
  have ov:∀b∈Fr,st.nx<=b/\b<v.nx:=λb d=>by have:=RK b d;omega
  have Co:=kV.1
  have eF:∀b∈Fr,b∉r::π.all:=λb d hh=>by
   have h1:=ov b d;rcases aHJ.1 hh with hh|hh
   .omega
   .have:b<st.nx:=by
     unfold PI.all at hh;simp only[aHJ]at hh;rcases hh with hh|hh|hh|hh|hh|hh
     .rw[hh];exact B.lt _ wb
     .rw[hh];exact B.lt _ wb
     .rw[hh];exact B.lt _ wb
     .rw[hh];exact B.lt _ wb
     .rw[hh];exact B.lt _ wb
     .exact hd.lt b hh
    omega
  have Nr:=b8.keep U λb d=>⟨(ov b d).2,eF b d⟩;have cj:=U.nx
  exact Nr.sl λb d=>⟨λhh=>by
   have h1:=ov b d;rcases oX b hh with h2|h2
   .exact eF b d (by simp[PI.l6 h2])
   .omega,by have:=ov b d;omega⟩
 have NT:=Cv.main
 have XG:∀{K:CV->Prop},K (.ptr r 0)->eQ 1 (.ptr π.p 0) v K:=λ{K} u=>by
  rw[eQ,bj,af,ah,af,az,NT,ar];exact u
 refine XG ?_
 have ad:∀{s':St} {nw:List dN} {bd' r':Nat} {F':List Nat} {D':aU} {base' last':Nat} {P':Nat->Piece} {Y:List (List dN)},D'.aq.length=π.D.aq.length->(∀n,cZ nw n=cZ (cU [] Y) n)->sC {M with dirty:=nw} D' G->xG D' G {M with dirty:=nw} l Y:=λ{s' nw bd' r' F' D' base' last' P' Y} W bQ QU=>
  ⟨QU,by show M.first=_;rw[RI,W],by show M.aE=_;rw[H0,W],bQ,by rw[<-hl,ng];exact Vu,Xy,Rc,ZO,ZM⟩
 have cH:bf (dL l).length<=2000:=uM
 have aa:∀{s0 s':St} {nw:List dN} {bd' r':Nat} {F':List Nat} {D':aU} {base' last':Nat} {P':Nat->Piece} {Y:List (List dN)},IU π r M G Gk T v s0 nw bd' r' F' D' base' last' P' Y->bf (dL l).length+(last'-base')<=D'.aq.length/4->Kp (r::π.all) v s'->D'.set=true->
  (∃F2 O,cQ s' π.a F2 O/\(∀b∈F2,b∈π.Fd\/v.nx<=b)/\ln D'.aq (kR (D'.aq.length/4) base' last' last' (dL l) (bf (dL l).length)) O/\Bz π s' F2)->BF π r G Gk (T+10000) v s':=by
  rintro s0 s' nw bd' r' F' D' base' last' P' Y A nM U fo ⟨F2,O,Dy,xN,VF,Mf⟩;have aZ:=A.T;refine⟨U,by rw[<-A.set];exact fo,F2,O,Dy,xN,?_,Mf⟩;rcases A.ok.aef (ad (s':=s') (bd':=bd') (r':=r') (F':=F') (base':=base') (last':=last') (P':=P') A.len A.dir A.rep) uM nM VF with⟨top,P2,u,bJ⟩|⟨P2,u⟩
  .exact .inl ⟨VF.dead,by rw[VF.len];exact A.len,_,_,_,_,_,_,u,uM⟩
  .exact .inr ⟨VF.dead,by rw[VF.len];exact A.len,_,_,_,_,_,_,u,uM⟩
 have Ry:R 131 [.ptr r 0,rec] v λx s'=>(x=I 0/\∃nw bd r' F D D' base last P Ls,BH π r M G Gk T l v s' nw bd r' F D D' base last P Ls)\/(x=I 3/\s'=v)\/(x=I 20/\BF π r G Gk (T+10000) v s'):=by
  by_cases nM:bf (dL l).length+(last-base)<=π.D.aq.length/4
  .refine(wz Kl (QV v π.Fd (Kp.refl _ _) afk) ZO uM nM).mono ?_;rintro x s' (⟨rfl,F',D',c⟩|⟨rfl,U,fo,Q⟩)
   .exact .inl ⟨rfl,_,_,_,_,_,_,_,_,_,_,c⟩
   .exact .inr (.inr ⟨rfl,aa Kl nM U fo Q⟩)
  .have Tp:(⟨1,π.D.aq.length/4,base,last,last⟩:RingM).room=(π.D.aq.length/4:Nat)-((last:Int)-base):=by unfold RingM.room;rw[aHM wb]
   have te:=lG.laid.le.1;refine(II (X:=[]) E4 NY nj ((QV v π.Fd (Kp.refl _ _) afk).eH wb) uM (by show π.D.aq.length/4<=_;omega) adp (by show last<=_;omega) Tq wb (by rw[Tp];omega)).mono ?_;rintro x s' ⟨rfl,rfl⟩;exact .inr (.inl ⟨rfl,rfl⟩)
 refine Ry.mono ?_;intro pD eu bG;have be:∀s,aj .eql (some .int) true (I 20) (.int .i64 3) s=.ok (.bool false) s:=λs=>rfl;have aB:∀s,aj .eql (some .int) true (I 20) (.int .i64 0) s=.ok (.bool false) s:=λs=>rfl;have Je:∀s,aj .neq (some .int) true (I 20) (.int .i64 0) s=.ok (.bool true) s:=λs=>rfl
 have ay:∀s',BF π r G Gk (T+10000) v s'->DR π G Gk (T+10000) st (I 20) s':=λs' ⟨a1,a2,F',D',a3,a4,a5,a6⟩=>by
  have q1:Kp (r::π.all) st v:=E.mono (by intro q y;left;simp at y;subst y;unfold PI.all;simp);have:=E.nx;exact .inr (.inr ⟨rfl,r,BM,q1.trans a1 afk,a2,F',D',a3,λb d=>(a4 b d).imp id λh=>uM,a5,a6⟩)
 refine kY (λvs s=>(vs=[.ptr π.p 0,I 0]/\∃nw bd r' F D D' base last P Ls,BH π r M G Gk T l v s nw bd r' F D D' base last P Ls)\/(vs=[.ptr π.p 0,I 20]/\BF π r G Gk (T+10000) v s)) ?_ ?_
 .intro cu Kw;rcases bG with⟨rfl,c⟩|⟨rfl,rfl⟩|⟨rfl,Q⟩
  .have e3:aj .eql (some .int) true (I 0) (.int .i64 3) eu=.ok (.bool false) eu:=rfl;rw[e3,af,ag,aHM xI];exact Kw _ _ (.inl ⟨rfl,c⟩)
  .have e3:aj .eql (some .int) true (I 3) (.int .i64 3) eu=.ok (.bool true) eu:=rfl;rw[e3,af,ag,aHP rfl];refine XG ?_;refine(Pm E4).same ?_;refine(Ep Kl uM RI (by rw[RI,H0];omega)).mono ?_;rintro _ xY (⟨rfl,bd',r',F',D',A⟩|⟨rfl,U,fo,F',D',yp,oX,hs,Mf⟩)
   .have e0:aj .eql (some .int) true (I 0) (.int .i64 0) xY=.ok (.bool true) xY:=rfl;rw[e0,af,ag,aHP rfl];have bF:=A.nG.main
    have ce:∀{K:CV->Prop},K (.ptr r' 0)->eQ 1 (.ptr π.p 0) xY K:=λ{K} u=>by
     rw[eQ,bj,af,ah,af,az,bF,ar];exact u
    refine ce ?_;refine(wz A (QV xY F' A.kp A.FN) ZO uM (by rw[A.len];omega)).mono ?_;rintro x uQ (⟨rfl,F2,O,c⟩|⟨rfl,U,fo,Q⟩)
    .exact Kw _ _ (.inl ⟨rfl,_,_,_,_,_,_,_,_,_,_,c⟩)
    .exact Kw _ _ (.inr ⟨rfl,aa A (by rw[A.len];omega) U fo Q⟩)
   .rw[aB,af,ag,aHM xI];rw[RI]at hs;obtain⟨b2,l2,cg,u⟩:=lG.toK.aiU ax hs;exact Kw _ _ (.inr ⟨rfl,U,fo,F',D',yp,oX,.inl ⟨hs.dead,hs.len,b2,l2,_,_,cg,_,u,uM⟩,Mf⟩)
  .rw[be,af,ag,aHM xI];exact Kw _ _ (.inr ⟨rfl,Q⟩)
 .rintro _ eP (⟨rfl,nw,bd',r',F',D',O,base',last',P',Y,c⟩|⟨rfl,Q⟩)
  case inr=>
   rw[cM];simp only[aK,aL];rw[aB,af,ag,aHM xI,Je,af,ag,aHP rfl];exact ay _ Q
  rw[cM];simp only[aK,aL];have e0:∀s,aj .eql (some .int) true (I 0) (.int .i64 0) s=.ok (.bool true) s:=λs=>rfl;have e2:∀s,aj .neq (some .int) true (I 0) (.int .i64 0) s=.ok (.bool false) s:=λs=>rfl;have ca:=c.nG.main;rw[e0,af,ag,aHP rfl]
  have cd:∀{K:CV->Prop},K (.ptr r' 0)->eQ 1 (.ptr π.p 0) eP K:=λ{K} u=>by
   rw[eQ,bj,af,ah,af,az,ca,ar];exact u
  refine cd ?_;have W:=c.len;refine(Ud c.ring c.Bj (by rw[c.wrote.waits,c.ok.waits];simp[kR];omega)).mono ?_;rintro _ iV ⟨rfl,mM,F3,Fl,Bb⟩;rcases c.wrote.calm.flush c.wrote.Dq with⟨f1,f2,f3,f4,f5,f6⟩|⟨f1,f2,f3⟩
  case inr=>
   rw[aHM (by rw[f1];decide),Je,af,ag,aHP rfl];rw[c.wrote.set,c.set]at f2;rw[c.wrote.aq,c.wrote.waits,c.ok.waits,aIm]at f3;have aZ:=c.T;refine ay _ ⟨c.kp.trans mM λq y=>(c.FN q y).imp (λh=>by simp[PI.l6 h]) id,f2,F3,_,Fl,λb d=>?_,?_,?_⟩
   .rcases Bb b d with h1|h1
    .exact c.FN b h1
    .have:=c.kp.nx;right;omega
   .rcases c.ok.aef (ad (s':=eP) (bd':=bd') (r':=r') (F':=F') (base':=base') (last':=last') (P':=P') W c.dir c.rep) uM c.room f3 with⟨top,P2,u,bJ⟩|⟨P2,u⟩
    .exact .inl ⟨f3.dead,by rw[f3.len];exact W,_,_,_,_,_,_,u,uM⟩
    .exact .inr ⟨f3.dead,by rw[f3.len];exact W,_,_,_,_,_,_,u,uM⟩
   .refine⟨_,_,_,_,_,_,c.nG.keep mM λb d hh=>c.MF b hh d,λb d e=>?_,λe w=>(c.og e w).2,by show M.first+M.aE<=_;rw[RI,H0];omega⟩;rcases Bb b d with h1|h1
    .exact c.MF b h1 ady
    .have:=c.nG.lt π.p wb;omega
  have Ob:=c.Bj.lt;have yk:=c.nG.lt;have H:=c.nG.keep mM λb d hh=>c.MF b hh d;have L9:=c.ring.keep mM c.rF;have Xt:=c.ok.abE (ad (s':=eP) (bd':=bd') (r':=r') (F':=F') (base':=base') (last':=last') (P':=P') W c.dir c.rep) c.room c.wrote f1;rw[aHP f1,e2,af,ag,aHM xI,bD];have bB:=H.main;have cs:=c.kp.nx;have cr:=mM.nx;have Mi:iV.m.g π.p=some (.cells [.ptr π.a 0,.ptr r' 0,I M.first,I M.aE,.map bd',.map π.bn,I M.kept.root,I M.kept.used,I M.kept.head,I M.kept.free,I M.m.root,I M.m.used,I M.m.head,I M.m.free,.map π.bi,.map π.bc] 158 false):=bB;have ae:=c.nG.nd;simp only[aHX,aHJ,aIo,aJj,aJf]at ae;obtain⟨⟨v1,v2,v3,v4⟩,⟨v5,v6,v7⟩,⟨v8,v9⟩,ch,_⟩:=ae;have bT:(nw.map (·.1)).Nodup:=iW (by rw[<-lA];exact H.dirty.nd)
  have cC:nw.length<=65536:=by
   have:=kT 65536 (nw.map (·.1)) bT λx Q=>by
    obtain⟨e,w,rfl⟩:=aIk.1 Q;have:=(c.og e w).1;omega
   rwa [aIx]at this
  have b6:(M.now.map (·.1)).Nodup:=by rw[i.count];exact i.tp
  have QZ:∀e∈M.now,e.1<M.aE/\e.2.length=512:=λe w=>by
   have h1:=GV b6 w;have h2:e.1∈M.count:=by rw[<-i.count];exact aIW w
   have h3:=i.uS _ h2;have h4:=i.len e.1 h3.2;have h5:M.get π.D e.1=e.2:=by unfold bR.get;rw[h1]
   rw[h5]at h4;exact⟨by have:=i.aE;omega,h4⟩
  rw[bj,af,ah,af,az,Mi,ar];simp only[aHN,aHI,aHG,aw];rw[af,ah,af,az,Mi,ar];simp only[aHN,aHI,aHG,aw]
  have bh:∀n∈nw.map (·.1),n<=1000000:=λn z=>by
   obtain⟨e,w,Tu⟩:=aIk.1 z;have h1:=(c.og e w).1;rw[<-Tu];omega
  have bl:∀n∈M.now.map (·.1),n<=1000000:=λn z=>by
   obtain⟨e,w,Tu⟩:=aIk.1 z;have h1:=(QZ e w).1;rw[<-Tu];omega
  have bp:nw.length<=1000000:=uM
  have cb:M.now.length<=1000000:=uM
  have bm:=λe w=>(QZ e w).2;have bq:=H.lt bd' wb;have Tw:IsMap iV bd' (gX nw):=H.dirty;have Ms:IsMap iV π.bn (gX M.now):=.inl H.now;refine(VZ Tw Ms v5 bp bh cb bl bm bq).mono ?_;rintro _ dv ⟨yj,cq,aV⟩;refine⟨⟨afp,afp,afp⟩,afp,?_⟩;have bH:∀q∈[π.p,bd',π.bn,π.bi,π.bc],q≠bd'->dv.m.g q=iV.m.g q:=λq y gV=>yj.keep q (H.lt q y) acK;have ac:=(bH π.p wb v1).trans Mi;rw[bD,bj,af,ah,af,az,ac,ar];simp only[aHN,aHI,aHG,aw];rw[af,ah,af,gL (n:=4) ac wb,af];refine(ER (m:=M.m) am).mono ?_;rintro _ V ⟨rfl,Dn⟩;have bS:=aV.mono (Dn.keep bd' (by have:=H.lt bd' wb;omega) wb);have bC:=(Dn.keep π.p (by have:=H.lt π.p wb;omega) wb).trans ac;obtain⟨SH,w1,w2,_⟩:=IsMap.update bS 0 (.agg (ai (bO M.m)))
  have w3:IsMap (St.set V bd' SH) bd' (gX (ix (oN nw M.now) 0 (bO M.m))):=by
   have:=wy (oN nw M.now) 0 (bO M.m);rw[<-this];exact w2
  rw[show dG .int (.map bd') (.int .i64 0) (.agg (ai (bO M.m))) V=.ok .undef (St.set V bd' SH)from w1,aP,az,bC,ar];refine⟨⟨⟨rfl,afp⟩,afp,afp⟩,afp,?_⟩;have cp:=Dn.nx;have b4:bd'<V.nx:=by have:=H.lt bd' wb;omega
  have NI:Kp [bd'] V (St.set V bd' SH):=(Kp.refl _ V).set _ (.inl wb) b4;have Ym:=(yj.trans Dn wb).trans NI afk;have co:(St.set V bd' SH).nx=V.nx:=rfl;generalize St.set V bd' SH=f at*;have bI:∀q∈[π.p,bd',π.bn,π.bi,π.bc],q≠bd'->f.m.g q=iV.m.g q:=λq y gV=>Ym.keep q (H.lt q y) acK;have aI:=(bI π.p wb v1).trans Mi
  have b0:∀{K:CV->Prop},K (.agg [I M.m.root,I M.m.used,I M.m.head,I M.m.free])->zx 4 10 (.ptr π.p 0) f K:=λ{K} u=>by
   unfold zx;rw[bj,af,ah,af,gL (n:=4) aI wb,af];exact u
  refine b0 ?_;rw[fV,aP,fV,aP];have y1:(St.new f (.map [] 0)).nx=f.nx+1:=rfl;have y2:(St.new (St.new f (.map [] 0)) (.map [] 0)).nx=f.nx+2:=rfl;rw[y1];have QH:Kp [] f (St.new (St.new f (.map [] 0)) (.map [] 0)):=((Kp.refl [] f).new _).new _;have z1:dd (St.new (St.new f (.map [] 0)) (.map [] 0)) f.nx []:=(dd.new f).mono (by rw[aX _ _ _ wb]);have z2:dd (St.new (St.new f (.map [] 0)) (.map [] 0)) (f.nx+1) []:=dd.new (St.new f (.map [] 0));generalize St.new (St.new f (.map [] 0)) (.map [] 0)=kH at*;have bw:π.p<f.nx:=by have:=H.lt π.p wb;omega
  have bE:=(QH.keep π.p bw wb).trans aI;have qf:bz [.ptr π.a 0,.ptr r' 0,I M.first,I M.aE,.map bd',.map π.bn,I M.kept.root,I M.kept.used,I M.kept.head,I M.kept.free,I M.m.root,I M.m.used,I M.m.head,I M.m.free,.map π.bi,.map π.bc] 6 [I M.m.root,I M.m.used,I M.m.head,I M.m.free]=[.ptr π.a 0,.ptr r' 0,I M.first,I M.aE,.map bd',.map π.bn,I M.m.root,I M.m.used,I M.m.head,I M.m.free,I M.m.root,I M.m.used,I M.m.head,I M.m.free,.map π.bi,.map π.bc]:=rfl;have kJ:bz [.ptr π.a 0,.ptr r' 0,I M.first,I M.aE,.map bd',.map π.bn,I M.m.root,I M.m.used,I M.m.head,I M.m.free,I M.m.root,I M.m.used,I M.m.head,I M.m.free,.map π.bi,.map π.bc] 5 [.map f.nx]=[.ptr π.a 0,.ptr r' 0,I M.first,I M.aE,.map bd',.map f.nx,I M.m.root,I M.m.used,I M.m.head,I M.m.free,I M.m.root,I M.m.used,I M.m.head,I M.m.free,.map π.bi,.map π.bc]:=rfl;have AZ:bz [.ptr π.a 0,.ptr r' 0,I M.first,I M.aE,.map bd',.map f.nx,I M.m.root,I M.m.used,I M.m.head,I M.m.free,I M.m.root,I M.m.used,I M.m.head,I M.m.free,.map π.bi,.map π.bc] 15 [.map (f.nx+1)]=[.ptr π.a 0,.ptr r' 0,I M.first,I M.aE,.map bd',.map f.nx,I M.m.root,I M.m.used,I M.m.head,I M.m.free,I M.m.root,I M.m.used,I M.m.head,I M.m.free,.map π.bi,.map (f.nx+1)]:=rfl
  have L7:∀{s:St} {l l':List CV} {K:St->Prop},s.m.g π.p=some (.cells l 158 false)->10<=l.length->bz l 6 [I M.m.root,I M.m.used,I M.m.head,I M.m.free]=l'->K (St.set s π.p (.cells l' 158 false))->mc 4 6 (.ptr π.p 0) (.agg [I M.m.root,I M.m.used,I M.m.head,I M.m.free]) s K:=by
   intro s l l' K S h3 h4 u;simp only[mc,bj,ah,af,aH,S,aS,aT,aHN,h4];exact⟨⟨rfl,rfl,uM⟩,u⟩
  have Xk:∀{s:St} {l l':List CV} {o b:Nat} {K:St->Prop},s.m.g π.p=some (.cells l 158 false)->o<l.length->bz l o [.map b]=l'->K (St.set s π.p (.cells l' 158 false))->mc 1 o (.ptr π.p 0) (.map b) s K:=by
   intro s l l' o b K S h3 h4 u;have Ve:(CV.map b).cK=[.map b]:=rfl;simp only[mc,bj,ah,af,aH,S,aS,Ve,aHN,h4];exact⟨⟨rfl,rfl,h3⟩,u⟩
  refine L7 bE wb qf ?_;refine Xk (an _ _ _) wb kJ ?_;rw[set_set];refine Xk (an _ _ _) wb AZ ?_;rw[set_set];have AY:=H.lt;have FY:=AY π.p wb;have BO:=AY bd' wb;have cy:=AY π.bn wb;have aY:=AY π.bi wb;have cx:=AY π.bc wb;have cn:=QH.nx;have Xc:Kp [π.p] kH (St.set kH π.p (.cells [.ptr π.a 0,.ptr r' 0,I M.first,I M.aE,.map bd',.map f.nx,I M.m.root,I M.m.used,I M.m.head,I M.m.free,I M.m.root,I M.m.used,I M.m.head,I M.m.free,.map π.bi,.map (f.nx+1)] 158 false)):=(Kp.refl _ kH).set _ (.inl wb) uM;have b9:(St.set kH π.p (.cells [.ptr π.a 0,.ptr r' 0,I M.first,I M.aE,.map bd',.map f.nx,I M.m.root,I M.m.used,I M.m.head,I M.m.free,I M.m.root,I M.m.used,I M.m.head,I M.m.free,.map π.bi,.map (f.nx+1)] 158 false)).m.g π.p=some (.cells [.ptr π.a 0,.ptr r' 0,I M.first,I M.aE,.map bd',.map f.nx,I M.m.root,I M.m.used,I M.m.head,I M.m.free,I M.m.root,I M.m.used,I M.m.head,I M.m.free,.map π.bi,.map (f.nx+1)] 158 false):=an _ _ _;have cm:(St.set kH π.p (.cells [.ptr π.a 0,.ptr r' 0,I M.first,I M.aE,.map bd',.map f.nx,I M.m.root,I M.m.used,I M.m.head,I M.m.free,I M.m.root,I M.m.used,I M.m.head,I M.m.free,.map π.bi,.map (f.nx+1)] 158 false)).nx=kH.nx:=rfl;generalize St.set kH π.p (.cells [.ptr π.a 0,.ptr r' 0,I M.first,I M.aE,.map bd',.map f.nx,I M.m.root,I M.m.used,I M.m.head,I M.m.free,I M.m.root,I M.m.used,I M.m.head,I M.m.free,.map π.bi,.map (f.nx+1)] 158 false)=gH at*;have Yl:=(QH.mono wb).trans Xc afk;have MP:Kp [π.p,bd'] iV gH:=(Ym.mono wb).trans Yl wb;have XI:=w3.mono (Yl.keep bd' uM (by simp;exact aIG v1));have b5:dd gH π.bi (uz M.idle):=H.idle.mono (MP.keep π.bi aY (by simp;exact⟨aIG v3,aIG v6⟩));have bL:=z1.mono (Xc.keep f.nx uM zS);have bM:=z2.mono (Xc.keep (f.nx+1) uM zS)
  have XJ:∀n,cZ (ix (oN nw M.now) 0 (bO M.m)) n=cZ (cU [] (Y++[l])) n:=λn=>by
   rw[qB,Nl,rn,CW l _ n (by rw[<-hl,ng];exact Vu),Xy,<-c.dir]
   by_cases C:n=0
   .rw[aHP C,aHP C];rfl
   .rw[aHM C,aHM C]
  have HK:=f3.trans ((congrArg List.length c.wrote.aq).trans W);have Xq:=Xt.rep;rw[HK]at Xq
  have b7:=(Xq.congr (M':=⟨M.first,M.aE,ix (oN nw M.now) 0 (bO M.m),[],M.m,M.m,G.fr,[]⟩) (D':=O.flush.2) (λn _=>by
   rw[gN];show(kU M.first M.aE (ix (oN nw M.now) 0 (bO M.m)) M.m G.fr).get _ n=_;rw[gN,XJ,RI]) H0 rfl rfl rfl rfl RI rfl).YL M.idle i.idle i.yR
  have cB:∀b∈F3,(b∈D'.aq.map (λ_=>0)\/True)->b∈F'\/eP.nx<=b:=λb d _=>Bb b d;have Kq:=c.nG.lt
  have aA:∀b∈F3,b∉[π.p,bd',π.bi]/\b<iV.nx:=λb d=>by
   refine⟨λhh=>?_,Fl.lt b d⟩;rcases Bb b d with h1|h1
   .exact c.MF b h1 (by simp at hh⊢;rcases hh with hh|hh|hh<;>simp[hh])
   .have h2:b<eP.nx:=by
     simp only[aHJ,aIo,aJj]at hh;rcases hh with hh|hh|hh
     .rw[hh];exact Kq _ wb
     .rw[hh];exact Kq _ wb
     .rw[hh];exact Kq _ wb
    omega
  have cE:=L9.1;have J:=c.rP;simp only[aHJ,aIo,aJj,aJf]at J;have Vf:=L9.keep MP (by simp;exact⟨J.1,J.2.1⟩);have bs:=Fl.keep MP λb d hh=>(aA b d).1 (by simp at hh⊢;rcases hh with hh|hh<;>simp[hh]);have bu:=iW (by rw[<-lA];exact XI.nd)
  have bX:∀e∈ix (oN nw M.now) 0 (bO M.m),e.1<M.aE/\e.2.length=512:=λe w=>by
   rcases GR w with h1|h1
   .unfold oN at h1;rcases aHT.1 h1 with h2|h2
    .exact c.og e (aIR.1 h2).1
    .exact QZ e h2
   .rw[h1];exact⟨by have:=i.aE;have:=i.ok.one;show 0<M.aE;omega,il _⟩
  have cI:=E.nx;refine .inr (.inl ⟨rfl,⟨π.p,π.a,.ptr r' 0,bd',f.nx,π.bi,f.nx+1,F3,O.flush.2,ix (oN nw M.now) 0 (bO M.m),M.m,1+π.D.aq.length/4⟩,r,rfl,rfl,⟨⟨M.first,M.aE,ix (oN nw M.now) 0 (bO M.m),[],M.m,M.m,M.idle,[]⟩,⟨b9,XI,bL,b5,bM,?_,?_,⟨rfl,rfl,rfl⟩⟩,b7,bs,f2.dead,λb d hh=>?_,rfl,rfl,RI⟩,⟨⟨base',last'+bf (dL l).length,_,Y++[l],r',Xt,by have:=c.T;omega,rfl,?_,?_,XJ⟩,by show 1+π.D.aq.length/4=1+(O.flush.2).aq.length/4;rw[HK],λe w=>?_,bu⟩,BM,⟨r',rfl,c.rN.imp id λh=>uM⟩,?_,λb d=>?_,HK,(f6.trans c.wrote.set).trans c.set⟩)
  .simp only[aHX,aHJ,aIo,aJj,aJf];exact⟨⟨v1,uM,v3,uM⟩,⟨uM,v6,uM⟩,⟨uM,uM⟩,uM,not_false,aJQ⟩
  .intro b d;simp at d;omega
  .have h1:=aA b d;simp only[aHJ,aIo,aJj,aJf]at hh h1;rcases hh with hh|hh|hh|hh|hh
   .exact h1.1.1 hh
   .exact h1.1.2.1 hh
   .omega
   .exact h1.1.2.2 hh
   .omega
  .show fL gH r' π.a ⟨1,(O.flush.2).aq.length/4,base',_,_⟩;rw[HK,<-W];exact Vf
  .unfold PI.all;simp only[aHJ,aJf];refine⟨J.1,J.2.1,uM,J.2.2.2.1,uM,λhh=>?_⟩;rcases Bb r' hh with h1|h1
   .exact c.rF h1
   .have:=c.ring.1;omega
  .show e.1<(O.flush.2).aq.length-1-(O.flush.2).aq.length/4/\_;rw[HK,<-H0];exact bX e w
  .have q1:Kp (r::π.all) st v:=E.mono (by intro q y;left;simp at y;subst y;unfold PI.all;simp);have q2:=q1.trans c.kp afk
   have q3:=q2.trans mM λq y=>by
    rcases c.FN q y with h1|h1
    .left;simp[PI.l6 h1]
    .right;omega
   exact q3.trans MP λq y=>by
    simp only[aHJ,aIo,aJj]at y;rcases y with y|y
    .left;rw[y];unfold PI.all;simp
    .rcases c.bdN with h1|h1
     .left;rw[y,h1];unfold PI.all;simp
     .right;omega
  .unfold PI.all at d;simp only[aHJ]at d;rcases d with d|d|d|d|d|d
   .left;rw[d];unfold PI.all;simp
   .rcases c.bdN with h1|h1
    .left;rw[d,h1];unfold PI.all;simp
    .right;omega
   .right;omega
   .left;rw[d];unfold PI.all;simp
   .right;omega
   .rcases Bb b d with h1|h1
    .rcases c.FN b h1 with h2|h2
     .left;exact PI.l6 h2
     .right;omega
    .right;omega
end
end
section
variable {st st':St} {p a:Nat} {lg:CV} {M:bR} {bd bn bi bc:Nat} {F:List Nat} {D:aU}
def ajf (st:St)(v:CV)(st':St):Prop:=((∃T:iT,T.length=512/\v=.tuple [.agg (ai T),I 0])\/v=.tuple [.agg (zr 512),I 20])/\Kp [] st st'
def CX (h:bZ st p a lg M bd bn bi bc)(w:cQ st a F D)(B:D.dead=true){n:Nat}(X:M.first+n<=10000000000)(C:∀e∈M.dirty,e.2.length=512)(o:M.now=[]):
 R 123 [.ptr p 0,I n] st (ajf st):=by
 refine bK ?_;rw[adV];have E:=(show D.aq.length<=65536 from by obtain⟨_,_,_,_,_,_,_,h⟩:=w;exact h.size);have u:Kp [] st (St.new st (.cells (zr 512) 173 false)):=(Kp.refl [] st).new _;have g1:(St.new st (.cells (zr 512) 173 false)).m.g st.nx=some (.cells (zr 512) 173 false):=au _ _;have W:(St.new st (.cells (zr 512) 173 false)).nx=st.nx+1:=rfl;rw[cz,aP];generalize St.new st (.cells (zr 512) 173 false)=s1 at*;have h1:=h.keep u wb;have q:=IsMap.lookup (.inl h1.now) (.agg (zr 512)) true n s1 rfl;rw[aHP rfl,qx]at q;simp only[eQ,bj,ah,af,az,h1.main,ar,aHN,aHI,aHG,aw,q,aD,aI]
 have k:∀(s:St) (T:iT),T.length=512->Kp [] st s->s.m.g st.nx=some (.cells (zr 512) 173 false)->st.nx<s.nx->
  upon (aQ 512 (.ptr st.nx 0) (.agg (ai T)) s) λ_ s4=>us (aJ 512 (.ptr st.nx 0) s4) λA=>ajf st (.tuple [A,I 0]) s4:=by
  intro s T hT H J i;rw[aH,J,aS,aT,EJ T hT];have b:(ai T).length=512:=abn
  refine⟨⟨b,bu _,acE⟩,?_⟩;rw[aM (n:=512) (an s st.nx (.cells (ai T) 173 false)) b,af];exact⟨.inl ⟨T,hT,rfl⟩,H.set _ (.inr (aHK _)) i⟩
 cases hp:cZ M.now n with
 |some T=>rw[o]at hp;cases hp
 |none=>
  simp only[aKE,Option.getD_none,aKk];refine gW jJ vh ?_;have f:=u.page (zr 512);have g3:(St.set (St.new s1 (.cells (zr 512) 173 false)) s1.nx (.cells (zr 512) 173 false)).m.g st.nx=some (.cells (zr 512) 173 false):=aau
  have V:(St.set (St.new s1 (.cells (zr 512) 173 false)) s1.nx (.cells (zr 512) 173 false)).nx=s1.nx+1:=rfl;generalize St.set (St.new s1 (.cells (zr 512) 173 false)) s1.nx (.cells (zr 512) 173 false)=s3 at*;have y:=h.keep f wb;have z:=IsMap.lookup y.dirty (.agg (zr 512)) true n s3 rfl;rw[aHP rfl,qx]at z;simp only[ag,aHH,aHV,af,y.main,ar,aHI,aHG,aw,z,aD,aI];cases G:cZ M.dirty n with
  |some T=>
   have hT:T.length=512:=C _ (Au G);have b:(ai T).length=512:=abn
   simp only[aIZ,aJg,aKj];refine gW b (bu _) ?_;rw[aHP trivial,aM (n:=512) (an (St.new s3 (.cells (zr 512) 173 false)) s3.nx (.cells (ai T) 173 false)) b,af];exact k _ T hT (f.page _) Yu zS
  |none=>
   simp only[aKE,Option.getD_none,aKk];refine gW jJ vh ?_;have d:=f.page (zr 512);have L:(St.set (St.new s3 (.cells (zr 512) 173 false)) s3.nx (.cells (zr 512) 173 false)).m.g st.nx=some (.cells (zr 512) 173 false):=Yu
   have U:(St.set (St.new s3 (.cells (zr 512) 173 false)) s3.nx (.cells (zr 512) 173 false)).nx=s3.nx+1:=rfl;generalize St.set (St.new s3 (.cells (zr 512) 173 false)) s3.nx (.cells (zr 512) 173 false)=r at*;have K:=h.keep d wb;have P:=w.keep d wb;have Q:aj .add none false (I M.first) (I n) r=.ok (I ((M.first+n:Nat):Int)) r:=F7
   simp only[aHH,aHV,bD,af,K.main,ar,aHI,aHG,aw,Q];refine(wA P ((M.first+n:Nat):Int)).mono ?_;intro x c v
   have N:D.read ((M.first+n:Nat):Int)=(20,[]):=by
    unfold aU.read;rw[aHP B]
   rw[N,aHM xI]at v;obtain⟨rfl,O⟩:=v;have l:=O;subst l;have S:aj .neq (some .int) true (I 20) (.int .i64 0) c=.ok (.bool true) c:=rfl;have j:aZ (zr 512) [] c=.ok (.agg (zr 512)) c:=rfl;simp only[aD,aI,af,S,ag,aIj,j];refine⟨⟨afp,afp,afp⟩,afp,?_⟩;rw[aH,L,aS,aT,Qg];refine⟨⟨jJ,vh,acE⟩,?_⟩;rw[aM (n:=512) (an _ _ _) jJ,af];exact⟨.inr rfl,d.set _ (.inr (aHK _)) uM⟩
set_option maxHeartbeats 1000000 in
def KW (h:bZ st p a lg M bd bn bi bc)(hd:cQ st a F D)(nj:D.dead=true)(hF:∀b∈F,b≠p)(hw:∀e∈M.dirty,e.2.length=512)(aO:M.first+M.aE<=1000000):R 75 [.ptr p 0] st λv st'=>Kp [p] st st':=by
 refine bK ?_;rw[w75];have aC:=(show D.aq.length<=65536 from by obtain⟨_,_,_,_,_,_,_,h⟩:=hd;exact h.size);rw[cc,af,ag,aHM xI,fV,aP,fV,aP,fV,aP];have w:(St.new st (.map [] 0)).nx=st.nx+1:=rfl;have u:(St.new (St.new st (.map [] 0)) (.map [] 0)).nx=st.nx+2:=rfl;have r:(St.new (St.new (St.new st (.map [] 0)) (.map [] 0)) (.map [] 0)).nx=st.nx+3:=rfl;rw[w,u];have Z:Kp [] st (St.new (St.new (St.new st (.map [] 0)) (.map [] 0)) (.map [] 0)):=(((Kp.refl [] st).new _).new _).new _;have m1:dd (St.new (St.new (St.new st (.map [] 0)) (.map [] 0)) (.map [] 0)) st.nx []:=(dd.new st).mono acM;have m2:dd (St.new (St.new (St.new st (.map [] 0)) (.map [] 0)) (.map [] 0)) (st.nx+1) []:=(dd.new (St.new st (.map [] 0))).mono aci;have m3:dd (St.new (St.new (St.new st (.map [] 0)) (.map [] 0)) (.map [] 0)) (st.nx+2) []:=dd.new (St.new (St.new st (.map [] 0)) (.map [] 0));generalize St.new (St.new (St.new st (.map [] 0)) (.map [] 0)) (.map [] 0)=s3 at*;have aa:=h.lt p wb;have aA:=h.lt bd wb;have nd:=h.nd;simp only[aHX,aHJ,aIo,aJj,aJf]at nd;have g3:=(Z.keep p aa wb).trans h.main;have qf:bz [.ptr a 0,lg,I M.first,I M.aE,.map bd,.map bn,I M.kept.root,I M.kept.used,I M.kept.head,I M.kept.free,I M.m.root,I M.m.used,I M.m.head,I M.m.free,.map bi,.map bc] 5 [.map st.nx]=[.ptr a 0,lg,I M.first,I M.aE,.map bd,.map st.nx,I M.kept.root,I M.kept.used,I M.kept.head,I M.kept.free,I M.m.root,I M.m.used,I M.m.head,I M.m.free,.map bi,.map bc]:=rfl
 have kJ:bz [.ptr a 0,lg,I M.first,I M.aE,.map bd,.map st.nx,I M.kept.root,I M.kept.used,I M.kept.head,I M.kept.free,I M.m.root,I M.m.used,I M.m.head,I M.m.free,.map bi,.map bc] 15 [.map (st.nx+1)]=[.ptr a 0,lg,I M.first,I M.aE,.map bd,.map st.nx,I M.kept.root,I M.kept.used,I M.kept.head,I M.kept.free,I M.m.root,I M.m.used,I M.m.head,I M.m.free,.map bi,.map (st.nx+1)]:=rfl;have AZ:bz [.ptr a 0,lg,I M.first,I M.aE,.map bd,.map st.nx,I M.kept.root,I M.kept.used,I M.kept.head,I M.kept.free,I M.m.root,I M.m.used,I M.m.head,I M.m.free,.map bi,.map (st.nx+1)] 14 [.map (st.nx+2)]=[.ptr a 0,lg,I M.first,I M.aE,.map bd,.map st.nx,I M.kept.root,I M.kept.used,I M.kept.head,I M.kept.free,I M.m.root,I M.m.used,I M.m.head,I M.m.free,.map (st.nx+2),.map (st.nx+1)]:=rfl
 have W:∀{s:St} {l:List CV} {x:CV} {o:Nat} {K:St->Prop},s.m.g p=some (.cells l 158 false)->x.cK=[x]->cF x=true->o<l.length->K (St.set s p (.cells (bz l o [x]) 158 false))->mc 1 o (.ptr p 0) x s K:=by
  intro s l x o K L O h2 h3 N;simp only[mc,bj,ah,af,aH,L,aS,O,aHN];exact⟨⟨rfl,adb,h3⟩,N⟩
 refine W g3 rfl rfl (by decide:(5:Nat)<16) ?_;refine W (an _ _ _) rfl rfl (by rw[qf];exact(by decide:(15:Nat)<16)) ?_;rw[qf,set_set];refine W (an _ _ _) rfl rfl (by rw[kJ];exact(by decide:(14:Nat)<16)) ?_;rw[kJ,set_set,AZ]
 have Tz:bZ (St.set s3 p (.cells [.ptr a 0,lg,I M.first,I M.aE,.map bd,.map st.nx,I M.kept.root,I M.kept.used,I M.kept.head,I M.kept.free,I M.m.root,I M.m.used,I M.m.head,I M.m.free,.map (st.nx+2),.map (st.nx+1)] 158 false)) p a lg {M with now:=[],idle:=[],count:=[]} bd st.nx (st.nx+2) (st.nx+1):=
  ⟨an _ _ _,h.dirty.mono ((ak _ _ _ _ (aIG nd.1.1)).trans (Z.keep bd aA wb)),m1.mono (ak _ _ _ _ uM),m3.mono (ak _ _ _ _ uM),m2.mono (ak _ _ _ _ uM),by
   simp only[aHX,aHJ,aIo,aJj,aJf];refine⟨⟨nd.1.1,uM,uM,uM⟩,⟨uM,uM,uM⟩,⟨uM,uM⟩,uM,not_false,aJQ⟩,by
   intro b hb;simp at hb;show b<s3.nx;omega,h.lgs⟩
 have Y:Kp [p] st (St.set s3 p (.cells [.ptr a 0,lg,I M.first,I M.aE,.map bd,.map st.nx,I M.kept.root,I M.kept.used,I M.kept.head,I M.kept.free,I M.m.root,I M.m.used,I M.m.head,I M.m.free,.map (st.nx+2),.map (st.nx+1)] 158 false)):=(Z.mono wb).set _ (.inl wb) uM;have n6:(St.set s3 p (.cells [.ptr a 0,lg,I M.first,I M.aE,.map bd,.map st.nx,I M.kept.root,I M.kept.used,I M.kept.head,I M.kept.free,I M.m.root,I M.m.used,I M.m.head,I M.m.free,.map (st.nx+2),.map (st.nx+1)] 158 false)).nx=st.nx+3:=r;generalize St.set s3 p (.cells [.ptr a 0,lg,I M.first,I M.aE,.map bd,.map st.nx,I M.kept.root,I M.kept.used,I M.kept.head,I M.kept.free,I M.m.root,I M.m.used,I M.m.head,I M.m.free,.map (st.nx+2),.map (st.nx+1)] 158 false)=s6 at*;have V:=hd.keep Y λb hb=>adh
 have e2:∀s,aj .neq (some .int) true (I 0) (.int .i64 0) s=.ok (.bool false) s:=λs=>rfl;have Je:∀s,aj .neq (some .int) true (I 20) (.int .i64 0) s=.ok (.bool true) s:=λs=>rfl;refine(CX Tz V nj (n:=0) (by show M.first+0<=_;omega) hw rfl).mono ?_;rintro _ H ⟨⟨T,hT,rfl⟩|rfl,k7⟩
 rotate_left
 .rw[aD,af,aI,aD,af];refine gW jJ vh ?_;rw[Je,af,ag,aHP rfl];exact Y.trans (k7.page (zr 512)) wb
 rw[aD,af,aI,aD,af];have vP:(ai T).length=512:=abn
 refine gW vP (bu _) ?_;have k9:=k7.page (ai T);have g9:(St.set (St.new H (.cells (zr 512) 173 false)) H.nx (.cells (ai T) 173 false)).m.g H.nx=some (.cells (ai T) 173 false):=an _ _ _;generalize St.set (St.new H (.cells (zr 512) 173 false)) H.nx (.cells (ai T) 173 false)=s9 at*;rw[e2,af,ag,aHM xI,aM (n:=512) g9 vP,af];refine(WN hT).mono ?_;rintro _ d ⟨rfl,oq⟩;generalize Th T=m';have Kf:=k9.trans oq wb;have j:=Tz.keep Kf wb;have KB:=V.keep Kf wb;have ax:=j.main
 have au:∀{s:St} {w u r G E C B A:CV} {K:St->Prop},s.m.g p=some (.cells [.ptr a 0,lg,I M.first,I M.aE,.map bd,.map st.nx,w,u,r,G,E,C,B,A,.map (st.nx+2),.map (st.nx+1)] 158 false)->K (St.set s p (.cells [.ptr a 0,lg,I M.first,I M.aE,.map bd,.map st.nx,w,u,r,G,I m'.root,I m'.used,I m'.head,I m'.free,.map (st.nx+2),.map (st.nx+1)] 158 false))->mc 4 10 (.ptr p 0) (.agg [I m'.root,I m'.used,I m'.head,I m'.free]) s K:=by
  intro s w u r G E C B A K L N;simp only[mc,bj,ah,af,aH,L,aS,aT,aHN];exact⟨⟨rfl,rfl,wb⟩,N⟩
 refine au ax ?_;rw[show zx 4 10 (.ptr p 0) (St.set d p (.cells [.ptr a 0,lg,I M.first,I M.aE,.map bd,.map st.nx,I M.kept.root,I M.kept.used,I M.kept.head,I M.kept.free,I m'.root,I m'.used,I m'.head,I m'.free,.map (st.nx+2),.map (st.nx+1)] 158 false))=λK=>us (dJ (.ptr p 0) (St.set d p (.cells [.ptr a 0,lg,I M.first,I M.aE,.map bd,.map st.nx,I M.kept.root,I M.kept.used,I M.kept.head,I M.kept.free,I m'.root,I m'.used,I m'.head,I m'.free,.map (st.nx+2),.map (st.nx+1)] 158 false))) λp'=>us (al 10 p' _) λa'=>us (aJ 4 a' _) K from rfl];simp only[bj,af,ah,aHN];rw[gL (n:=4) (an _ _ _) wb,af]
 have Rh:∀{s:St} {w u r G E C B A:CV} {K:St->Prop},s.m.g p=some (.cells [.ptr a 0,lg,I M.first,I M.aE,.map bd,.map st.nx,w,u,r,G,E,C,B,A,.map (st.nx+2),.map (st.nx+1)] 158 false)->K (St.set s p (.cells [.ptr a 0,lg,I M.first,I M.aE,.map bd,.map st.nx,I m'.root,I m'.used,I m'.head,I m'.free,E,C,B,A,.map (st.nx+2),.map (st.nx+1)] 158 false))->mc 4 6 (.ptr p 0) (.agg [I m'.root,I m'.used,I m'.head,I m'.free]) s K:=by
  intro s w u r G E C B A K L N;simp only[mc,bj,ah,af,aH,L,aS,aT,aHN];exact⟨⟨rfl,rfl,wb⟩,N⟩
 refine Rh (an _ _ _) ?_;rw[set_set];have ZW:=j.lt p wb;have Ke:Kp [p] s6 (St.set d p (.cells [.ptr a 0,lg,I M.first,I M.aE,.map bd,.map st.nx,I m'.root,I m'.used,I m'.head,I m'.free,I m'.root,I m'.used,I m'.head,I m'.free,.map (st.nx+2),.map (st.nx+1)] 158 false)):=(Kf.mono wb).set _ (.inl wb) ZW
 have Cv:bZ (St.set d p (.cells [.ptr a 0,lg,I M.first,I M.aE,.map bd,.map st.nx,I m'.root,I m'.used,I m'.head,I m'.free,I m'.root,I m'.used,I m'.head,I m'.free,.map (st.nx+2),.map (st.nx+1)] 158 false)) p a lg (M.clean m' []) bd st.nx (st.nx+2) (st.nx+1):=by
  have Q:=j.nd;simp only[aHX,aHJ,aIo,aJj,aJf]at Q;exact⟨an _ _ _,j.dirty.mono (ak _ _ _ _ (aIG Q.1.1)),j.now.mono (ak _ _ _ _ (aIG Q.1.2.1)),j.idle.mono (ak _ _ _ _ (aIG Q.1.2.2.1)),j.count.mono (ak _ _ _ _ (aIG Q.1.2.2.2)),j.nd,j.lt,h.lgs⟩
 generalize St.set d p (.cells [.ptr a 0,lg,I M.first,I M.aE,.map bd,.map st.nx,I m'.root,I m'.used,I m'.head,I m'.free,I m'.root,I m'.used,I m'.head,I m'.free,.map (st.nx+2),.map (st.nx+1)] 158 false)=bV at*;have NY:=V.keep Ke λb hb=>adh
 have S:=Y.trans Ke wb;have LI:=Ke.nx;have NT:=Cv.main;rw[cM];simp only[sy,bj,ah,af,az,NT,ar,aHN,Nat.reduceAdd,aHI,aHG,aw,aK,aL];refine bG (λfu vs s=>∃(done:List Nat) (n:Nat),done.Nodup/\(∀x∈done,x<M.aE)/\fu+done.length=M.aE/\vs=[.ptr p 0,I n]/\Kp [st.nx+2] bV s/\bZ s p a lg (M.clean m' done) bd st.nx (st.nx+2) (st.nx+1)) ?_ (n:=M.aE) ⟨[],m'.head,aJQ,wb,wb,rfl,Kp.refl _ _,Cv⟩;rintro fu vs s k ⟨done,n,jm,ac,aN,rfl,hk,f⟩ next;simp only[aK,aL];have mC:=hk.nx;have z:∀{s':St},Kp [] s s'->Kp [p] st s':=λk'=>(S.trans hk (by intro q hq;simp at hq;right;omega)).trans k' wb
 by_cases ab:n=0
 .subst ab;rw[show aj .neq (some .int) true (I ((0:Nat):Int)) (.int .i64 0) s=.ok (.bool false) s from rfl,af,ag,aHM xI];exact z (Kp.refl _ _)
 .have e3:aj .neq (some .int) true (I n) (.int .i64 0) s=.ok (.bool true) s:=by
   rw[av,ff,aHL uM];rfl
  have e4:aj .lss none true (I n) (.int .i64 0) s=.ok (.bool false) s:=by
   rw[av,c8,aHL uM]
  have e5:aj .geq none false (I n) (I M.aE) s=.ok (.bool (decide (M.aE<=n))) s:=by
   rw[av,qE];congr 2;simp only[aIi];omega
  have A2:=f.main;have hl:=IsMap.lookup (.inl f.idle) (.bool false) false n s rfl;rw[aHM xI,Ad]at hl;have NS:s.m.g p=some (.cells [.ptr a 0,lg,I M.first,I M.aE,.map bd,.map st.nx,I m'.root,I m'.used,I m'.head,I m'.free,I m'.root,I m'.used,I m'.head,I m'.free,.map (st.nx+2),.map (st.nx+1)] 158 false):=A2;rw[e3,af,ag,aHP rfl,e4,af];simp only[aG,aHH,aHV,aHY,ba,af,jV,bj,ah,az,NS,ar,aHN,aHI,aHG,aw,e5,aF]
  by_cases px:M.aE<=n
  .simp only[aHQ px,aIb,bU,af,ag,aIj];exact z (Kp.refl _ _)
  .simp only[aHL px,aHY,ba,af,bj,ah,aHN,az,NS,ar,aHI,aHG,aw,aHH,aHV]
   by_cases U:n∈done
   .rw[aHP (show n∈(M.clean m' done).idle from U)]at hl;rw[show gj .int (.bool false) false (.map (st.nx+2)) (I n) s=.ok (.bool true) s from hl,af,ag,aHP rfl];exact z (Kp.refl _ _)
   .rw[aHM (show¬n∈(M.clean m' done).idle from U)]at hl;rw[show gj .int (.bool false) false (.map (st.nx+2)) (I n) s=.ok (.bool false) s from hl,af,ag,aHM xI];obtain⟨blk,u1,u2,u3⟩:=IsMap.update (.inl f.idle) n (.bool true);have u4:=u3 f.idle;rw[wx,show(M.clean m' done).idle=done from rfl,Gr U]at u4;simp only[eQ,bj,ah,af,az,NS,ar,aHN,aHI,aHG,aw];rw[show dG .int (.map (st.nx+2)) (I n) (.bool true) s=.ok .undef (St.set s (st.nx+2) blk)from u1,aP];have Fb:=f.lt (st.nx+2) wb;have J:=f.nd;simp only[aHX,aHJ,aIo,aJj,aJf]at J
    have rI:bZ (St.set s (st.nx+2) blk) p a lg (M.clean m' (done++[n])) bd st.nx (st.nx+2) (st.nx+1):=
     ⟨(ak _ _ _ _ J.1.2.2.1).trans A2,f.dirty.mono (ak _ _ _ _ J.2.1.2.1),f.now.mono (ak _ _ _ _ J.2.2.1.1),u4,f.count.mono (ak _ _ _ _ (aIG J.2.2.2.1)),f.nd,f.lt,h.lgs⟩
    have X:Kp [st.nx+2] bV (St.set s (st.nx+2) blk):=hk.set _ (.inl wb) Fb;generalize St.set s (st.nx+2) blk=iV at*;have am:∀b∈F,b∉[st.nx+2]:=λb hb=>by have:=hd.lt b hb;simp;omega
    have Fl:=NY.keep X am;have ap:∀{s':St},Kp [] iV s'->Kp [p] st s':=λk'=>(S.trans X (by intro q hq;simp at hq;right;omega)).trans k' wb;refine(CX rI Fl nj (n:=n) (by show M.first+n<=_;omega) hw rfl).mono ?_;rintro _ c ⟨⟨i,ao,rfl⟩|rfl,yj⟩
    rotate_left
    .rw[aD,af,aI,aD,af];refine gW jJ vh ?_;rw[Je,af,ag,aHP rfl];exact ap (yj.page (zr 512))
    .rw[aD,af,aI,aD,af];have ay:(ai i).length=512:=by simpa using ao
     refine gW ay (bu _) ?_;have NI:=yj.page (ai i);have RV:(St.set (St.new c (.cells (zr 512) 173 false)) c.nx (.cells (ai i) 173 false)).m.g c.nx=some (.cells (ai i) 173 false):=an _ _ _;have aB:(St.set (St.new c (.cells (zr 512) 173 false)) c.nx (.cells (ai i) 173 false)).nx=c.nx+1:=rfl;generalize St.set (St.new c (.cells (zr 512) 173 false)) c.nx (.cells (ai i) 173 false)=fv at*;have zH:bT 512 1 (.ptr c.nx 0) none (some (.int .i64 4)) fv=.ok (.slice c.nx 0 4 512 0) fv:=rfl;rw[e2,af,ag,aHM xI,zH,af];have xL:ai (i.take 4)=(ai i).take 4:=ack
     have jS:Sl fv [] (.slice c.nx 0 4 512 0) 1 (ai (i.take 4)):=.inr ⟨c.nx,0,4,512,0,rfl,by rw[xL,aHZ];omega,⟨uM,.inl rfl⟩,.inr ⟨wb,uM,_,_,_,RV,uM,by rw[aIn,xL]⟩⟩;have ae:(i.take 4).length<=4:=TP
     refine(qH jS uM (qV _ ae)).same ?_;have uG:(done++[n]).Nodup:=aIE.2 ⟨jm,wb,λx hx y hy e=>U (by simp at hy;rw[<-hy,<-e];exact hx)⟩
     have P:∀x∈done++[n],x<M.aE:=λx hx=>by
      rcases aHT.1 hx with O|O
      .exact ac x O
      .have:x=n:=by simpa using O
       omega
     have ad:=kT M.aE (done++[n]) uG P;rw[aHR,List.length_singleton]at ad;exact next (fu-1) _ _ uM ⟨done++[n],_,uG,P,by rw[aHR,List.length_singleton];omega,rfl,X.trans NI wb,rI.keep NI wb⟩
end
section
variable {G Gk:GM}{c a:Nat}{F:List Nat}{D:aU}
structure gD (τ:Nat)(π:PI)(st:St)(L Lk:List aW)(T N fr:Nat):Prop where
 ex:∃G Gk,Tg τ π st G/\fC G L/\ib π st Gk T/\fC Gk Lk/\G.aE=Gk.aE/\G.cD=fr
 calm:Calm π.D
 len:π.D.aq.length=N
structure nO (c:Nat)(τ:Nat)(π:PI)(st:St)(L Lk:List aW)(T N fr:Nat):Prop where
 ex:∃G Gk,Tg τ π st G/\fC G L/\ib π st Gk T/\fC Gk Lk/\G.aE=Gk.aE/\G.cD=fr/\G.ef.length<=c
 calm:Calm π.D
 len:π.D.aq.length=N
def fC.reset {L:List aW}(h:fC G L):fC G.reset L:=
 ⟨⟨h.ok.one,h.ok.ik,h.ok.size,h.ok.nd,h.ok.fr⟩,h.tree.imp id λ⟨hh,ps,nd,hs⟩=>⟨hh,ps,nd,hs.kept λq b=>⟨id,rfl⟩⟩⟩
def pX (L:List aW)(N T:Nat)(D:aU):Prop:=∃G,fC G L/\Wi G N T D
def own (τ:Nat)(π:PI):List Nat:=τ::((match π.lg with| .ptr r _=>[r]|_=>[])++π.all)
def nD (τ:Nat)(π d:PI)(st st':St):Prop:=Kp (own τ π) st st'/\∀b∈own τ d,b∈own τ π\/st.nx<=b
def kj {τ:Nat}{π:PI}{b:Nat}(h:b∈π.all):b∈own τ π:=by unfold own;simp[h]
def Be {τ:Nat}{π:PI}{st st':St}(h:Kp π.W st st'):nD τ π π st st':=⟨h.mono λq b=>.inl (kj (PI.DK b)),afk⟩
def oY {τ:Nat}{π:PI}{st st':St}(h:Kp [] st st'):nD τ π π st st':=⟨h.mono wb,afk⟩
section
variable {τ:Nat} {π:PI} {st st':St} {L Lk:List aW} {T N fr:Nat}
def ib.log (h:ib π st Gk T):∃r,π.lg=.ptr r 0/\r∉π.all/\r<st.nx:=by
 obtain⟨base,last,P,Ls,r,a,b,c,d,e,f⟩:=h.ex;exact⟨r,c,e,d.1⟩
def ib.QB (h:ib π st Gk T)(b:Kp π.W st st'):ib π st' Gk T:=by
 obtain⟨r,f,d,_⟩:=h.log;refine h.keep b λr' e=>?_;rw[f]at e;cases e;exact λhh=>d (PI.DK hh)
def ib.still (h:ib π st Gk T)(b:Kp [] st st'):ib π st' Gk T:=h.keep b wb
def gD.still (h:gD τ π st L Lk T N fr)(i:Kp [] st st'):gD τ π st' L Lk T N fr:=by
 obtain⟨⟨G,Gk,a,b,c,d,e,e'⟩,f,g⟩:=h;exact⟨⟨G,Gk,a.still i,b,c.still i,d,e,e'⟩,f,g⟩
def PQ (h:fC G L):G.root=0\/G.bW G.root:=by
 rcases h.tree with d|⟨hh,ps,_,b⟩
 .exact .inl d.1
 .obtain⟨n,q,hn,_⟩:=b;exact .inr hn.bW
def SW (τ:Nat)(π:PI)(S:aU->Prop)(st st':St):Prop:=Kp (own τ π) st st'/\π.D.set=true/\∃F' D',cQ st' π.a F' D'/\(∀b∈F',b∈own τ π\/st.nx<=b)/\D'.dead=true/\S D'
def SX (τ:Nat)(π:PI)(S:aU->Prop)(st st':St):Prop:=Kp (own τ π) st st'/\π.D.set=true/\(∃F' D',cQ st' π.a F' D'/\(∀b∈F',b∈own τ π\/st.nx<=b)/\D'.dead=true/\S D'/\Bz π st' F')/\∃ty g,st'.m.g τ=some (.cells [.ptr π.p 0] ty g)
def Gj {S:aU->Prop}(h:SX τ π S st st'):R 59 [.ptr τ 0] st' λ_ s=>SW τ π S st s:=by
 obtain⟨a,b,⟨F,D,c,d,e,f,w,M,A,x,z,B,n,i,m,l⟩,ty,g,o⟩:=h;refine bK ?_;rw[w59,cc,af,ag,aHM xI]
 have r:∀K:CV->Prop,K (.ptr π.p 0)->eQ 0 (.ptr τ 0) st' K:=λK v=>by
  unfold eQ;rw[bj,af,ah,af,az,o,ar];exact v
 refine r _ ?_;refine(KW n c e i m l).mono ?_;intro y s k;exact⟨a.trans k λq j=>.inl (by simp at j;rw[j];exact kj (by unfold PI.all;simp)),b,F,D,c.keep k λb u=>by simpa using i b u,d,e,f⟩
def nO.t2 (h:nO c τ π st L Lk T N fr):gD τ π st L Lk T N fr:=by
 obtain⟨⟨G,Gk,a,b,d,e,f,g,_⟩,i,j⟩:=h;exact⟨⟨G,Gk,a,b,d,e,f,g⟩,i,j⟩
def gD.tc (h:gD τ π st L Lk T N fr):∃c,nO c τ π st L Lk T N fr:=by
 obtain⟨⟨G,Gk,a,b,d,e,f,g⟩,i,j⟩:=h;exact⟨_,⟨G,Gk,a,b,d,e,f,g,aHK _⟩,i,j⟩
def nO.still (h:nO c τ π st L Lk T N fr)(i:Kp [] st st'):nO c τ π st' L Lk T N fr:=by
 obtain⟨⟨G,Gk,a,b,c,d,e⟩,f,g⟩:=h;exact⟨⟨G,Gk,a.still i,b,c.still i,d,e⟩,f,g⟩
def Gi (h:nO c τ π st L Lk T N fr)(U:T<=900000000)(hN:N<=8000):R 40 [.ptr τ 0] st λv st'=>(v=I 3/\Kp [] st st'/\N/8<c)\/(v=I 0/\∃e,e.a=π.a/\nD τ π e st st'/\nO 0 τ e st' L L (T+10000) N fr/\e.D.set=π.D.set)\/(v=I 20/\SX τ π (λD=>pX Lk N (T+10000) D\/pX L N (T+10000) D) st st'):=by
 obtain⟨⟨G,Gk,f,o,w,H,M,Q,Ms⟩,hc,u⟩:=h;refine bK ?_;rw[w40];rw[cc,af,ag,aHM xI];refine f.get' ?_;refine(JR f.pg w f.fr U uM (PQ o) M).mono ?_
 have A:∀r,π.lg=.ptr r 0->∀q∈r::π.all,q∈own τ π:=λr i q k=>by
  rcases aHJ.1 k with h1|h1
  .unfold own;rw[i];simp[h1]
  .exact kj h1
 have E:∀r,π.lg=.ptr r 0->τ∉r::π.all:=λr i hh=>by
  obtain⟨ty,g,m⟩:=f.get;rcases aHJ.1 hh with hh|hh
  .have hd:=w.ex;obtain⟨_,_,_,_,K,_,_,c,d,_,_⟩:=hd;have:K=r:=by rw[c]at i;cases i;rfl
   rw[this]at d;have h1:=d.2;rw[<-hh,m]at h1;simp at h1
  .exact f.not hh
 rintro v s1 (⟨rfl,j,X⟩|⟨rfl,e,r,W,V,s,B,i,⟨r',y,Z⟩,j,C,l,x⟩|⟨rfl,r,i,j,x,F',D',J,O,p,Y⟩)
 .rw[u]at X;exact .inl ⟨rfl,j,uM⟩
 rotate_left
 .rw[u]at p;refine .inr (.inr ⟨rfl,j.mono λq k=>.inl (A r i q k),x,⟨F',D',J,λb n=>(O b n).imp (λh=>kj (PI.l6 h)) id,?_,p.imp (λh=>⟨Gk,H,h⟩) λh=>⟨G.reset,o.reset,h⟩,Y⟩,?_⟩)
  .rcases p with h1|h1<;>exact h1.1
  .obtain⟨ty,g,m⟩:=f.get;exact⟨ty,g,(j.keep τ f.lt (E r i)).trans m⟩
 .obtain⟨r2,l1,l2,l3⟩:=w.log;obtain⟨ty,g,m⟩:=f.get;have S:r2=r:=by rw[l1]at i;cases i;rfl
  have A0:=E r i
  have z:nD τ π e st s1:=by
   refine⟨j.mono λq k=>.inl (A r i q k),λb n=>?_⟩
   .unfold own at n;rw[y]at n;rcases aHJ.1 n with h1|h1
    .left;unfold own;simp[h1]
    .rcases aHT.1 h1 with h2|h2
     .have h2:b=r':=by simpa using h2
      rcases Z with h3|h3
      .left;unfold own;rw[i];simp[h2,h3]
      .right;omega
     .exact(C b h2).imp kj id
  refine .inr (.inl ⟨rfl,e,V,z,⟨⟨G.reset,G.reset,⟨s,aId f.lt j.nx,λhh=>?_,⟨ty,g,?_⟩,j.fresh f.fr⟩,o.reset,B,o.reset,rfl,Q,aHK _⟩,?_,l.trans u⟩,x⟩)
  .rcases C τ hh with h1|h1
   .exact f.not h1
   .have:=f.lt;omega
  .rw[W];exact(j.keep τ f.lt A0).trans m
  .obtain⟨_,_,_,_,_,P,_⟩:=B.ex;exact P.calm
def abQ (τ:Nat)(π:PI)(L Lk:List aW)(T N fr:Nat)(b v:List UInt8)(st:St)(y:CV)(st':St):Prop:=
 nD τ π π st st'/\(y=I (if 48<b.length\/8192<v.length then 1 else if fr<24+bN v.length then 3 else 0:Nat))/\∃fr',gD τ π st' (if 48<b.length\/8192<v.length then L else if fr<24+bN v.length then L else nt L b v) Lk T N fr'
def aee (h:gD τ π st L Lk T N fr)(d v:List UInt8):R 11 [.ptr τ 0,.str d,.str v] st λy st'=>abQ τ π L Lk T N fr d v st y st':=by
 have i:=h;obtain⟨⟨G,Gk,n,s,q,j,l,rfl⟩,r,p⟩:=h;refine(Lg n s d v).mono ?_;intro y st' b;unfold yA at b;unfold abQ
 by_cases f:48<d.length\/8192<v.length
 .rw[aHP f]at b;rw[aHP f,aHP f];exact⟨oY b.2,b.1,_,i.still b.2⟩
 .rw[aHM f]at b;rw[aHM f,aHM f]
  by_cases e:G.cD<24+bN v.length
  .rw[aHP e]at b;rw[aHP e,aHP e];exact⟨oY b.2,b.1,_,i.still b.2⟩
  .rw[aHM e]at b;rw[aHM e,aHM e];obtain⟨rfl,g,G',k,m,o,_⟩:=b;exact⟨Be g,rfl,_,⟨G',Gk,k,m,q.QB g,j,o.trans l,rfl⟩,r,p⟩
def acf (τ:Nat)(π:PI)(L Lk:List aW)(T N fr:Nat)(b:List UInt8)(st:St)(y:CV)(st':St):Prop:=
 nD τ π π st st'/\(y=if 48<b.length then .tuple [.bool false,I 1]else if fr<24 then .tuple [.bool false,I 3]else .tuple [.bool (iE L b).isSome,I 0])/\∃fr',gD τ π st' (if 48<b.length then L else if fr<24 then L else pz L b) Lk T N fr'
def aek (h:gD τ π st L Lk T N fr)(d:List UInt8):R 41 [.ptr τ 0,.str d] st λy st'=>acf τ π L Lk T N fr d st y st':=by
 have i:=h;obtain⟨⟨G,Gk,n,s,q,j,l,rfl⟩,r,p⟩:=h;refine(Uc n s d).mono ?_;intro y st' b;unfold KZ at b;unfold acf
 by_cases f:48<d.length
 .rw[aHP f]at b;rw[aHP f,aHP f];exact⟨oY b.2,b.1,_,i.still b.2⟩
 .rw[aHM f]at b;rw[aHM f,aHM f]
  by_cases e:G.cD<24
  .rw[aHP e]at b;rw[aHP e,aHP e];exact⟨oY b.2,b.1,_,i.still b.2⟩
  .rw[aHM e]at b;rw[aHM e,aHM e];obtain⟨rfl,g,G',k,m,o⟩:=b;exact⟨Be g,rfl,_,⟨G',Gk,k,m,q.QB g,j,o.trans l,rfl⟩,r,p⟩
def MY (h:gD τ π st L Lk T N fr):R 59 [.ptr τ 0] st λv st'=>v=I 0/\∃i fr',i.a=π.a/\nD τ π i st st'/\gD τ i st' Lk Lk T N fr'/\i.D.set=π.D.set:=by
 obtain⟨⟨G,Gk,j,hL,hk,O,px,rfl⟩,hc,hl⟩:=h;refine bK ?_;rw[w59];rw[cc,af,ag,aHM xI];refine j.get' ?_;obtain⟨M,W,fY,E,Q,o,Y,aa,X⟩:=j.pg;obtain⟨⟨base,last,P,Ls,r,f,Vs,BM,S,Kj,Cu⟩,m,C,rE⟩:=hk
 have H0:M.aE=π.D.aq.length-1-π.D.aq.length/4:=by
  have a1:=fY.aE;have a2:π.D.aq.length-1-π.D.aq.length/4=Gk.aE:=f.rep.aE;omega
 have Z:M.first=1+π.D.aq.length/4:=by rw[X,m]
 have Ic:=f.least
 have k:∀n,({M with now:=[]}:bR).get π.D n=(kU (1+π.D.aq.length/4) (π.D.aq.length-1-π.D.aq.length/4) (cU [] Ls) π.kept Gk.fr).get π.D n:=λn=>by
  rw[gN,<-Cu,<-Y];show(match cZ [] n with|some s=>s|none=>match cZ M.dirty n with|some s=>s|none=>π.D.cur (M.first+n))=_;rw[Z];cases cZ M.dirty n<;>rfl
 have ab:π.D.aq.length-1-π.D.aq.length/4=Gk.aE:=f.rep.aE;have Xw:=f.rep.ok.ik;refine(IM (m':=π.kept) (frs:=Gk.fr) W E Q (λb d e=>o b d ady) ((k 0).trans f.zero) f.WQ uM uM f.rep.head (λn V=>⟨(f.rep.ok.fr n V).1,by have:=(f.rep.ok.fr n V).2;omega⟩) f.rep.ok.nd (f.rep.chain.congr λn _=>k n)).mono ?_;rintro _ s1 ⟨rfl,l,x,w,u,H,y⟩;have yk:=W.lt;have Ob:=E.lt;obtain⟨ty,g,hg⟩:=j.get;have z:τ≠π.p:=λe=>j.not adQ;have A:=j.not;have NM:=j.lt;have B:r≠π.p:=λe=>Kj adQ;have Co:=S.1;have Cr:=y x wb;have Z7:=y w wb;have Z6:=y u wb
 have K:∀b,b∈({π with bn:=x,bi:=w,bc:=u}:PI).all->b∈π.all\/st.nx<=b:=λb d=>by
  unfold PI.all at d⊢;simp only[aHJ]at d⊢;rcases d with d|d|d|d|d|d
  .left;simp[d]
  .left;simp[d]
  .right;omega
  .right;omega
  .right;omega
  .left;simp[d]
 have QU:sC (M.clean π.kept Gk.fr) π.D Gk:=f.rep.congr (λn _=>k n) H0 rfl rfl rfl rfl Z rfl
 have J:nD τ π {π with bn:=x,bi:=w,bc:=u} st s1:=by
  refine⟨l.mono λq U=>.inl (kj (by simp at U;subst U;unfold PI.all;simp)),λb d=>?_⟩;unfold own at d;rcases aHJ.1 d with h1|h1
  .left;unfold own;simp[h1]
  .rcases aHT.1 h1 with h2|h2
   .left;unfold own;exact aIH _ (aJz _ h2)
   .exact(K b h2).imp kj id
 refine⟨rfl,{π with bn:=x,bi:=w,bc:=u},_,rfl,J,⟨⟨Gk,Gk,⟨⟨M.clean π.kept Gk.fr,H,QU,E.keep l λb d hh=>o b d aeG,Q,λb d hh=>?_,Y,rfl,X⟩,aId NM l.nx,λhh=>?_,⟨ty,g,(l.keep τ NM (by simpa using z)).trans hg⟩,l.fresh j.fr⟩,O,⟨⟨base,last,P,Ls,r,f,Vs,BM,S.keep l (by simpa using B),λhh=>?_,Cu⟩,m,C,rE⟩,O,rfl,rfl⟩,hc,hl⟩,rfl⟩
 .have h1:=Ob b d;simp only[aHJ,aIo,aJj]at hh;rcases hh with hh|hh|hh|hh|hh
  .exact o b d adk
  .exact o b d adk
  .omega
  .omega
  .omega
 .rcases K τ hh with h1|h1
  .exact A h1
  .omega
 .rcases K r hh with h1|h1
  .exact Kj h1
  .omega
def FK (a:Nat)(F:List Nat)(Lk:List aW)(T N:Nat)(e:Bool)(st:St)(v:CV)(st':St):Prop:=
 ∃d Gk,v=.tuple [.ptr d.p 0,I 0]/\d.a=a/\Pg d st' Gk/\eA st'/\ib d st' Gk T/\fC Gk Lk/\Calm d.D/\d.D.aq.length=N/\Kp F st st'/\(∀b∈d.all,b∈F\/st.nx<=b)/\(∃r,d.lg=.ptr r 0/\st.nx<=r)/\d.D.set=e
def zL.to {i:Nat}{v:CV}(h:zL a F D Gk i st v st')(o:eA st)(j:fC Gk Lk)(H:i<=T):FK a F Lk T D.aq.length D.set st v st':=by
 obtain⟨b,rfl,r,n,k,g,q,_,m,E,d,p⟩:=h;obtain⟨⟨u,l2,C,f,l,B,I,A,z,y,x⟩,w,e,s⟩:=k;exact⟨b,Gk,rfl,r,n,g.fresh o,⟨⟨u,l2,C,f,l,B,uM,A,z,y,x⟩,w,e,s⟩,j,m,E,g,q,d,p⟩
def Pk (h:gD τ π st L Lk T N fr)(V:T<=900000000):R 23 [.ptr π.a 0] st λv st'=>FK π.a π.Fd Lk T N π.D.set st v st'\/(v=.tuple [.bq,I 20]/\SW τ π (pX Lk N T) st st'):=by
 obtain⟨⟨G,Gk,e,X,x,f,O,rfl⟩,U,j⟩:=h;obtain⟨M,W,Z,y,Q,Y,VK,A,XY⟩:=e.pg;obtain⟨⟨base,last,P,Ls,r,g,E,BM,S,Kj,Cu⟩,u,w,K⟩:=x;refine(LD y e.fr g.calm g.toK uM).mono ?_;rintro v d (B|⟨p,_,rfl,rfl,C,F',D',k,n,i⟩)
 .have:=B.to e.fr f E;rw[j]at this;exact .inl this
 .rw[j]at i;obtain⟨d,s2,b,l,t,P',H,o,m,J⟩:=i;exact .inr ⟨rfl,p.mono λq s=>.inl (kj (PI.l6 s)),C,F',D',k,λb z=>(n b z).imp (λh=>kj (PI.l6 h)) id,d,Gk,f,d,s2,b,l,t,P',H,o,m,uM⟩
def YC (i:pX L N T D)(j:cQ st a F (mH D.aq))(d:eA st)(p:T<=900000000):R 23 [.ptr a 0] st (FK a F L T N false st):=by
 obtain⟨G,k,g,s2,b,l,t,P',q,o,f,e⟩:=i;refine(LD j d ⟨rfl⟩ f.YK uM).mono ?_;rintro v g (m|⟨_,_,_,_,n,_⟩)
 .have:=m.to d k e
  rwa [show(mH D.aq).aq.length=N from s2]at this
 .cases n
end
end
def jh.Og {D:aU}{a:GM}{base last:Nat}{P:Nat->Piece}{Ls:List (List dN)}{kept:iZ}(h:jh D a base last P Ls kept)(i:Int)(keep:List Bool):jh {D with set:=true,left:=i,keep:=keep} a base last P Ls kept:=
 ⟨⟨h.calm.1⟩,h.waits,h.least,h.ik,h.head,h.kQ,h.laid,h.le,h.room,h.og,h.small,h.rep.congr (λ_ _=>rfl) rfl rfl rfl rfl rfl rfl rfl,h.zero,h.root⟩
section
variable {τ:Nat} {π:PI} {st st':St} {L Lk:List aW} {T N fr:Nat}
def gD.Og (h:gD τ π st L Lk T N fr){i:Int}{keep:List Bool}{F':List Nat}(e:Kp π.Fd st st')(F:cQ st' π.a F' {π.D with set:=true,left:=i,keep:=keep})(s:∀b∈F',b∈π.Fd\/st.nx<=b):gD τ {π with D:={π.D with set:=true,left:=i,keep:=keep},Fd:=F'} st' L Lk T N fr:=by
 obtain⟨⟨G,R,d,I,W,w,z,B⟩,H,C⟩:=h;obtain⟨M,q,J,X,m,f,Q,n,K⟩:=d.pg;obtain⟨⟨base,last,P,Ls,r,A,O,V,p,v,S⟩,j,k,y⟩:=W;obtain⟨ty,g,E⟩:=d.get;have o:=d.lt;have x:=q.lt;have U:=p.1
 have u:∀b,b<st.nx->b∉π.all->b∉({π with D:={π.D with set:=true,left:=i,keep:=keep},Fd:=F'}:PI).all:=λb Y c hh=>by
  unfold PI.all at hh c;simp only[aHJ,aJf]at hh c;rcases hh with hh|hh|hh|hh|hh|hh
  .exact c.1 hh
  .exact c.2.1 hh
  .exact c.2.2.1 hh
  .exact c.2.2.2.1 hh
  .exact c.2.2.2.2.1 hh
  .rcases s b hh with h3|h3
   .exact c.2.2.2.2.2 h3
   .omega
 refine⟨⟨G,R,⟨⟨M,q.keep e λb l hh=>f b hh l,J.congr (λ_ _=>rfl) rfl rfl rfl rfl rfl rfl rfl,F,m,λb l hh=>?_,Q,n,K⟩,aId o e.nx,u τ o d.not,⟨ty,g,(e.keep τ o λhh=>d.not (PI.l6 hh)).trans E⟩,e.fresh d.fr⟩,I,⟨⟨base,last,P,Ls,r,A.Og i keep,O,V,p.keep e λhh=>v (PI.l6 hh),u r U v,S⟩,j,k,y⟩,w,z,B⟩,⟨H.1⟩,C⟩;rcases s b l with h3|h3
 .exact f b h3 hh
 .have:=x b hh;omega
def gD.Bj (h:gD τ π st L Lk T N fr):cQ st π.a π.Fd π.D/\π.D.dead=false/\π.D.waits=[]:=by
 obtain⟨⟨G,v,e,p,i,j,k,l⟩,n,m⟩:=h;obtain⟨M,o,q,c,b,g,u,f,s⟩:=e.pg;obtain⟨⟨base,last,P,Ls,r,d,_⟩,_⟩:=i;exact⟨c,b,d.waits⟩
end
section
variable {τ:Nat} {π:PI} {st st':St} {L Lk:List aW} {T N fr c:Nat}
def ib.aug {a:GM}(h:ib π st a T):a.ef=[]:=by
 obtain⟨⟨base,last,P,Ls,r,b,_⟩,_⟩:=h;exact b.rep.ef.symm
def nO.aE {G a:GM}(h:ib π st a T)(e:π.D.aq.length=N)(d:G.aE=a.aE):G.aE=N-1-N/4:=by
 obtain⟨⟨base,last,P,Ls,r,b,_⟩,_⟩:=h;have f:π.D.aq.length-1-π.D.aq.length/4=a.aE:=b.rep.aE;rw[d,<-f,e]
def abP (c τ:Nat)(π:PI)(L Lk:List aW)(T N fr:Nat)(a v:List UInt8)(st:St)(y:CV)(st':St):Prop:=
 nD τ π π st st'/\(y=I (if 48<a.length\/8192<v.length then 1 else if fr<24+bN v.length then 3 else 0:Nat))/\∃fr',nO (c+bN ((iE L a).getD []).length+bN v.length+23) τ π st' (if 48<a.length\/8192<v.length then L else if fr<24+bN v.length then L else nt L a v) Lk T N fr'/\fr<=fr'+(18+bN v.length)
def aed (h:nO c τ π st L Lk T N fr)(A:N<=4000)(d v:List UInt8):R 11 [.ptr τ 0,.str d,.str v] st λy st'=>abP c τ π L Lk T N fr d v st y st':=by
 have B:=h;obtain⟨⟨G,w,p,u,k,m,g,rfl,C⟩,r,j⟩:=h;have hp:=nO.aE k j g
 have b:∀s,Kp [] st s->nO (c+bN ((iE L d).getD []).length+bN v.length+23) τ π s L Lk T N G.cD:=λs q=>
  ⟨⟨G,w,p.still q,u,k.still q,m,g,rfl,uM⟩,r,j⟩
 refine(Lg p u d v).mono ?_;intro y st' a;unfold yA at a;unfold abP
 by_cases f:48<d.length\/8192<v.length
 .rw[aHP f]at a;rw[aHP f,aHP f];exact⟨oY a.2,a.1,_,b _ a.2,aKy _ _⟩
 .rw[aHM f]at a;rw[aHM f,aHM f]
  by_cases e:G.cD<24+bN v.length
  .rw[aHP e]at a;rw[aHP e,aHP e];exact⟨oY a.2,a.1,_,b _ a.2,aKy _ _⟩
  .rw[aHM e]at a;rw[aHM e,aHM e];obtain⟨rfl,o,G',x,z,i,n,l⟩:=a;unfold Uu at n;rw[aHP uM]at n;exact⟨Be o,rfl,_,⟨⟨G',w,x,z,k.QB o,m,i.trans g,rfl,uM⟩,r,j⟩,l⟩
def aei {π:PI}{a:GM}(f:Pg π st a)(i:eA st)(d:ib π st a T)(e:fC a Lk)(j:Calm π.D)(g:π.D.aq.length=N):R 24 [.ptr π.p 0] st λv st'=>∃τ,v=.ptr τ 0/\st.nx<=τ/\Kp [] st st'/\nO 0 τ π st' Lk Lk T N a.cD:=by
 refine(T0 f i).mono ?_;rintro v k ⟨rfl,b,t⟩;exact⟨_,rfl,aHK _,b,⟨a,a,t,e,d.still b,e,rfl,rfl,by rw[d.aug];exact aHK _⟩,j,g⟩
end
