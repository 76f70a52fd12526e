import Derived.Test.YtomffjeofpafnaaGreatDoorBtA
namespace Lim
open Go
noncomputable section
set_option linter.defProp false
set_option maxRecDepth 100000
section
variable {τ:Nat} {π:PI} {st st':St} {G:GM}
def Ey {d:List UInt8}{lo hi:Nat}(b:lo<=hi)(a:hi<=d.length)(s:St):iI (.str d) (some (I lo)) (some (I hi)) s=.ok (.str ((d.drop lo).take (hi-lo))) s:=by
 unfold iI;dsimp only;rw[qT,aHP ⟨b,a⟩]
structure abU (G G':GM)(c:dq)(v:List UInt8)(pc:List Nat):Prop where
 ok:uK G'
 val:Bx G' c v pc
 nd:pc.Nodup
 new:∀x∈pc,¬G.bW x
 kept:∀qs,(∀x∈qs,G.bW x)->Kept G G' qs
 root:G'.root=G.root
 free:G'.cD+bN v.length=G.cD
 aE:G'.aE=G.aE
 ef:G'.ef.length<=G.ef.length+bN v.length
structure abT (τ:Nat)(π:PI)(st:St)(G:GM)(v:List UInt8)(x8:Nat)(j:Nat)(s:St)(G':GM)(LA:List Nat)(qY:Nat):Prop where
 tg:Tg τ π s G'
 g8:s.m.g x8=some (.cells [I qY] 3 false)
 chain:qb G' LA qY (v.drop (j*480))
 len:LA.length+j=(v.length+479)/480
 nd:LA.Nodup
 new:∀x∈LA,¬G.bW x
 kept:∀qs,(∀x∈qs,G.bW x)->Kept G G' qs
 root:G'.root=G.root
 free:G'.cD+LA.length=G.cD
 aE:G'.aE=G.aE
 kp:Kp (x8::π.W) st s
 ef:G'.ef.length<=G.ef.length+LA.length
def Pr (h:Tg τ π st G){f v:List UInt8}(Z:f.length<=48)(hv:v.length<=8192)(hf:bN v.length<=G.cD):R 47 [.ptr τ 0,.str f,.str v] st λx st'=>Kp π.W st st'/\∃c G' pc,x=.tuple [.agg (bg c),I 0]/\c.key=f/\c.ok true/\abU G G' c v pc/\Tg τ π st' G':=by
 refine bK ?_;rw[w47];rw[bS,Gy];refine⟨rfl,?_⟩;have k1:Kp [] st (St.new st (.cells [.ptr τ 0] 27 false)):=(Kp.refl [] st).new _;have g1:(St.new st (.cells [.ptr τ 0] 27 false)).m.g st.nx=some (.cells [.ptr τ 0] 27 false):=au _ _;have n1:(St.new st (.cells [.ptr τ 0] 27 false)).nx=st.nx+1:=rfl;generalize St.new st (.cells [.ptr τ 0] 27 false)=s1 at*;have Y:Kp [] s1 (St.new s1 (.cells [.str [],.str [],.int .i64 0,.int .i64 0] 109 false)):=(Kp.refl [] s1).new _;have g2:(St.new s1 (.cells [.str [],.str [],.int .i64 0,.int .i64 0] 109 false)).m.g s1.nx=some (.cells [.str [],.str [],.int .i64 0,.int .i64 0] 109 false):=au _ _;have n2:(St.new s1 (.cells [.str [],.str [],.int .i64 0,.int .i64 0] 109 false)).nx=s1.nx+1:=rfl;rw[cz,aP];generalize St.new s1 (.cells [.str [],.str [],.int .i64 0,.int .i64 0] 109 false)=s2 at*;have rJ:=(Y.keep st.nx uM wb).trans g1;have H:=k1.trans Y wb;have X:=h.still H;rw[gQ,af];refine(Ew (n:=v.length) uM).same ?_
 by_cases C:v.length<=64
 .have y:bN v.length=0:=by unfold bN;rw[aHP C]
  have O:aj .eql (some .int) true (I (bN v.length)) (.int .i64 0) s2=.ok (.bool true) s2:=by rw[y];rfl
  have J:aZ [.str [],.str [],.int .i64 0,.int .i64 0] [(0,1,.str f),(1,1,.str v)] s2=.ok (.agg (bg ⟨f,v,0,0⟩)) s2:=rfl;have A:bz [.str [],.str [],.int .i64 0,.int .i64 0] 0 (bg ⟨f,v,0,0⟩)=bg ⟨f,v,0,0⟩:=dU _ _ rfl;rw[O,af,ag,aHP rfl,J,af,aH,g2,aS,aT,A];refine⟨⟨rfl,rfl,wb⟩,?_⟩;rw[aM (n:=4) (an _ _ _) rfl,af];have z:Kp [s1.nx] s2 (St.set s2 s1.nx (.cells (bg ⟨f,v,0,0⟩) 109 false)):=(Kp.refl _ s2).set _ (.inl wb) uM;refine⟨(H.mono wb).set _ (.inr uM) uM,⟨f,v,0,0⟩,G,[],rfl,rfl,⟨Z,λh=>(by cases h),λ_ _=>⟨rfl,C⟩,λ_ h=>absurd rfl h⟩,⟨h.pg.X8,.inl ⟨rfl,rfl,rfl⟩,wb,wb,λqs _ q _=>⟨id,rfl⟩,rfl,by rw[y];rfl,rfl,aKy _ _⟩,X.wV z λb u=>?_⟩;simp at u;subst u;exact⟨λhh=>adv,λe=>abx⟩
 .have y:bN v.length=(v.length+479)/480:=by unfold bN;rw[aHM C]
  have O:aj .eql (some .int) true (I (bN v.length)) (.int .i64 0) s2=.ok (.bool false) s2:=Pe
  rw[O,af,ag,aHM xI]
  have QS:∀K:CV->St->Prop,(upon (dp 3 [.int .i64 0] s2) λU s5=>upon (aQ 1 U (.int .i64 0) s5) λ_ s6=>K U s6)=K (.ptr s2.nx 0) (St.new s2 (.cells [I ((0:Nat):Int)] 3 false)):=by
   intro K;have A:bz [.int .i64 0] 0 [.int .i64 0]=[I ((0:Nat):Int)]:=rfl;rw[cz,aP,aH,au,aS,ji,Ei,A];simp
  rw[QS];have z:Kp [] s2 (St.new s2 (.cells [I ((0:Nat):Int)] 3 false)):=(Kp.refl [] s2).new _;have g3:(St.new s2 (.cells [I ((0:Nat):Int)] 3 false)).m.g s2.nx=some (.cells [I ((0:Nat):Int)] 3 false):=au _ _;have n3:(St.new s2 (.cells [I ((0:Nat):Int)] 3 false)).nx=s2.nx+1:=rfl;generalize St.new s2 (.cells [I ((0:Nat):Int)] 3 false)=s3 at*;have lH:=H.trans z wb;have qS:=(z.keep st.nx uM wb).trans rJ;have Ih:=(z.keep s1.nx uM wb).trans g2;have t3:=X.still z;have rH:=h.TH;have F:∀b,st.nx<=b->b∉π.all/\b≠τ:=λb u=>⟨λhh=>acw,λe=>abx⟩;have B:∀b,st.nx<=b->b∉π.W:=λb u hh=>by have:=rH b hh;omega
  rw[lV,af,cM];have N:aj .sub none true (I (bN v.length)) (.int .i64 1) s3=.ok (I ((bN v.length:Int)-1)) s3:=adD
  rw[N,af];simp only[aK,aL];rw[y]
  refine bG (λfu V s=>V=[.str f,.str v,.ptr s1.nx 0,.ptr s2.nx 0,.func (.func 96) [] [.ptr st.nx 0,.ptr s2.nx 0],I ((fu:Int)-1)]/\∃G' LA i,abT τ π s3 G v s2.nx fu s G' LA i) ?_ (n:=(v.length+479)/480)
   ⟨rfl,G,[],0,⟨t3,g3,⟨rfl,aIp uM⟩,wb,wb,wb,λqs _ q _=>⟨id,rfl⟩,rfl,rfl,rfl,Kp.refl _ _,aHK _⟩⟩
  rintro fu V s k ⟨rfl,G',LA,i,a⟩ next;have Ki:=a.kp.nx;have M:=(a.kp.keep st.nx uM (by simp only[aHJ,aJf];exact⟨uM,B _ (aHK _)⟩)).trans qS;have L:=(a.kp.keep s1.nx uM (by simp only[aHJ,aJf];exact⟨uM,B _ uM⟩)).trans Ih;have hlen:=a.len;simp only[aK,aL]
  by_cases hc:0<fu
  .obtain⟨j,rfl⟩:∃j,fu=j+1:=⟨fu-1,uM⟩;have ei:(((j+1:Nat):Int)-1)=((j:Nat):Int):=by omega
   rw[ei];have aa:j*480<v.length:=uM
   have Q:aj .geq none true (I j) (.int .i64 0) s=.ok (.bool true) s:=by rw[av,qE,aHQ uM]
   have a2:aj .mul none true (I j) (.int .i64 480) s=.ok (I ((j*480:Nat):Int)) s:=Ww
   have a3:aj .mul none true (I ((j+1:Nat):Int)) (.int .i64 480) s=.ok (I (((j+1)*480:Nat):Int)) s:=Ww
   have a4:C0 false (I v.length) (I (((j+1)*480:Nat):Int)) s=.ok (I ((min v.length ((j+1)*480):Nat):Int)) s:=by
    have e:C0 false (I v.length) (I (((j+1)*480:Nat):Int)) s=.ok (I (if (((j+1)*480:Nat):Int)<(v.length:Int)then (((j+1)*480:Nat):Int)else (v.length:Int))) s:=rfl;rw[e];congr 2;split<;>omega
   have a5:=Ey (d:=v) (lo:=j*480) (hi:=min v.length ((j+1)*480)) uM uM s
   have VD:(v.drop (j*480)).take (min v.length ((j+1)*480)-j*480)=(v.drop (j*480)).take 480:=by
    by_cases hm:(j+1)*480<=v.length
    .rw[Nat.min_eq_right hm];congr 1;omega
    .rw[aIC uM,aHS aaK,aHS aaK]
   rw[VD]at a5;rw[Q,af,ag,aHP rfl];simp only[a2,af,gQ,gJ j uM,a3,a4,a5,dM,aIm,aIL]
   have A7:0<G'.cD:=by
    have:=a.free;rw[y]at hf;omega
   have Cq:i<=rB:=by
    have w:=a.chain;cases LA with
    |nil=>obtain⟨rfl,_⟩:=w;exact aJL _
    |cons p pr=>obtain⟨rfl,_,r,_⟩:=w;exact sG a.tg.pg.X8 r
   have l:=uq a.tg.pg.X8 A7;refine(Y8 a.tg A7 M a.g8 uM uM (F _ (aHK _)).1 (F _ uM).1 (F _ uM).2 uM (d:=(v.drop (j*480)).take 480) TP Cq).mono ?_;rintro _ D ⟨rfl,E,t9,g9⟩;have e5:aj .neq (some .int) true (I 0) (.int .i64 0) D=.ok (.bool false) D:=rfl;have e6:aj .sub none true (I j) (.int .i64 1) D=.ok (I ((j:Int)-1)) D:=adD
   simp only[e5,af,ag,aHH,aHV,e6];have P:=a.chain.aE;have T:G'.dA∉LA:=λhh=>l.not (P _ hh);have nj:(v.drop (j*480)).drop 480=v.drop ((j+1)*480):=by rw[aKz];congr 1;omega
   refine next j _ _ uM ⟨rfl,G'.alloc.put G'.dA (.dR i ((v.drop (j*480)).take 480)),G'.dA::LA,G'.dA,t9,g9,⟨rfl,?_,(l.bW _).2 (.inr rfl),i,mS _ _ _,Cq,?_⟩,by rw[aIg];omega,aHX.2 ⟨T,a.nd⟩,?_,?_,l.root.trans a.root,?_,l.aE.trans a.aE,a.kp.trans E (afk),by have:=MO G' (.dR i ((v.drop (j*480)).take 480));have:=a.ef;rw[aIg];omega⟩
   .intro e;have:=congrArg List.length e;rw[aIl]at this;simp at this;omega
   .rw[nj];exact a.chain.kept ((vH l T).trans (lZ T))
   .intro x hx;rcases aHJ.1 hx with rfl|hx
    .intro r;have:=((a.kept [G'.dA] (by simpa using r)) G'.dA wb).1 r;exact l.not this
    .exact a.new x hx
   .intro qs ZU;have h1:=a.kept qs ZU;have o:G'.dA∉qs:=λhh=>l.not ((h1 _ hh).1 (ZU _ hh));exact(h1.trans (vH l o)).trans (lZ o)
   .have h1:=l.free;have h2:=a.free;rw[aIg];show G'.alloc.cD+_=_;omega
  .have XH:fu=0:=by omega
   subst XH;have Q:aj .geq none true (I (((0:Nat):Int)-1)) (.int .i64 0) s=.ok (.bool false) s:=rfl;have J:aZ [.str [],.str [],.int .i64 0,.int .i64 0] [(0,1,.str f),(2,1,I i),(3,1,I v.length)] s=.ok (.agg (bg ⟨f,[],i,v.length⟩)) s:=rfl;have A:bz [.str [],.str [],.int .i64 0,.int .i64 0] 0 (bg ⟨f,[],i,v.length⟩)=bg ⟨f,[],i,v.length⟩:=dU _ _ rfl;rw[Q,af,ag,aHM xI,az,a.g8,ar,aHG,aw,gQ,af,J,af,aH,L,aS,aT,A];refine⟨⟨rfl,rfl,wb⟩,?_⟩;rw[aM (n:=4) (an _ _ _) rfl,af];have E:Kp [s1.nx] s (St.set s s1.nx (.cells (bg ⟨f,[],i,v.length⟩) 109 false)):=(Kp.refl _ s).set _ (.inl wb) uM;have w:=a.chain;rw[Nat.zero_mul,aIn]at w
   have S:i≠0/\i<=rB:=by
    cases LA with
    |nil=>obtain⟨_,h2⟩:=w;rw[h2]at C;simp at C
    |cons p pr=>obtain⟨rfl,_,r,_⟩:=w;exact⟨by have:=r.1;omega,sG a.tg.pg.X8 r⟩
   refine⟨((lH.mono wb).trans a.kp λq o=>?_).trans E (by intro q o;simp at o;right;omega),⟨f,[],i,v.length⟩,G',LA,rfl,rfl,⟨Z,λh=>(by cases h),λ_ h=>absurd h S.1,λ_ _=>⟨rfl,S.2,by show 1<=v.length;omega,by show v.length<=2147483647;omega⟩⟩,⟨a.tg.pg.X8,.inr ⟨S.1,rfl,uM,hv,w⟩,a.nd,a.new,a.kept,a.root,by rw[y,<-a.free];omega,a.aE,by have:=a.ef;rw[y];omega⟩,a.tg.wV E λb u=>?_⟩
   .rcases aHJ.1 o with rfl|o
    .right;omega
    .exact .inl o
   .simp at u;subst u;exact F _ uM
end
section
variable {X:List Nat}{x:CV}{l:List db}{L:List aW}
section
variable {τ:Nat} {π:PI} {st st':St} {G:GM}
def fR.len (h:fR st X x l)(s:St):bt .slice x s=.ok (I l.length) s:=by
 obtain⟨c,a,b⟩:=h;rw[a.len c.length (fg b.w) uM s,b.len]
def fR.row (h:fR st X x l){i:Nat}(hi:i<l.length):∃g f,Sl st X g 4 (bM l[i].n.cells)/\Sl st X f 1 (cP l[i].n.kids)/\∀Q:CV->Prop,Q (.agg [I l[i].page,I l[i].at_,.bool l[i].n.leaf,g,f])->Lim.gU 5 5 x (I i) st Q:=by
 obtain⟨j,a,b⟩:=h;obtain⟨m,g,f,e,c,d⟩:=b.at hi;refine⟨g,f,c,d,λQ k=>?_⟩;refine a.gU uM b.w m Q ?_;rw[e];exact k
def vX.size {b:bY}{f:db}{a:List db}(h:vX G b f a L):f.n.cells.length<=512/\f.n.ok/\f.n.leaf=true/\f.at_=f.n.find b/\f.at_<=f.n.cells.length:=by
 obtain⟨lo,hi,p,o,Lm,ps,q,m,d,e,k,j,i,g,c⟩:=h;have:=eZ f.n.leaf f.n.cells;have hs:=d.size;rw[cr]at hs;exact⟨uM,d.ok,e.leaf,c,by rw[c];exact aKb⟩
def pH {s:St}{p a:Nat}{leaf:Bool}{c b:CV}{K:CV->St->Prop}(f:cF c=true)(e:cF b=true)(d:K (.ptr s.nx 0) (St.new s (.cells [I p,I a,.bool leaf,c,b] 107 false))):
 upon (dp 107 [.int .i64 0,.int .i64 0,.bool false,.ae,.ae] s) λx s2=>upon (aQ 5 x (.agg [I p,I a,.bool leaf,c,b]) s2) λ_ s3=>K x s3:=mW rfl rfl (by simp[f,e]) d
def abh (h:Tg τ π st G)(K:fC G L)(d:bY):R 13 [.ptr τ 0,.str d] st λx st'=>Kp [] st st'/\x=if 48<d.length then .tuple [.str [],.bool false,I 1]else .tuple [.str ((iE L d).getD []),.bool (iE L d).isSome,I 0]:=by
 refine bK ?_;rw[w13];have e0:aj .gtr none true (I d.length) (.int .i64 48) st=.ok (.bool (decide (48<d.length))) st:=BT
 rw[cc,af,ag,aHM xI,gQ,af,e0,af,ag]
 by_cases u:48<d.length
 .rw[aHQ u,aHP rfl,aHP u];exact⟨Kp.refl _ _,rfl⟩
 .rw[aHL u,aHM xI,aHM u];refine(Eu h K d).mono ?_;rintro _ s1 ⟨A,x,rfl,hx⟩;have V:=h.still A;have e1:aj .neq (some .int) true (I 0) (.int .i64 0) s1=.ok (.bool false) s1:=rfl;simp only[aD,aI,af,e1,aG,aHH,aHV,aHY,ba];rcases hx with⟨ua,rfl⟩|⟨f,a,M,⟨AX,Km⟩,B⟩
  .have hL:L=[]:=by
    rcases K.tree with h|⟨hh,ps,_,hs⟩
    .exact h.2
    .obtain⟨n,q,hn,_⟩:=hs;have:=hn.bW.1;omega
   subst hL;have D:aj .eql (some .int) true (.int .i64 0) (.int .i64 0) s1=.ok (.bool true) s1:=rfl;simp only[wE,af,D,aF,aHH,aHV,ag,aIj];exact⟨A,rfl⟩
  .obtain⟨qR,A1,gO,lI,KD⟩:=M.size;have Q:=B [] wb;have T:(a.reverse++[f]).length=a.length+1:=by simp
   have hlen:=Q.len s1;rw[T]at hlen;have D:aj .eql (some .int) true (I ((a.length+1:Nat):Int)) (.int .i64 0) s1=.ok (.bool false) s1:=Pe
   have O:=zX (a.length+1) uM uM s1 none;rw[aJh]at O;obtain⟨r,o,E,P,J⟩:=Q.row (i:=a.length) wb;have hf:(a.reverse++[f])[a.length]'(by simp)=f:=wb
   rw[hf]at E P J;simp only[hlen,af,D,aF,aHH,aHV,ag,O];refine J _ ?_;refine pH E.bL.2.1 P.bL.2.1 ?_;have z:Kp [] s1 (St.new s1 (.cells [I f.page,I f.at_,.bool f.n.leaf,r,o] 107 false)):=(Kp.refl [] s1).new _;have N:(St.new s1 (.cells [I f.page,I f.at_,.bool f.n.leaf,r,o] 107 false)).m.g s1.nx=some (.cells [I f.page,I f.at_,.bool f.n.leaf,r,o] 107 false):=au _ _;generalize St.new s1 (.cells [I f.page,I f.at_,.bool f.n.leaf,r,o] 107 false)=s3 at*;have U:=V.still z;have j:=E.mono z;have y:=A.trans z wb;obtain⟨lo,hi,Ll,Lr,ps,Lt,pt,Ld,pd,C⟩:=M.EX;have e4:aj .eql (some .int) false (I f.at_) (I f.n.cells.length) s3=.ok (.bool (decide (f.at_=f.n.cells.length))) s3:=O9
   simp only[fl,ah,af,az,N,ar,aHN,Nat.reduceAdd,aHI,aHG,aw,j.len f.n.cells.length (bQ _) uM s3,e4]
   by_cases F:f.at_=f.n.cells.length
   .obtain⟨_,v,_⟩:=C.Hr (λc k=>by rw[F,aIN (aHK _)]at k;cases k);rw[aHQ F,v];simp only[aG,aHH,aHV,aIb,bU,af,iy,jl,aF,aIj,ag];exact⟨y,rfl⟩
   .have hlt:f.at_<f.n.cells.length:=by omega
    rw[aHL F];obtain⟨b,p,l,t,g,Z,Y,q3,q4,W⟩:=j.cellAt (L:=f.n.cells.map bg) uM (fQ _) (i:=f.at_) Yt;have H:=W 0 (.str f.n.cells[f.at_].key) acm;rw[aIv]at H;simp only[aG,aHH,aHV,aHY,ba,af,iy,jl,ah,az,N,ar,aHN,aIv,Nat.reduceAdd,aHI,aHG,aw,Z,Y,H,ep,oL,aF,ag]
    by_cases s:f.n.cells[f.at_].key=d
    .obtain⟨w,po,xE,BK,v1,v2,v3,v4,v5,v6⟩:=C.found (aHO hlt) s;rw[aHQ s,aIb,aHM xI];refine j.gU (L:=f.n.cells.map bg) uM (fQ _) Yt _ ?_;have e:(f.n.cells.map bg)[f.at_]'(by simpa using hlt)=bg f.n.cells[f.at_]:=by simp
     rw[e];have S:=A1.cell _ (aIc hlt);rw[gO]at S;refine(Gc U S v1).mono ?_;rintro _ s4 ⟨rfl,k4⟩;have e5:aj .eql (some .int) true (I 0) (.int .i64 0) s4=.ok (.bool true) s4:=rfl;simp only[aD,aI,af,e5];rw[v6];exact⟨y.trans k4 wb,rfl⟩
    .obtain⟨_,v,_⟩:=C.Hr (λc k=>by rw[aHO hlt]at k;cases k;exact s);rw[aHL s,aHY,aHP rfl,v];exact⟨y,rfl⟩
end
end
section
variable {X:List Nat}{v:CV}{n:bo}{m:Nat}{l:List db}{x:CV}{s:St}{vc vk:CV}
section
variable {τ:Nat} {π:PI} {st st':St} {G:GM}
def Sl.Er {k n:Nat}{L:List CV}(j:Sl st X v k L)(f:0<k)(d:L.length=n*k)(p:0<n)(o:m<=n)(s:St):∃v',jd k v none (I m) (I m) s=.ok v' s/\Sl st X v' k (L.take (m*k)):=by
 rcases j with⟨rfl,rfl⟩|⟨b,off,len,cap,grow,rfl,y,D,i⟩
 .have:=Nat.mul_pos p f;simp at d;omega
 .have:len=n:=aIT f (by rw[<-y,d]);subst this;have B:=aIB k o
  have e:jd k (.slice b off len cap grow) none (I m) (I m) s=(if m=0 then .ok (.slice b off 0 0 0) s else .ok (.slice b off m m 0) s):=by
   unfold jd;dsimp only;rw[uo,aHP uM];dsimp only;rw[um,aHP (aHK _)];simp only[dH,aO,aIK,aIr,aIs];rw[aHP (.inr uM)];have A:Nat.sub m 0=m:=rfl;have z:Nat.add off (Nat.mul 0 k)=off:=wb
   rw[A,z]
   by_cases a:m=0
   .rw[aHP a,aHP a,a]
   .rw[aHM a,aHM a]
  rw[e]
  by_cases a:m=0
  .subst a;exact⟨_,by rw[aHP rfl],.inr ⟨b,off,0,0,0,rfl,wb,⟨aHK _,.inl rfl⟩,.inl rfl⟩⟩
  .rw[aHM a];refine⟨_,rfl,.inr ⟨b,off,m,m,0,rfl,TP,⟨aHK _,.inl rfl⟩,?_⟩⟩;rcases i with i|⟨w,u,c,t,g,r,C,q⟩
   .omega
   .exact .inr ⟨w,u,c,t,g,r,uM,by rw[<-q,aJc,aIC B]⟩
def dV.take {a:List (List CV)}(h:dV st X a l)(i:Nat):dV st X (a.take i) (l.take i):=by
 induction a generalizing l i with
 |nil=>cases l with|nil=>simp[dV]|cons s l=>exact h.elim
 |cons r a b=>cases l with
  |nil=>exact h.elim
  |cons s l=>cases i with
   |zero=>trivial
   |succ i=>exact⟨h.1,b h.2 i⟩
def fR.Er (h:fR st X x l)(i:0<l.length)(g:m<=l.length)(s:St):∃c,jd 5 x none (I m) (I m) s=.ok c s/\fR st X c (l.take m):=by
 obtain⟨d,a,b⟩:=h;have hl:=b.len;obtain⟨v',f,e⟩:=a.Er uM (fg b.w) uM (m:=m) uM s;rw[ud b.w m uM]at e;exact⟨v',f,_,e,b.take m⟩
def fR.hi (h:fR st X x l)(g:m<=l.length)(s:St):∃c,aR 5 x none (some (I m)) s=.ok c s/\fR st X c (l.take m):=by
 obtain⟨d,a,b⟩:=h;have hl:=b.len;obtain⟨v',f,e⟩:=a.hi uM (fg b.w) (h:=m) uM s;rw[ud b.w m uM]at e;exact⟨v',f,_,e,b.take m⟩
def tV {leaf:Bool}{K:CV->St->Prop}(c:cF vc=true)(b:cF vk=true)(a:K (.ptr s.nx 0) (St.new s (.cells [.bool leaf,vc,vk] 105 false))):
 upon (dp 105 [.bool false,.ae,.ae] s) λx s2=>upon (aQ 3 x (.agg [.bool leaf,vc,vk]) s2) λ_ s3=>K x s3:=mW rfl rfl (by simp[c,b]) a
def DL (τ:Nat)(π:PI)(G:GM)(a:List aW)(c d:Nat)(st:St)(y:CV)(st':St):Prop:=y=I 0/\Kp π.W st st'/\∃G',Tg τ π st' G'/\fC G' a/\G'.aE=G.aE/\G'.ef.length<=c/\G.cD<=G'.cD+d
def gI {b:Nat}{K:CV->Prop}(a:s.m.g b=some (.cells [.bool n.leaf,vc,vk] 105 false))(c:K (.agg [.bool n.leaf,vc,vk])):us (aJ 3 (.ptr b 0) s) K:=by
 rw[aM (n:=3) a rfl,af];exact c
def YB:∀(m:Nat) (d:List db),d.length=m->∀{st:St} {G:GM} {f:db} {n:bo} {h:Nat} {x v:CV} {LL:List aW},Tg τ π st G->CD G h f.page d n LL->(n.leaf=true\/n.cells≠[])->n.size<=640->d.length+2<=G.cD->
 fR st π.W x (d.reverse++[f])->IsNode st π.W v n->d.length<=16->R 104 [.ptr τ 0,x,v] st (DL τ π G LL (G.ef.length+(2*d.length+3)) (d.length+2) st):=by
 intro m
 induction m using Nat.strongRecOn with
 |_ m ih=>
  intro d hm st G f n h x v LL ht z kX bi jH aq hv AX;have rH:=ht.TH;have FT:=hv;obtain⟨vc,vk,rfl,NZ,Tt⟩:=hv
  have qR:n.cells.length<=640:=by
   have:=eZ n.leaf n.cells;rw[cr]at bi;omega
  refine bK ?_;rw[anG];rw[bS,aT];refine⟨rfl,?_⟩;have k1:Kp [] st (St.new st (.cells [.bool n.leaf,vc,vk] 105 false)):=(Kp.refl [] st).new _;have g1:(St.new st (.cells [.bool n.leaf,vc,vk] 105 false)).m.g st.nx=some (.cells [.bool n.leaf,vc,vk] 105 false):=au _ _;have n1:(St.new st (.cells [.bool n.leaf,vc,vk] 105 false)).nx=st.nx+1:=rfl;generalize St.new st (.cells [.bool n.leaf,vc,vk] 105 false)=s1 at*;have hO:=aq.mono (k1.mono wb);have yl:(d.reverse++[f]).length=d.length+1:=wb
  have e3:=λs=>by
   have:=zX (d.length+1) uM uM s none
   rwa [aJh]at this
  obtain⟨Pd,Pc,c1,c2,jT⟩:=hO.row (i:=d.length) wb;have hf:(d.reverse++[f])[d.length]'(by simp)=f:=wb
  rw[hf]at c1 c2 jT;have hlen:=λs=>aq.len s;rw[yl]at hlen;simp only[hlen,af,e3];refine jT _ ?_;refine pH c1.bL.2.1 c2.bL.2.1 ?_;have k3:Kp [] s1 (St.new s1 (.cells [I f.page,I f.at_,.bool f.n.leaf,Pd,Pc] 107 false)):=(Kp.refl [] s1).new _;have g3:(St.new s1 (.cells [I f.page,I f.at_,.bool f.n.leaf,Pd,Pc] 107 false)).m.g s1.nx=some (.cells [I f.page,I f.at_,.bool f.n.leaf,Pd,Pc] 107 false):=au _ _;have n3:(St.new s1 (.cells [I f.page,I f.at_,.bool f.n.leaf,Pd,Pc] 107 false)).nx=s1.nx+1:=rfl;generalize St.new s1 (.cells [I f.page,I f.at_,.bool f.n.leaf,Pd,Pc] 107 false)=s3 at*;have lH:=k1.trans k3 wb;have qS:=(k3.keep st.nx uM wb).trans g1;have a7:=hO.mono (k3.mono wb);obtain⟨dn,a9,Ue⟩:=a7.Er wb (m:=d.length) wb s3
  have Ds:(d.reverse++[f]).take d.length=d.reverse:=by
   rw[aJk wb]
  rw[Ds]at Ue;have t3:=ht.still lH;simp only[a9,af];refine gI qS ?_;refine(Ef t3.fr ((FT.mono (lH.mono wb)).eH wb) z.ON uM).mono ?_;rintro _ s4 ⟨rfl,k4⟩;have ub:=lH.trans k4 wb;have n4:=k4.nx;have My:=(k4.keep st.nx uM wb).trans qS;have TD:=(k4.keep s1.nx uM wb).trans g3;have t4:=ht.still ub;have v4:=FT.mono (ub.mono wb);have ci:=Ue.mono (k4.mono wb);have e4:aj .leq none true (I n.size) (.int .i64 512) s4=.ok (.bool (decide (n.size<=512))) s4:=Wv
  simp only[e4,af,ag];obtain⟨lo,hi,Ll,Lr,L,ps,q,zs,lR,jm,XZ⟩:=z.ctx
  by_cases Fp:n.size<=512
  .rw[aHQ Fp,aHP rfl];simp only[fl,ah,af,az,TD,ar,aHN,aHG,aw];refine gI My ?_;refine(om t4 z.bW (v4.eH wb) z.ON Fp).mono ?_;rintro _ s5 ⟨rfl,k5,t5⟩;refine⟨rfl,(ub.mono wb).trans k5 afk,_,t5,?_,rfl,by have:=tQ G f.page (.node n);omega,by rw[sP];omega⟩;rw[<-XZ];exact zs.write z.ok z.bW z.ON Fp kX lR jm
  .rw[aHL Fp,aHM xI];obtain⟨i,HT,H⟩:=Sq z.ON uM uM
   have Rn:cJ n<n.cells.length:=by
    have:=H.lt;unfold cJ;cases gO:n.leaf with
    |false=>simp;omega
    |true=>
     rw[aHP rfl];have hA:=H.neA;rcases H.eqs with⟨_,e,_⟩|⟨h,_⟩
     .rw[e]at hA
      have:0<i:=by
       rcases Nat.eq_zero_or_pos i with h0|h0
       .exact absurd (by show n.cells.take i=[];rw[h0,aJG]) hA
       .exact h0
      omega
     .rw[gO]at h;cases h
   refine gI My ?_;refine(SY t4.fr (v4.eH wb) z.ON uM Rn).mono ?_;rintro _ p ⟨xa,xb,rfl,k6,ap,ao⟩;generalize cT:yw n=cu at*;obtain⟨a,sp,b⟩:=cu;simp only at H ap ao;have n6:=k6.nx;have Fg:=ub.trans k6 wb;have aG:∀q∈π.W,q<s4.nx:=λq hq=>by have:=rH q hq;have:=ub.nx;omega
   have wc:∀q,st.nx<=q->q∉π.W:=λq hq hh=>adi
   obtain⟨ca,V,rfl,al,ai⟩:=ap π.W aG;obtain⟨Z,U,rfl,ad,ac⟩:=ao π.W aG;obtain⟨ct,a2,cs⟩:=al.bL;obtain⟨cq,a1,cp⟩:=ai.bL;obtain⟨co,a0,cn⟩:=ad.bL;obtain⟨cm,aY,cl⟩:=ac.bL;have yy:(St.new p (.cells [.bool false,.ae,.ae] 105 false)).nx=p.nx+1:=rfl;simp only[aD,aI,af];rw[cz,aP,cz,aP,yy];have kA:Kp [] p (St.new (St.new p (.cells [.bool false,.ae,.ae] 105 false)) (.cells [.bool false,.ae,.ae] 105 false)):=((Kp.refl [] p).new _).new _;have bq:(St.new (St.new p (.cells [.bool false,.ae,.ae] 105 false)) (.cells [.bool false,.ae,.ae] 105 false)).m.g p.nx=some (.cells [.bool false,.ae,.ae] 105 false):=(aX _ _ _ wb).trans (au _ _);have bp:(St.new (St.new p (.cells [.bool false,.ae,.ae] 105 false)) (.cells [.bool false,.ae,.ae] 105 false)).m.g (p.nx+1)=some (.cells [.bool false,.ae,.ae] 105 false):=au (St.new p (.cells [.bool false,.ae,.ae] 105 false)) _;have nA:(St.new (St.new p (.cells [.bool false,.ae,.ae] 105 false)) (.cells [.bool false,.ae,.ae] 105 false)).nx=p.nx+2:=rfl;generalize St.new (St.new p (.cells [.bool false,.ae,.ae] 105 false)) (.cells [.bool false,.ae,.ae] 105 false)=s8 at*;have kW:∀a b c:CV,bz [.bool false,.ae,.ae] 0 [a,b,c]=[a,b,c]:=λa b c=>rfl;rw[aH,bq,aS,aT,kW];refine⟨⟨rfl,by simp[a2,a1],wb⟩,?_⟩;rw[aH,ak _ _ _ _ uM,bp,aS,aT,kW];refine⟨⟨rfl,by simp[a0,aY],wb⟩,?_⟩;have kB:Kp [] p (St.set (St.set s8 p.nx (.cells [.bool a.leaf,ca,V] 105 false)) (p.nx+1) (.cells [.bool b.leaf,Z,U] 105 false)):=(kA.set _ (.inr (aHK _)) uM).set _ (.inr uM) zS;have bn:(St.set (St.set s8 p.nx (.cells [.bool a.leaf,ca,V] 105 false)) (p.nx+1) (.cells [.bool b.leaf,Z,U] 105 false)).m.g p.nx=some (.cells [.bool a.leaf,ca,V] 105 false):=(ak _ _ _ _ uM).trans (an _ _ _)
   have bm:(St.set (St.set s8 p.nx (.cells [.bool a.leaf,ca,V] 105 false)) (p.nx+1) (.cells [.bool b.leaf,Z,U] 105 false)).m.g (p.nx+1)=some (.cells [.bool b.leaf,Z,U] 105 false):=an _ _ _;have nB:(St.set (St.set s8 p.nx (.cells [.bool a.leaf,ca,V] 105 false)) (p.nx+1) (.cells [.bool b.leaf,Z,U] 105 false)).nx=p.nx+2:=nA;generalize St.set (St.set s8 p.nx (.cells [.bool a.leaf,ca,V] 105 false)) (p.nx+1) (.cells [.bool b.leaf,Z,U] 105 false)=am at*;have qg:=Fg.trans kB wb;have aN:=k6.trans kB wb;have KH:=(aN.keep s1.nx uM wb).trans TD;have a6:=ht.still qg;have b3:IsNode am π.W (.agg [.bool a.leaf,ca,V]) a:=⟨ca,V,rfl,al.mono (kB.mono wb),ai.mono (kB.mono wb)⟩;have b4:IsNode am π.W (.agg [.bool b.leaf,Z,U]) b:=⟨Z,U,rfl,ad.mono (kB.mono wb),ac.mono (kB.mono wb)⟩;simp only[fl,ah,af,az,KH,ar,aHN,aHG,aw];refine gI bn ?_;refine(om a6 z.bW (b3.eH wb) H.Nu H.szA).mono ?_;rintro _ dQ ⟨rfl,nK,a5⟩;have Ti:=nK.nx;have e5:∀s,aj .neq (some .int) true (I 0) (.int .i64 0) s=.ok (.bool false) s:=λs=>rfl;have bx:=(nK.keep (p.nx+1) uM (wc _ (by have:=Fg.nx;omega))).trans bm;simp only[e5,af,ag,aHH,aHV];refine gI bx ?_;have aV:0<(G.put f.page (.node a)).cD:=by rw[sP];omega
   have E:=SK (z.ok.put f.page (.node a)) aV H.okB H.szB (.inr H.neB);refine(DY a5 aV (b4.mono nK) H.okB H.szB).mono ?_;rintro _ j ⟨rfl,nJ,Q⟩;generalize hr:(G.put f.page (.node a)).dA=r at*;generalize cS:(G.put f.page (.node a)).alloc.put r (.node b)=G2 at*;have LI:=nJ.nx;have yn:=((qg.mono wb).trans nK afk).trans nJ afk;have Xd:=nK.trans nJ afk;have bI:=(Xd.keep s1.nx (by have:=qg.nx;omega) (wc _ uM)).trans KH;have aR:=(ci.mono (aN.mono wb)).mono Xd;have aK:=aR.len j;rw[aKw]at aK;have bj:=sG E.ok E.is.bW;have e6:aj .eql (some .int) true (I d.length) (.int .i64 0) j=.ok (.bool (decide (d.length=0))) j:=O9
   simp only[aD,aI,af,e5,ag,aHH,aHV,aK,e6];have Cn:sp.length<=48:=by rw[H.key];exact(z.ON.cell _ (aIc ..)).key
   cases d with
   |nil=>
    obtain⟨_,rfl,rfl,rfl,rfl,rfl⟩:=(show f.page=G.root/\lo=[]/\hi=none/\Ll=[]/\Lr=[]/\ps=[]from zs);rw[aHP (show decide (([]:List db).length=0)=true from rfl)];have mo:aZ [.str [],.str [],.int .i64 0,.int .i64 0] [(0,1,.str sp)] j=.ok (.agg (bg (fO sp))) j:=rfl;rw[mo,af,vS (k:=4) rfl rfl rfl,aP];have nI:Kp [] j (St.new j (.cells (CV.agg (bg (fO sp))).cK 109 false)):=(Kp.refl [] j).new _;have cj:(St.new j (.cells (CV.agg (bg (fO sp))).cK 109 false)).m.g j.nx=some (.cells (bg (fO sp)) 109 false):=au _ _;have cO:(St.new j (.cells (CV.agg (bg (fO sp))).cK 109 false)).nx=j.nx+1:=rfl;generalize St.new j (.cells (CV.agg (bg (fO sp))).cK 109 false)=C at*;have bJ:=(nI.keep s1.nx uM wb).trans bI;have OW:bC 3 2 (cH 2 [.int .i64 0]) [(0,1,I f.page),(1,1,I r)] C=.ok (.slice C.nx 0 2 2 0) (St.new C (.cells [I f.page,I r] 3 false)):=rfl;simp only[bJ,ar,aHG,aw,OW,aP];have vI:Kp [] C (St.new C (.cells [I f.page,I r] 3 false)):=(Kp.refl [] C).new _;have bH:(St.new C (.cells [I f.page,I r] 3 false)).m.g C.nx=some (.cells [I f.page,I r] 3 false):=au _ _;have cN:(St.new C (.cells [I f.page,I r] 3 false)).nx=C.nx+1:=rfl;generalize St.new C (.cells [I f.page,I r] 3 false)=eP at*;have bG:=(vI.keep j.nx uM wb).trans cj;have N0:aZ [.bool false,.ae,.ae] [(1,1,.slice j.nx 0 1 1 0),(2,1,.slice C.nx 0 2 2 0)] eP=.ok (.agg [.bool false,.slice j.nx 0 1 1 0,.slice C.nx 0 2 2 0]) eP:=rfl;rw[N0,af];have cg:=yn.nx;have a4:=(Q.still nI).still vI
    have HC:IsNode eP π.W (.agg [.bool false,.slice j.nx 0 1 1 0,.slice C.nx 0 2 2 0]) ⟨false,[fO sp],[f.page,r]⟩:=
     ⟨_,_,rfl,.inr ⟨j.nx,0,1,1,0,rfl,rfl,⟨aHK _,.inl rfl⟩,.inr ⟨wc _ uM,uM,_,_,_,bG,acm,rfl⟩⟩,.inr ⟨C.nx,0,2,2,0,rfl,rfl,⟨aHK _,.inl rfl⟩,.inr ⟨wc _ uM,uM,_,_,_,bH,wb,rfl⟩⟩⟩
    have bk:=sG z.ok z.bW;have A1:bo.ok ⟨false,[fO sp],[f.page,r]⟩:=⟨λc hc=>by simp at hc;subst hc;exact tN Cn,by unfold jc;simp,rfl,λk hk=>by simp at hk;rcases hk with rfl|rfl<;>assumption⟩
    have aJ:bo.size ⟨false,[fO sp],[f.page,r]⟩<=512:=by
     rw[cr];have h1:=(jv (tN Cn)).2.2 rfl;have h2:=(kF f.page bk).2;have h3:=(kF r bj).2;have h4:(uv ([fO sp]:List dq).length).length=1:=eR wb;simp only[h4,aHH,aHV];have h5:(cW false [fO sp]).length=(iM false (fO sp)).length:=by simp[cW]
     have h6:(eS [f.page,r]).length=(uv f.page).length+(uv r).length:=adJ
     rw[h5,h6];omega
    have NW:0<G2.cD:=by have:=E.free;rw[sP]at this;simp at jH;omega
    have RN:=SK E.ok NW A1 aJ (.inr wb);refine(DY a4 NW HC A1 aJ).mono ?_;rintro _ iV ⟨rfl,mM,aa⟩;simp only[aD,aI,af,e5,ag,aHH,aHV];refine aa.get' ?_;refine(tU aa.pg _ (.inr RN.is.bW)).mono ?_;rintro _ dv ⟨rfl,yj,a8⟩;refine⟨rfl,?_,_,aa.of yj a8,?_,?_,by have h1:=tQ G f.page (.node a);have h2:=E.ef;exact aIz RN.ef (by simp only[aJB];omega),by have h1:=E.free;have h2:=RN.free;rw[sP]at h1;refine aIz (m:=(G2.alloc.put G2.dA (.node ⟨false,[fO sp],[f.page,r]⟩)).cD+2) uM (aHK _)⟩
    .exact((((yn.trans nI wb).trans vI wb).trans mM afk).trans yj afk)
    .rw[<-XZ];simp only[aIm,aIJ]at jm⊢;exact Jq z.ok z.bW z.ON H lR jm E RN
    .have h1:=RN.aE;have h2:=E.aE;exact h1.trans h2
   |cons sm P=>
    rw[aHL wb,aHM xI];obtain⟨m1,m2,m3,m4,m5,lQ,eT,zN,zM,L',ql,q',m6,m7,m8,m9⟩:=M4 zs z.ok z.bW z.ON H lR jm E;have cV:=zs;obtain⟨_,_,_,_,_,_,_,_,_,_,NO,_,_,_⟩:=zs
    have cU:sm.n.cells.length<=512:=by
     have:=eZ sm.n.leaf sm.n.cells;have:=NO.size;rw[cr]at this;omega
    have ZG:=NO.ok.jR;rw[m2,aHM xI]at ZG
    have e7:aj .sub none true (I (sm::P).length) (.int .i64 1) j=.ok (I P.length) j:=by
     have:=zX (sm::P).length (by simp at AX⊢;omega) wb j none
     simpa using this
    have Wz:fR j π.W dn (P.reverse++[sm]):=by simpa using aR
    obtain⟨D,w,d1,d2,HB⟩:=Wz.row (i:=P.length) wb;have Mn:(P.reverse++[sm])[P.length]'(by simp)=sm:=wb
    rw[Mn,m2]at HB;rw[Mn]at d1 d2;rw[e7,af];refine HB _ ?_;refine pH d1.bL.2.1 d2.bL.2.1 ?_;have NI:Kp [] j (St.new j (.cells [I sm.page,I sm.at_,.bool false,D,w] 107 false)):=(Kp.refl [] j).new _;have RV:(St.new j (.cells [I sm.page,I sm.at_,.bool false,D,w] 107 false)).m.g j.nx=some (.cells [I sm.page,I sm.at_,.bool false,D,w] 107 false):=au _ _;have cM:(St.new j (.cells [I sm.page,I sm.at_,.bool false,D,w] 107 false)).nx=j.nx+1:=rfl;generalize St.new j (.cells [I sm.page,I sm.at_,.bool false,D,w] 107 false)=o at*
    have Kz:∀K:CV->Prop,K (.agg [.bool false,D,w])->OZ 3 2 (.ptr j.nx 0) o K:=λK hK=>by
     unfold OZ;rw[ah,af,gL (n:=3) RV wb,af];exact hK
    refine Kz _ ?_;refine tV d1.bL.2.1 d2.bL.2.1 ?_;have QH:Kp [] o (St.new o (.cells [.bool false,D,w] 105 false)):=(Kp.refl [] o).new _;have bu:(St.new o (.cells [.bool false,D,w] 105 false)).m.g o.nx=some (.cells [.bool false,D,w] 105 false):=au _ _;have cL:(St.new o (.cells [.bool false,D,w] 105 false)).nx=o.nx+1:=rfl;generalize St.new o (.cells [.bool false,D,w] 105 false)=A at*;have cd:=(QH.keep j.nx uM wb).trans RV;have AQ:=NI.trans QH wb;have ce:=AQ.fresh Q.fr;rw[bD];have Kc:=(Kp.refl [] A).skip;have jD:(St.skip A).m.g A.nx=none:=ce _ (aHK _);have cv:(St.skip A).nx=A.nx+1:=rfl;have X6:(St.skip A).m.g o.nx=some (.cells [.bool false,D,w] 105 false):=bu;have aB:(St.skip A).m.g j.nx=some (.cells [I sm.page,I sm.at_,.bool false,D,w] 107 false):=cd;generalize St.skip A=sk at*;have aL:=AQ.trans Kc wb;simp only[ah,af,az,X6,ar,aHN,aHI,aHG,aw];refine(xp ((d1.eH (Y:=[]) wb).mono aL) (eV _) acF).mono ?_;rintro vi M ⟨F1,Ck,o1,Om,_⟩;have cI:=Ck.nx;have ax:=(Ck.keep j.nx uM wb).trans aB;have ck:=(Ck.keep o.nx uM wb).trans X6;have bT:=(Ck.keep A.nx uM wb).trans jD;have mo:aZ [.str [],.str [],.int .i64 0,.int .i64 0] [(0,1,.str sp)] M=.ok (.agg (bg (fO sp))) M:=rfl;simp only[ax,ar,aHI,aHG,aw,mo,af];rw[jO bT (Ft (k:=4) rfl rfl rfl),aP];have bh:Kp [A.nx] M (St.set M A.nx (.cells (CV.agg (bg (fO sp))).cK 109 false)):=(Kp.refl _ M).set _ (.inl wb) uM;have bt:(St.set M A.nx (.cells (CV.agg (bg (fO sp))).cK 109 false)).m.g A.nx=some (.cells (bg (fO sp)) 109 false):=an _ _ _;have be:Own (St.set M A.nx (.cells (CV.agg (bg (fO sp))).cK 109 false)) vi 4 109 (bM sm.n.cells) F1:=o1.mono λb hb=>ak _ _ _ _ (by have:=(Om b hb).1;omega)
    have bF:(St.set M A.nx (.cells (CV.agg (bg (fO sp))).cK 109 false)).m.g o.nx=_:=(ak _ _ _ _ uM).trans ck;have ay:(St.set M A.nx (.cells (CV.agg (bg (fO sp))).cK 109 false)).m.g j.nx=_:=(ak _ _ _ _ uM).trans ax;have cG:(St.set M A.nx (.cells (CV.agg (bg (fO sp))).cK 109 false)).nx=M.nx:=rfl;generalize St.set M A.nx (.cells (CV.agg (bg (fO sp))).cK 109 false)=CP at*;refine(Hu be (bQ _) uM (λb hb=>by have:=(Om b hb).2;omega) bt (λhh=>adG) rfl (eV _) (gT _) m1).mono ?_;rintro u N ⟨F2,o2,S,bw⟩;have cE:=S.nx;have ZL:o.nx∉F1:=λhh=>adG
    have ch:j.nx∉F1:=λhh=>adG
    have bN:=(S.keep o.nx uM ZL).trans bF;have bA:=(S.keep j.nx uM ch).trans ay
    have tY:∀b∈F2,A.nx<b/\b<N.nx:=λb hb=>by
     obtain⟨p1,p2⟩:=bw b hb;refine⟨?_,p2⟩;rcases p1 with h|h
     .have:=(Om b h).1;omega
     .omega
    obtain⟨YW,UG⟩:=o2.cF;have bZ:bz [.bool false,D,w] 1 [u]=[.bool false,u,w]:=rfl
    have KL:(bM sm.n.cells).take (sm.at_*4)++(bg (fO sp)++(bM sm.n.cells).drop (sm.at_*4))=bM (more sm.n sm.at_ sp r).cells:=by
     rw[lL _ _ m1,lM _ _ m1];show _=bM (sm.n.cells.take sm.at_++fO sp::sm.n.cells.drop sm.at_);rw[iA]
     congr 1
    rw[KL]at o2;simp only[aH,bN,aS,UG,bZ,aB,ay,ar,aHI,aHG,aw,aKc,and_true,jD];refine⟨⟨rfl,by simp[YW],wb⟩,?_⟩;have cQ:Kp [o.nx] N (St.set N o.nx (.cells [.bool false,u,w] 105 false)):=(Kp.refl _ N).set _ (.inl wb) uM;have TE:(St.set N o.nx (.cells [.bool false,u,w] 105 false)).m.g o.nx=some (.cells [.bool false,u,w] 105 false):=an _ _ _;have bB:(St.set N o.nx (.cells [.bool false,u,w] 105 false)).m.g j.nx=_:=(ak _ _ _ _ uM).trans bA;have cB:(St.set N o.nx (.cells [.bool false,u,w] 105 false)).nx=N.nx:=rfl;have bd:Own (St.set N o.nx (.cells [.bool false,u,w] 105 false)) u 4 109 (bM (more sm.n sm.at_ sp r).cells) F2:=o2.mono λb hb=>ak _ _ _ _ adH;have b0:=((aL.trans Ck wb).trans bh zS).trans S λq hq=>.inr (by have:=(Om q hq).1;omega);have aO:Kp [] j (St.set N o.nx (.cells [.bool false,u,w] 105 false)):=b0.set _ (.inr uM) uM;generalize St.set N o.nx (.cells [.bool false,u,w] 105 false)=y at*;have cf:=aO.fresh Q.fr;have aQ:=(Kp.refl [] y).skip;have E6:(St.skip y).m.g y.nx=none:=cf _ (aHK _);have cX:(St.skip y).nx=y.nx+1:=rfl;have aC:(St.skip y).m.g o.nx=_:=TE;have aF:(St.skip y).m.g j.nx=_:=bB;rw[bD];generalize St.skip y=sl at*;have aM:=aO.trans aQ wb;simp only[aC,ar,aHI,aHG,aw];refine(Bn ((d2.eH (Y:=[]) wb).mono aM) (jP _) (by rw[qM];omega)).mono ?_;rintro oC O ⟨F3,F,o3,B,_⟩;have cA:=F.nx;have aA:=(F.keep j.nx uM wb).trans aF;have bO:=(F.keep o.nx uM wb).trans aC;have bU:=(F.keep y.nx uM wb).trans E6;simp only[aA,ar,aHI,aHG,aw,gJ sm.at_ uM,af];have bX:gC [(0,1,I r)] (cH 1 [.int .i64 0])=some [I r]:=rfl;rw[jO bU bX,aP];have WZ:Kp [y.nx] O (St.set O y.nx (.cells [I r] 3 false)):=(Kp.refl _ O).set _ (.inl wb) uM
    have bs:(St.set O y.nx (.cells [I r] 3 false)).m.g y.nx=some (.cells [I r] 3 false):=an _ _ _;have bc:Own (St.set O y.nx (.cells [I r] 3 false)) oC 1 3 (cP sm.n.kids) F3:=o3.mono λb hb=>ak _ _ _ _ (by have:=(B b hb).1;omega);have bP:(St.set O y.nx (.cells [I r] 3 false)).m.g o.nx=_:=(ak _ _ _ _ uM).trans bO;have bE:(St.set O y.nx (.cells [I r] 3 false)).m.g j.nx=_:=(ak _ _ _ _ uM).trans aA;have cy:(St.set O y.nx (.cells [I r] 3 false)).nx=O.nx:=rfl;have b5:Own (St.set O y.nx (.cells [I r] 3 false)) u 4 109 (bM (more sm.n sm.at_ sp r).cells) F2:=((bd.keep aQ λb hb=>⟨abV,wb⟩).keep F λb hb=>⟨abV,wb⟩).mono λb hb=>ak _ _ _ _ abV;generalize St.set O y.nx (.cells [I r] 3 false)=xY at*;refine(NJ (n:=sm.n.kids.length) (i:=sm.at_+1) bc wb uM (λb hb=>by have:=(B b hb).2;omega) bs (λhh=>by have:=(B _ hh).1;omega) rfl (jP _) rfl uM).mono ?_;rintro J T ⟨F4,o4,Zj,bv⟩;have cx:=Zj.nx;have b2:o.nx∉F3:=λhh=>by have:=(B _ hh).1;omega
    have bR:=(Zj.keep o.nx uM b2).trans bP
    have ab:∀b∈F4,y.nx<b/\b<T.nx:=λb hb=>by
     obtain⟨p1,p2⟩:=bv b hb;refine⟨?_,p2⟩;rcases p1 with h|h
     .have:=(B b h).1;omega
     .omega
    have b6:=b5.keep Zj λb hb=>⟨abV,λhh=>by have:=(B b hh).1;have:=(tY b hb).2;omega⟩;obtain⟨bb,ba⟩:=o4.cF;have bY:bz [.bool false,u,w] 2 [J]=[.bool false,u,J]:=rfl
    have cc:(cP sm.n.kids).take ((sm.at_+1)*1)++([I r]++(cP sm.n.kids).drop ((sm.at_+1)*1))=cP (more sm.n sm.at_ sp r).kids:=by
     rw[aJr,vF,vG];show _=cP (sm.n.kids.take (sm.at_+1)++r::sm.n.kids.drop (sm.at_+1));rw[nY]
     congr 1
    rw[cc]at o4;simp only[bR,aS,ba,bY,aF,bE,ar,aHI,aHG,aw,aKc,and_true,E6];refine⟨⟨rfl,by simp[bb],wb⟩,?_⟩;have b1:=((aM.trans F wb).trans WZ zS).trans Zj λq hq=>.inr (by have:=(B q hq).1;omega);have Za:Kp [] j (St.set T o.nx (.cells [.bool false,u,J] 105 false)):=b1.set _ (.inr uM) uM;have br:(St.set T o.nx (.cells [.bool false,u,J] 105 false)).m.g o.nx=some (.cells [.bool (more sm.n sm.at_ sp r).leaf,u,J] 105 false):=an _ _ _;have b7:Own (St.set T o.nx (.cells [.bool false,u,J] 105 false)) u 4 109 (bM (more sm.n sm.at_ sp r).cells) F2:=b6.mono λb hb=>ak _ _ _ _ adH;have b8:Own (St.set T o.nx (.cells [.bool false,u,J] 105 false)) J 1 3 (cP (more sm.n sm.at_ sp r).kids) F4:=o4.mono λb hb=>ak _ _ _ _ (by have:=(ab b hb).1;omega);have cw:(St.set T o.nx (.cells [.bool false,u,J] 105 false)).nx=T.nx:=rfl;generalize St.set T o.nx (.cells [.bool false,u,J] 105 false)=zi at*;refine gI br ?_;have cg:=yn.nx
    have Vk:IsNode zi π.W (.agg [.bool (more sm.n sm.at_ sp r).leaf,u,J]) (more sm.n sm.at_ sp r):=
     ⟨u,J,rfl,b7.sl λb hb=>⟨wc b adH,abV⟩,b8.sl λb hb=>⟨wc b (by have:=(ab b hb).1;omega),by have:=(ab b hb).2;omega⟩⟩
    have bl:CD G2 (h+1) sm.page P (more sm.n sm.at_ sp r) LL:=⟨E.ok,m5,m3,lQ,eT,zN,zM,L',ql,q',m6,m7,m8,m9.trans XZ⟩;have NW:=E.free;rw[sP]at NW;simp only[aIg]at jH hm AX;refine(ih P.length uM P rfl (Q.still Za) bl (.inr (by unfold more;simp)) uM uM (Wz.mono (Za.mono wb)) Vk uM).mono ?_;rintro _ Ul ⟨rfl,bf,G',a3,b9,px,Ms,cR⟩;refine⟨rfl,(yn.trans Za wb).trans bf afk,G',a3,b9,?_,by have:=tQ G f.page (.node a);have:=E.ef;simp only[aIg];omega,adR⟩;have h2:=E.aE;rw[px,h2];rfl
def adZ {a:List db}{f:db}{h:Nat}{d:List aW}(j:Tg τ π st G)(k:CD G h f.page a n d)(e:n.leaf=true\/n.cells≠[])(b:n.size<=640)(g:a.length+2<=G.cD)
 (c:fR st π.W x (a.reverse++[f])) (i:IsNode st π.W v n) (o:a.length<=16):R 104 [.ptr τ 0,x,v] st (DL τ π G d (G.ef.length+(2*a.length+3)) (a.length+2) st):=YB a.length a rfl j k e b g c i o
end
end
