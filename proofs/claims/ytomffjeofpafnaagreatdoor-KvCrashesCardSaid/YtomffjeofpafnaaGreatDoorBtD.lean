import Derived.Test.YtomffjeofpafnaaGreatDoorBtC
namespace Lim
open Go
noncomputable section
set_option linter.defProp false
section
variable {c:dq}{v:List UInt8}{pc:List Nat}
structure tI (G G1:GM)(key:bY)(f:db)(rest:List db)(L:List aW)(k:Nat):Prop where
 ex:∃lo hi Ll Lr ps Lt pt Ld pd xE po BK,pk G key f rest L lo hi Ll Lr ps Lt pt Ld pd/\fx G (f.n.cells.drop (f.at_+k)) xE BK/\pd=po++BK/\(∀x∈xE,dO key x.1)/\Yq G po/\G1=iz G po/\((k=0/\Ld=xE)\/∃w,Ld=(key,w)::xE)
 found:(k=1/\∃c,f.n.cells[f.at_]?=some c/\c.key=key)\/(k=0/\G1=G/\∀c,f.n.cells[f.at_]?=some c->c.key≠key)
section
variable {G G1 G2:GM} {key:bY} {f:db} {rest:List db} {L:List aW} {k:Nat} {lo:bY} {hi:Option bY} {Ll Lr:List aW} {ps:List Nat} {Lt:List aW} {pt:List Nat} {Ld:List aW} {pd:List Nat}
def pk.Xg (h:pk G key f rest L lo hi Ll Lr ps Lt pt Ld pd)(r:uK G)(i:f.n.cells[f.at_]?=some c)(g:c.key=key):∃w po,Bx G c w po/\po.Nodup/\tI G (iz G po) key f rest L 1/\(iz G po).cD=G.cD+po.length/\iE L key=some w:=by
 obtain⟨w,po,m,s,a,b,rfl,rfl,e,q⟩:=h.found i g;have d:=h.nd
 have l:po.Nodup:=by
  simp only[aHX,aIE]at d;exact d.2.1.2.1.1
 have j:=Ye r l λp o=>h.cd.aE p (by simp[o]);exact⟨w,po,a,l,⟨⟨lo,hi,Ll,Lr,ps,Lt,pt,_,_,m,po,s,h,b,rfl,e,j,rfl,.inr ⟨w,rfl⟩⟩,.inl ⟨rfl,c,i,g⟩⟩,j.free,q⟩
def pk.afu (h:pk G key f rest L lo hi Ll Lr ps Lt pt Ld pd)(b:uK G)(a:∀c,f.n.cells[f.at_]?=some c->c.key≠key):tI G G key f rest L 0:=
 ⟨⟨lo,hi,Ll,Lr,ps,Lt,pt,Ld,pd,Ld,[],pd,h,h.cd,rfl,(h.Hr a).1,Ye b wb wb,rfl,.inl ⟨rfl,rfl⟩⟩,.inr ⟨rfl,rfl,a⟩⟩
def AK {l1 l2:List dq}{cm:List dq}{n:bo}{i k:Nat}(m:n.ok)(e:n.size<=512)(l:n.leaf=true)(a:∀c∈cm,c.ok true)(j:cm.length<=1):(fq (n.cells.take i++(cm++n.cells.drop (i+k)))).size<=640:=by
 rw[cr,l,aHP rfl]at e;have h2:=iL true n.cells i;have g:=iL true (n.cells.drop i) k;rw[aKz]at g
 have q:(cW true cm).length<=115:=by
  cases cm with
  |nil=>simp[cW]
  |cons c cm=>cases cm with
   |nil=>
    have:=(jv (a c wb)).2.1;rw[fy];simpa[cW]using this
   |cons d cm=>simp at j
 have p:=eZ true n.cells
 have o:(fq (n.cells.take i++(cm++n.cells.drop (i+k)))).cells.length<=600:=by
  unfold fq;simp;omega
 have b:=re (n:=(fq (n.cells.take i++(cm++n.cells.drop (i+k)))).cells.length) uM;rw[cr];unfold fq at b⊢;simp only[aIj,eC,aHR]at b⊢;omega
def tI.put (h:tI G G1 key f rest L k)(d:abU G1 G2 c v pc)(r:c.key=key)(s:c.ok true):
 CD G2 0 f.page rest (fq (f.n.cells.take f.at_++([c]++f.n.cells.drop (f.at_+k)))) (nt L key v)/\(fq (f.n.cells.take f.at_++([c]++f.n.cells.drop (f.at_+k)))).size<=640:=by
 obtain⟨⟨lo,hi,Ll,Lr,ps,Lt,pt,Ld,pd,l,po,C,b,A,B,o,g,rfl,m⟩,_⟩:=h
 have e:nt L key v=Ll++((Lt++([(key,v)]++l))++Lr):=by
  have j:∀x∈Ll++Lt,dO x.1 key:=λx a=>by
   rcases aHT.1 a with a|a
   .exact b.kl x a
   .exact b.kt x a
  have i:∀x∈l++Lr,dO key x.1:=λx a=>by
   rcases aHT.1 a with a|a
   .exact o x a
   .exact b.kr x a
  rcases m with⟨_,rfl⟩|⟨w,rfl⟩
  .have e:L=(Ll++Lt)++(Ld++Lr):=by rw[<-b.total];simp
   rw[e,P3 j i];simp
  .have e:L=(Ll++Lt)++(key,w)::(l++Lr):=by rw[<-b.total];simp
   rw[e,PZ j i];simp
 rw[e];refine⟨Dh (pm:=pc) (po:=po) b d.ok (d.root.trans g.root) A B (λqs u=>?_) ⟨v,pc,[],[],d.val,⟨rfl,rfl⟩,by rw[r],wb⟩ (by simp[r,s]) wb d.nd (λx a p=>d.new x a ((g.bW x).2 p)) o,AK (l1:=[]) (l2:=[]) b.node.ok b.node.size b.leaf (by simp[s]) wb⟩;have y:Kept G (iz G po) qs:=λq z=>⟨λp=>(g.bW q).2 (u q z),g.cont q⟩;exact y.trans (d.kept qs λx a=>(g.bW x).2 (u x a))
def tI.del (h:tI G G1 key f rest L 1):CD G1 0 f.page rest (fq (f.n.cells.take f.at_++f.n.cells.drop (f.at_+1))) (pz L key)/\(fq (f.n.cells.take f.at_++f.n.cells.drop (f.at_+1))).size<=640:=by
 obtain⟨⟨lo,hi,Ll,Lr,ps,Lt,pt,Ld,pd,g,po,A,b,s,u,o,d,rfl,j⟩,_⟩:=h
 have e:pz L key=Ll++((Lt++([]++g))++Lr):=by
  have m:∀x∈Ll++Lt,dO x.1 key:=λx a=>by
   rcases aHT.1 a with a|a
   .exact b.kl x a
   .exact b.kt x a
  have l:∀x∈g++Lr,dO key x.1:=λx a=>by
   rcases aHT.1 a with a|a
   .exact o x a
   .exact b.kr x a
  rcases j with⟨h,_⟩|⟨w,rfl⟩
  .cases h
  .have e:L=(Ll++Lt)++(key,w)::(g++Lr):=by rw[<-b.total];simp
   rw[e,Sm m l];simp
 rw[e];have hl:=Dh (cm:=[]) (Lm:=[]) (pm:=[]) (po:=po) b d.ok d.root s u (λy r q p=>⟨λz=>(d.bW q).2 (r q p),d.cont q⟩) ⟨rfl,rfl⟩ wb wb wb wb o;rw[aIm]at hl;have hs:=AK (l1:=[]) (l2:=[]) (cm:=[]) (i:=f.at_) (k:=1) b.node.ok b.node.size b.leaf wb wb;rw[aIm]at hs;exact⟨hl,hs⟩
def KK {r:Nat}(e:abU G G1 c v pc)(j:c.ok true)(a:IZ G1 (fq [c]) G2 r):fC (G2.fD r) (nt [] c.key v):=by
 have g:fx G1 [c] [(c.key,v)] pc:=⟨v,pc,[],[],e.val,⟨rfl,rfl⟩,rfl,wb⟩;have b:r∉pc:=λhh=>a.not (g.aE r hh);refine⟨a.ok.fD _,.inr ⟨0,r::pc,aHX.2 ⟨b,e.nd⟩,fq [c],pc,⟨a.is.bW,a.is.cont,a.is.ok,a.is.size,a.is.full⟩,⟨rfl,afp,?_,λd i=>⟨?_,afp⟩⟩,rfl⟩⟩
 .exact g.kept (G':=G2.fD r) (a.kept pc b)
 .exact ij _
def Qw (b:c.ok true):(fq [c]).ok/\(fq [c]).size<=512:=by
 refine⟨⟨λd a=>by simp[fq]at a;subst a;exact b,by unfold jc fq;simp,rfl,by simp[fq]⟩,?_⟩;have:=(jv b).2.1;have g:(uv ([c]:List dq).length).length=1:=eR wb;have e:cW true [c]=iM true c:=by simp[cW]
 rw[cr];unfold fq;simp only[g,e,aIj];omega
end
end
set_option maxRecDepth 100000
section
variable {τ:Nat} {π:PI} {st st':St} {G:GM}
def MA (h:Tg τ π st G)(p:Nat)(a:p<=1000):R 43 [.ptr τ 0,I p] st λv st'=>v=.bool (decide (G.cD<24+p))/\st'=st:=by
 refine bK ?_;rw[w43];refine h.get' ?_;refine(P7 h.pg).same ?_
 have e:aj .add none true (.int .i64 24) (I p) st=.ok (I ((24+p:Nat):Int)) st:=by
  have:aj .add none true (I ((24:Nat):Int)) (I p) st=.ok (I ((24+p:Nat):Int)) st:=O8
  exact this
 rw[e,af,dD,af];exact⟨rfl,rfl⟩
def Hn {G:GM}{a:bY}{f:db}{b:List db}{L:List aW}(d:vX G a f b L)(i:uK G):(∃c,f.n.cells[f.at_]?=some c/\c.key=a)\/tI G G a f b L 0:=by
 obtain⟨lo,hi,p,o,ps,m,k,Ld,l,j⟩:=d.EX
 by_cases h:∃c,f.n.cells[f.at_]?=some c/\c.key=a
 .exact .inl h
 .exact .inr (j.afu i λc g e=>h ⟨c,g,e⟩)
def abO (τ:Nat)(π:PI)(G:GM)(b v:List UInt8)(L:List aW)(st:St)(d:List CV)(s:St):Prop:=
 ∃x c,d=[.ptr τ 0,.str b,.str v,x]/\Kp π.W st s/\Tg τ π s c/\uK c/\G.cD<=c.cD/\c.aE=G.aE/\
  c.ef.length<=G.ef.length+bN ((iE L b).getD []).length/\((c=G/\G.root=0/\x=.ae)\/∃f a k,vX G b f a L/\tI G c b f a L k/\(a.length<=16/\(G.aE<=4095->a.length<=10))/\fR s π.W x (a.reverse++[f]))
def Uu (G:GM)(L:List aW)(a v:List UInt8):Nat:=G.ef.length+bN ((iE L a).getD []).length+bN v.length+if G.aE<=4095 then 23 else 35
def MT {G:GM}{c:dq}{w:List UInt8}{po:List Nat}(h:Bx G c w po):po.length<=bN w.length:=by
 rcases h with⟨_,_,rfl⟩|⟨_,_,b,_,a⟩
 .simp
 .have:=a.len;unfold bN;rw[aHM uM];omega
def yA (τ:Nat)(π:PI)(G:GM)(a v:List UInt8)(L:List aW)(st:St)(y:CV)(st':St):Prop:=
 if 48<a.length\/8192<v.length then y=I 1/\Kp [] st st' else if G.cD<24+bN v.length then y=I 3/\Kp [] st st' else DL τ π G (nt L a v) (Uu G L a v) (18+bN v.length) st y st'
def Lg (h:Tg τ π st G){L:List aW}(Q:fC G L)(r v:List UInt8):R 11 [.ptr τ 0,.str r,.str v] st (yA τ π G r v L st):=by
 refine bK ?_;rw[w11];have eF:∀b,st.nx<=b->b∉π.all/\b≠τ:=λb hb=>⟨λhh=>acw,λe=>abx⟩;have rH:=h.TH;have wc:∀q,st.nx<=q->q∉π.W:=λq hq hh=>adi
 have e0:aj .gtr none true (I r.length) (.int .i64 48) st=.ok (.bool (decide (48<r.length))) st:=BT
 have e1:aj .gtr none true (I v.length) (.int .i64 8192) st=.ok (.bool (decide (8192<v.length))) st:=BT
 have bi:∀K:CV->Prop,K (.bool (decide (48<r.length\/8192<v.length)))->us (br (ao false (.bool (decide (48<r.length)))) st (.ok (.str v) st)) (λx4=>us (br (ao false (.bool (decide (48<r.length)))) st (bt .str x4 st)) λx5=>us (br (ao false (.bool (decide (48<r.length)))) st (aj .gtr none true x5 (.int .i64 8192) st)) λx6=>us (bk (.bool (decide (48<r.length))) (.bool true) x6 st) K):=λK hK=>by
  by_cases VM:48<r.length
  .rw[aHQ (.inl VM)]at hK;simp only[aHQ VM,aG,aHH,aHV,aIb,bU,af,aF,aIj];exact hK
  .simp only[aHL VM,aG,aHH,aHV,aHY,ba,af,aF,gQ,e1]
   simpa[VM]using hK
 rw[cc,af,ag,aHM xI,gQ,af,e0,af];refine bi _ ?_;rw[ag]
 by_cases sZ:48<r.length\/8192<v.length
 .rw[aHQ sZ,aHP rfl];unfold yA;rw[aHP sZ];exact⟨rfl,Kp.refl _ _⟩
 have Kw:r.length<=48:=uM
 have aO:v.length<=8192:=uM
 rw[aHL sZ,aHM xI,gQ,af];refine(Ew (n:=v.length) uM).same ?_;have aQ:bN v.length<=1000:=by unfold bN;split<;>omega
 refine(MA h _ aQ).same ?_;rw[ag]
 by_cases kX:G.cD<24+bN v.length
 .rw[aHQ kX,aHP rfl];unfold yA;rw[aHM sZ,aHP kX];exact⟨rfl,Kp.refl _ _⟩
 rw[aHL kX,aHM xI];unfold yA;simp only[aHM sZ,aHM kX];refine(Eu h Q r).mono ?_;rintro _ s3 ⟨k3,x,rfl,hx⟩;have t3:=h.still k3;have e2:∀s,aj .neq (some .int) true (I 0) (.int .i64 0) s=.ok (.bool false) s:=λs=>rfl;rw[aD,af,aI,aD,af,e2,af,ag,aHM xI];refine kY (abO τ π G r v L st) ?_ ?_
 .intro mM HR;rcases hx with⟨ua,rfl⟩|⟨f,a,N,⟨AX,Km⟩,Z⟩
  .have e3:aj .gtr none true (.int .i64 0) (.int .i64 0) s3=.ok (.bool false) s3:=rfl;rw[wE,af,e3,af,ag,aHM xI];exact HR _ _ ⟨_,G,rfl,k3.mono wb,t3,Q.ok,aHK _,rfl,aKy _ _,.inl ⟨rfl,ua,rfl⟩⟩
  .obtain⟨qR,A1,gO,lI,KD⟩:=N.size;have ZC:=Z π.W rH;have yl:(a.reverse++[f]).length=a.length+1:=by simp
   have hlen:=ZC.len s3;rw[yl]at hlen;have e3:aj .gtr none true (I ((a.length+1:Nat):Int)) (.int .i64 0) s3=.ok (.bool true) s3:=by rw[av,dh,aHQ uM]
   have e4:=zX (a.length+1) uM uM s3 none;rw[aJh]at e4;obtain⟨y,d,S,P,jT⟩:=ZC.row (i:=a.length) wb;have hf:(a.reverse++[f])[a.length]'(by simp)=f:=wb
   rw[hf]at S P jT;rw[hlen,af,e3,af,ag,aHP rfl,af,e4,af];refine jT _ ?_;refine pH S.bL.2.1 P.bL.2.1 ?_;have J:Kp [] s3 (St.new s3 (.cells [I f.page,I f.at_,.bool f.n.leaf,y,d] 107 false)):=(Kp.refl [] s3).new _;have TE:(St.new s3 (.cells [I f.page,I f.at_,.bool f.n.leaf,y,d] 107 false)).m.g s3.nx=some (.cells [I f.page,I f.at_,.bool f.n.leaf,y,d] 107 false):=au _ _;generalize St.new s3 (.cells [I f.page,I f.at_,.bool f.n.leaf,y,d] 107 false)=ic at*;have V:=t3.still J;have aa:=S.mono (J.mono wb);have ac:=k3.trans J wb;have YE:=ZC.mono (J.mono wb);simp only[fl,ah,af,az,TE,ar,aHN,Nat.reduceAdd,aHI,aHG,aw,aa.len f.n.cells.length (bQ _) uM ic,dD]
   by_cases hlt:f.at_<f.n.cells.length
   .rw[aHQ hlt];obtain⟨b,p,l,t,g,q1,q2,q3,q4,q5⟩:=aa.cellAt (L:=f.n.cells.map bg) uM (fQ _) (i:=f.at_) Yt;have q6:=q5 0 (.str f.n.cells[f.at_].key) acm;rw[aIv]at q6;simp only[aG,aIj,ba,af,iy,jl,ah,az,TE,ar,aHN,aIv,Nat.reduceAdd,aHI,aHG,aw,q1,q2,q6,ep,mT,aF,ag]
    by_cases O:f.n.cells[f.at_].key=r
    .rw[aHQ O,aHP rfl];obtain⟨lo,hi,Ll,Lr,ps,Lt,pt,Ld,pd,hA⟩:=N.EX;obtain⟨w,po,hv,ZV,D,A7,aV⟩:=hA.Xg Q.ok (aHO hlt) O;refine aa.gU (L:=f.n.cells.map bg) uM (fQ _) Yt _ ?_;have e:(f.n.cells.map bg)[f.at_]'(by simpa using hlt)=bg f.n.cells[f.at_]:=by simp
     rw[e];have BN:=A1.cell _ (aIc hlt);rw[gO]at BN;refine(DA V BN hv ZV).mono ?_;rintro _ ml ⟨rfl,Zk,ax⟩;rw[e2,af,ag,aHM xI];have hD:=D.ex;obtain⟨_,_,_,_,_,_,_,_,_,_,bn,_,_,_,_,_,hD,eG,_⟩:=hD;refine HR _ _ ⟨_,_,rfl,(ac.mono wb).trans Zk afk,ax,by rw[eG];exact hD.ok,by rw[A7];omega,by rw[eG];exact hD.aE,by have h1:=KM G po;have h2:=MT hv;rw[aV];show _<=_+bN w.length;omega,.inr ⟨f,a,1,N,D,⟨AX,Km⟩,YE.mono Zk⟩⟩
    .rw[aHL O,aHM xI];rcases Hn N Q.ok with⟨c,hc,vO⟩|D
     .rw[aHO hlt]at hc;cases hc;exact absurd vO O
     .exact HR _ _ ⟨_,G,rfl,ac.mono wb,V,Q.ok,aHK _,rfl,aKy _ _,.inr ⟨f,a,0,N,D,⟨AX,Km⟩,YE⟩⟩
   .rw[aHL hlt];simp only[aG,aHH,aHV,aIj,bU,af,iy,jl,aF,ag];rcases Hn N Q.ok with⟨c,hc,vO⟩|D
    .obtain⟨h1,_⟩:=aHW.1 hc;exact absurd h1 hlt
    .exact HR _ _ ⟨_,G,rfl,ac.mono wb,V,Q.ok,aHK _,rfl,aKy _ _,.inr ⟨f,a,0,N,D,⟨AX,Km⟩,YE⟩⟩
 .rintro _ s4 ⟨x,G1,rfl,K4,t4,ok1,bC,bb,Tx,Mu⟩;simp only[aK,aL];refine(Pr t4 Kw aO uM).mono ?_;rintro _ B ⟨k5,c,G2,pc,rfl,vO,BN,H,t5⟩;have n5:=k5.nx;have n4:=K4.nx;have K5:=K4.trans k5 afk;rw[aD,af,aI,aD,af];refine mW rfl rfl (gT c) ?_;have k7:Kp [] B (St.new B (.cells (bg c) 109 false)):=(Kp.refl [] B).new _;have g7:(St.new B (.cells (bg c) 109 false)).m.g B.nx=some (.cells (bg c) 109 false):=au _ _;have n7:(St.new B (.cells (bg c) 109 false)).nx=B.nx+1:=rfl;generalize St.new B (.cells (bg c) 109 false)=o at*;have t7:=t5.still k7;have K7:=K5.trans k7 wb;rw[e2,af,ag,aHM xI];rcases Mu with⟨rfl,ua,rfl⟩|⟨f,a,k,N,D,⟨AX,Km⟩,Z⟩
  .have X0:L=[]:=by
    rcases Q.tree with h|⟨hh,ps,_,hs⟩
    .exact h.2
    .obtain⟨n,q,hn,_⟩:=hs;have:=hn.bW.1;omega
   subst X0;have e3:aj .eql (some .int) true (.int .i64 0) (.int .i64 0) o=.ok (.bool true) o:=rfl;rw[wE,af,e3,af,ag,aHP rfl,aM (n:=4) g7 rfl,af,vS (k:=4) rfl rfl rfl,aP,aT];have k8:Kp [] o (St.new o (.cells (bg c) 109 false)):=(Kp.refl [] o).new _;have g8:(St.new o (.cells (bg c) 109 false)).m.g o.nx=some (.cells (bg c) 109 false):=au _ _;have n8:(St.new o (.cells (bg c) 109 false)).nx=o.nx+1:=rfl;generalize St.new o (.cells (bg c) 109 false)=j at*;have t8:=t7.still k8;have mo:aZ [.bool false,.ae,.ae] [(0,1,.bool true),(1,1,.slice o.nx 0 1 1 0)] j=.ok (.agg [.bool true,.slice o.nx 0 1 1 0,.ae]) j:=rfl;rw[mo,af]
   have Q0:IsNode j π.W (.agg [.bool true,.slice o.nx 0 1 1 0,.ae]) (fq [c]):=
    ⟨_,_,rfl,.inr ⟨o.nx,0,1,1,0,rfl,rfl,⟨aHK _,.inl rfl⟩,.inr ⟨wc _ uM,uM,_,_,_,g8,acm,by simp[fq,bM,bg]⟩⟩,.inl ⟨rfl,rfl⟩⟩
   have NW:=H.free;obtain⟨l1,l2⟩:=Qw BN;have xP:=SK H.ok (show 0<G2.cD from uM) l1 l2 (.inl rfl);refine(DY t8 uM Q0 l1 l2).mono ?_;rintro _ s9 ⟨rfl,k9,t9⟩;rw[aD,af,aI,aD,af,e2,af,ag,aHM xI];refine t9.get' ?_;refine(tU t9.pg _ (.inr xP.is.bW)).mono ?_;rintro _ bm ⟨rfl,oq,aA⟩;refine⟨rfl,(((K7.trans k8 wb).trans k9 afk).trans oq afk),_,t9.of oq aA,?_,?_⟩
   .have:=KK H BN xP
    rwa [vO]at this
   .exact⟨xP.aE.trans H.aE,by have h1:=xP.ef;have h2:=H.ef;refine aIz h1 ?_;unfold Uu;split<;>omega,by have h1:=xP.free;refine aIz (m:=(G2.alloc.put G2.dA (.node (fq [c]))).cD+(18+bN v.length)) uM (aHK _)⟩
  .obtain⟨qR,A1,gO,lI,KD⟩:=N.size;have C:=Z.mono (k5.trans k7 wb);have yl:(a.reverse++[f]).length=a.length+1:=by simp
   have hlen:=C.len o;rw[yl]at hlen;have e3:aj .eql (some .int) true (I ((a.length+1:Nat):Int)) (.int .i64 0) o=.ok (.bool false) o:=Pe
   have e4:=zX (a.length+1) uM uM o none;rw[aJh]at e4;obtain⟨y,d,S,P,jT⟩:=C.row (i:=a.length) wb;have hf:(a.reverse++[f])[a.length]'(by simp)=f:=wb
   rw[hf]at S P jT
   have HO:f.n.kids=[]:=by
    have:=A1.jR;rw[gO,aHP rfl]at this;exact aIh.1 this
   rw[hlen,af,e3,af,ag,aHM xI,af,e4,af];rw[gO]at jT;refine jT _ ?_;refine pH S.bL.2.1 P.bL.2.1 ?_;have k8:Kp [] o (St.new o (.cells [I f.page,I f.at_,.bool true,y,d] 107 false)):=(Kp.refl [] o).new _;have g8:(St.new o (.cells [I f.page,I f.at_,.bool true,y,d] 107 false)).m.g o.nx=some (.cells [I f.page,I f.at_,.bool true,y,d] 107 false):=au _ _;have n8:(St.new o (.cells [I f.page,I f.at_,.bool true,y,d] 107 false)).nx=o.nx+1:=rfl;generalize St.new o (.cells [I f.page,I f.at_,.bool true,y,d] 107 false)=j at*;have a1:=(k8.keep B.nx uM wb).trans g7
   have Kz:∀K:CV->Prop,K (.agg [.bool true,y,d])->OZ 3 2 (.ptr o.nx 0) j K:=λK hK=>by
    unfold OZ;rw[ah,af,gL (n:=3) g8 wb,af];exact hK
   refine Kz _ ?_;refine tV S.bL.2.1 P.bL.2.1 ?_;have k9:Kp [] j (St.new j (.cells [.bool true,y,d] 105 false)):=(Kp.refl [] j).new _;have g9:(St.new j (.cells [.bool true,y,d] 105 false)).m.g j.nx=some (.cells [.bool true,y,d] 105 false):=au _ _;have n9:(St.new j (.cells [.bool true,y,d] 105 false)).nx=j.nx+1:=rfl;generalize St.new j (.cells [.bool true,y,d] 105 false)=s9 at*;have aY:=(k9.keep o.nx uM wb).trans g8;have a0:=(k9.keep B.nx uM wb).trans a1;have ad:=k8.trans k9 wb;rw[fl,ah,af,az,g9,ar];simp only[aHN,aHI,aHG,aw];refine(xp ((S.eH (Y:=[]) wb).mono (ad.mono wb)) (eV _) acF).mono ?_;rintro z M ⟨F1,Ck,o1,Om,_⟩;have bu:=Ck.nx;have a4:=(Ck.keep j.nx uM wb).trans g9;have a7:=(Ck.keep o.nx uM wb).trans aY;have a6:=(Ck.keep B.nx uM wb).trans a0;obtain⟨YW,UG⟩:=o1.cF;have qf:bz [.bool true,y,d] 1 [z]=[.bool true,z,d]:=rfl;rw[Lim.fst,ah,af,aH,a4,aS,UG,aHN,qf];refine⟨⟨rfl,by simp[YW],wb⟩,?_⟩;have NG:Kp [] o (St.set M j.nx (.cells [.bool true,z,d] 105 false)):=(ad.trans Ck wb).set _ (.inr uM) uM;have RW:(St.set M j.nx (.cells [.bool true,z,d] 105 false)).m.g j.nx=some (.cells [.bool true,z,d] 105 false):=an _ _ _;have ai:(St.set M j.nx (.cells [.bool true,z,d] 105 false)).m.g o.nx=_:=(ak _ _ _ _ uM).trans a7;have ab:(St.set M j.nx (.cells [.bool true,z,d] 105 false)).m.g B.nx=_:=(ak _ _ _ _ uM).trans a6;have bs:(St.set M j.nx (.cells [.bool true,z,d] 105 false)).nx=M.nx:=rfl;have uU:∀b∈F1,j.nx<b/\b<M.nx:=λb hb=>aeH
   have X:Own (St.set M j.nx (.cells [.bool true,z,d] 105 false)) z 4 109 (bM f.n.cells) F1:=o1.mono λb hb=>by have:=uU b hb;rw[ak _ _ _ _ uM]
   generalize St.set M j.nx (.cells [.bool true,z,d] 105 false)=u at*;have bD:=K7.trans NG wb;have bl:=t7.still NG;have bA:=C.mono (NG.mono wb);have bx:Sl u π.W d 1 (cP []):=by rw[<-HO];exact P.mono (NG.mono wb)
   refine kY (λvs s=>∃U T,vs=[.ptr τ 0,x,.ptr j.nx 0]/\Kp π.W st s/\Tg τ π s G2/\fR s π.W x (a.reverse++[f])/\s.m.g j.nx=some (.cells [.bool true,U,T] 105 false)/\IsNode s π.W (.agg [.bool true,U,T]) (fq (f.n.cells.take f.at_++([c]++f.n.cells.drop (f.at_+k))))) ?_ ?_
   .intro aN ap;have aq:Sl u [] z 4 (f.n.cells.map bg).flatten:=X.sl λb hb=>⟨wb,TO⟩;simp only[fl,ah,af,az,RW,ai,ar,aHN,aHI,aHG,aw,aq.len f.n.cells.length (bQ _) uM u,dD]
    have am:k=0->R 51 [z,I f.at_,.slice u.nx 0 1 1 0] (St.new u (.cells (bg c) 109 false)) λA F=>Lim.fst 1 1 (.ptr j.nx 0) A F λCP=>aN [.ptr τ 0,x,.ptr j.nx 0] CP:=by
     intro Tt;have kA:Kp [] u (St.new u (.cells (bg c) 109 false)):=(Kp.refl [] u).new _;have gA:(St.new u (.cells (bg c) 109 false)).m.g u.nx=some (.cells (bg c) 109 false):=au _ _;have nA:(St.new u (.cells (bg c) 109 false)).nx=u.nx+1:=rfl;generalize St.new u (.cells (bg c) 109 false)=sA at*;have oA:=X.keep kA λb hb=>⟨TO,wb⟩;refine(Hu oA (bQ _) uM (λb hb=>TO) gA (λhh=>adj) rfl (eV _) (gT _) KD).mono ?_;rintro A F ⟨F2,o2,Xc,a5⟩;have bp:=Xc.nx;have ZL:j.nx∉F1:=λhh=>adj
     have a3:=((Xc.keep j.nx uM ZL).trans (kA.keep j.nx uM wb)).trans RW;obtain⟨aC,aB⟩:=o2.cF;have kJ:bz [.bool true,z,d] 1 [A]=[.bool true,A,d]:=rfl;rw[Lim.fst,ah,af,aH,a3,aS,aB,aHN,kJ];refine⟨⟨rfl,by simp[aC],wb⟩,?_⟩
     have tY:∀b∈F2,j.nx<b/\b<F.nx:=λb hb=>by
      obtain⟨p1,p2⟩:=a5 b hb;refine⟨?_,p2⟩;rcases p1 with h|h
      .have:=(uU b h).1;omega
      .omega
     have KL:(bM f.n.cells).take (f.at_*4)++(bg c++(bM f.n.cells).drop (f.at_*4))=bM (fq (f.n.cells.take f.at_++([c]++f.n.cells.drop (f.at_+k)))).cells:=by
      rw[lL _ _ KD,lM _ _ KD,Tt];show _=bM (f.n.cells.take f.at_++c::f.n.cells.drop f.at_);rw[iA]
      congr 1
     rw[KL]at o2;have aJ:Own (St.set F j.nx (.cells [.bool true,A,d] 105 false)) A 4 109 (bM (fq (f.n.cells.take f.at_++([c]++f.n.cells.drop (f.at_+k)))).cells) F2:=o2.mono λb hb=>by have:=tY b hb;rw[ak _ _ _ _ uM]
     have UW:Kp [] o (St.set F j.nx (.cells [.bool true,A,d] 105 false)):=((NG.trans kA wb).trans Xc λq hq=>.inr (by have:=uU q hq;omega)).set _ (.inr uM) uM;have bB:Kp (j.nx::F1) u (St.set F j.nx (.cells [.bool true,A,d] 105 false)):=((kA.mono wb).trans Xc λq hq=>.inl aaa).set _ (.inl wb) uM;have a2:(St.set F j.nx (.cells [.bool true,A,d] 105 false)).m.g j.nx=some (.cells [.bool true,A,d] 105 false):=an _ _ _;have bo:(St.set F j.nx (.cells [.bool true,A,d] 105 false)).nx=F.nx:=rfl;generalize St.set F j.nx (.cells [.bool true,A,d] 105 false)=CP at*;have bh:Sl CP π.W d 1 (cP []):=by rw[<-HO];exact P.mono (UW.mono wb)
     exact ap _ _ ⟨A,d,rfl,K7.trans UW wb,t7.still UW,C.mono (UW.mono wb),a2,A,d,rfl,aJ.sl λb hb=>⟨wc b Tc,Tc⟩,bh⟩
    by_cases hlt:f.at_<f.n.cells.length
    .rw[aHQ hlt];obtain⟨b,p,l,t,g,q1,q2,q3,q4,q5⟩:=aq.cellAt uM (fQ _) (i:=f.at_) Yt;have q6:=q5 0 (.str f.n.cells[f.at_].key) acm;rw[aIv]at q6;simp only[aG,aIj,ba,af,iy,jl,ah,az,RW,ai,ar,aHN,aIv,aHI,aHG,aw,q1,q2,q6,ep,mT,aF,ag]
     by_cases O:f.n.cells[f.at_].key=r
     .rw[aHQ O,aHP rfl,aM (n:=4) ab rfl,af]
      have nZ:k=1:=by
       rcases D.found with⟨h,_⟩|⟨_,_,h⟩
       .exact h
       .exact absurd O (h _ (aHO hlt))
      obtain⟨E,rfl,xO,a8⟩:=mB X uM (bQ _) uM;have bw:=uU E (by simp[xO])
      have aR:cV 4 (.slice E 0 f.n.cells.length f.n.cells.length 4) (I f.at_) u=.ok (.ptr E (f.at_*4)) u:=by
       have:=gp (size:=4) (off:=0) (cap:=f.n.cells.length) (grow:=4) hlt (.inr (aHK _)) u (b:=E)
       rwa [aHN]at this
      have ZY:bz (bM f.n.cells) (f.at_*4) (bg c)=bM (fq (f.n.cells.take f.at_++([c]++f.n.cells.drop (f.at_+k)))).cells:=by
       unfold bM;rw[yq (fQ _) _ Yt _ rfl,nZ];unfold fq;rw[aKg,aHP Yt];simp[aJI,aJs]
      unfold Hw;rw[aR,af,aH,a8,aS,aT,ZY];refine⟨⟨rfl,rfl,acF⟩,?_⟩;have UX:Kp [] o (St.set u E (.cells (bM (fq (f.n.cells.take f.at_++([c]++f.n.cells.drop (f.at_+k)))).cells) 109 true)):=NG.set _ (.inr uM) uM;have a9:(St.set u E (.cells (bM (fq (f.n.cells.take f.at_++([c]++f.n.cells.drop (f.at_+k)))).cells) 109 true)).m.g E=some (.cells (bM (fq (f.n.cells.take f.at_++([c]++f.n.cells.drop (f.at_+k)))).cells) 109 true):=an _ _ _;have VS:(St.set u E (.cells (bM (fq (f.n.cells.take f.at_++([c]++f.n.cells.drop (f.at_+k)))).cells) 109 true)).m.g j.nx=_:=(ak _ _ _ _ uM).trans RW;have bq:(St.set u E (.cells (bM (fq (f.n.cells.take f.at_++([c]++f.n.cells.drop (f.at_+k)))).cells) 109 true)).nx=u.nx:=rfl;generalize St.set u E (.cells (bM (fq (f.n.cells.take f.at_++([c]++f.n.cells.drop (f.at_+k)))).cells) 109 true)=jG at*;have ecl:(fq (f.n.cells.take f.at_++([c]++f.n.cells.drop (f.at_+k)))).cells.length=f.n.cells.length:=by unfold fq;simp;omega
      have bf:Sl jG π.W d 1 (cP []):=by rw[<-HO];exact P.mono (UX.mono wb)
      exact ap _ _ ⟨_,d,rfl,K7.trans UX wb,t7.still UX,C.mono (UX.mono wb),VS,_,d,rfl,.inr ⟨E,0,_,_,4,rfl,by rw[bQ,ecl],⟨aHK _,.inr rfl⟩,.inr ⟨wc _ uM,uM,_,_,_,a9,adL,by rw[aIn,aHS adL]⟩⟩,bf⟩
     .rw[aHL O,aHM xI,aM (n:=4) ab rfl,af,vS (k:=4) rfl rfl rfl,aP,aT];refine am ?_;rcases D.found with⟨_,c',pw,al⟩|⟨h,_⟩
      .rw[aHO hlt]at pw;cases pw;exact absurd al O
      .exact h
    .rw[aHL hlt];simp only[aG,aHH,aHV,aIj,bU,af,iy,jl,aF,ag];rw[aM (n:=4) ab rfl,af,vS (k:=4) rfl rfl rfl,aP,aT];refine am ?_;rcases D.found with⟨_,c',pw,al⟩|⟨h,_⟩
     .obtain⟨h1,_⟩:=aHW.1 pw;exact absurd h1 hlt
     .exact h
   .rintro _ jG ⟨U,T,rfl,bj,t17,bd,VS,Y0⟩;simp only[aK,aL];obtain⟨gg,gs⟩:=D.put H vO BN;refine gI (n:=fq (f.n.cells.take f.at_++([c]++f.n.cells.drop (f.at_+k)))) VS ?_;have NW:=H.free;refine(MD t17 gg gs uM bd Y0 AX).mono ?_;rintro _ fv ⟨rfl,NI,G',ay,be,px,Ms,bv⟩;refine⟨rfl,bj.trans NI afk,G',ay,be,px.trans (H.aE.trans bb),?_,uM⟩;have h2:=H.ef;unfold Uu
    split
    .rename_i h;have:=Km h;omega
    .omega
end
section
variable {τ:Nat} {π:PI} {st st':St} {G:GM}
def KZ (τ:Nat)(π:PI)(G:GM)(a:List UInt8)(L:List aW)(st:St)(y:CV)(st':St):Prop:=
 if 48<a.length then y=.tuple [.bool false,I 1]/\Kp [] st st' else if G.cD<24 then y=.tuple [.bool false,I 3]/\Kp [] st st' else
  y=.tuple [.bool (iE L a).isSome,I 0]/\Kp π.W st st'/\∃G',Tg τ π st' G'/\fC G' (pz L a)/\G'.aE=G.aE
def Uc (h:Tg τ π st G){L:List aW}(M:fC G L)(j:bY):R 41 [.ptr τ 0,.str j] st (KZ τ π G j L st):=by
 refine bK ?_;rw[w41];have eF:∀b,st.nx<=b->b∉π.all/\b≠τ:=λb hb=>⟨λhh=>acw,λe=>abx⟩;have rH:=h.TH;have wc:∀q,st.nx<=q->q∉π.W:=λq r hh=>adi
 have e0:aj .gtr none true (I j.length) (.int .i64 48) st=.ok (.bool (decide (48<j.length))) st:=BT
 rw[cc,af,ag,aHM xI,gQ,af,e0,af,ag];unfold KZ
 by_cases A:48<j.length
 .rw[aHQ A,aHP rfl];simp only[aHP A];exact⟨afp,Kp.refl _ _⟩
 rw[aHL A,aHM xI];have ac:=MA h 0 uM;refine ac.same ?_;rw[ag]
 by_cases kX:G.cD<24+0
 .rw[aHQ kX,aHP rfl];simp only[aHM A];rw[aHP uM];exact⟨afp,Kp.refl _ _⟩
 rw[aHL kX,aHM xI];simp only[aHM A,aHM (show¬G.cD<24 by omega)];refine(Eu h M j).mono ?_;rintro _ s2 ⟨J,x,rfl,hx⟩;have t2:=h.still J;have e2:∀s,aj .neq (some .int) true (I 0) (.int .i64 0) s=.ok (.bool false) s:=λs=>rfl;rw[aD,af,aI,aD,af,e2,af];simp only[aG,aHH,aHV,aHY,ba,af]
 have YD:∀s,Kp [] st s->iE L j=none->pz L j=L->(CV.tuple [.bool false,.int .i64 0]=.tuple [.bool (iE L j).isSome,I 0]/\Kp π.W st s/\∃G',Tg τ π s G'/\fC G' (pz L j)/\G'.aE=G.aE):=λs N h1 h2=>by
  rw[h1,h2];exact⟨rfl,N.mono wb,G,h.still N,M,rfl⟩
 rcases hx with⟨ua,rfl⟩|⟨f,d,hp,⟨AX,Km⟩,ab⟩
 .have X0:L=[]:=by
   rcases M.tree with h|⟨hh,ps,_,N⟩
   .exact h.2
   .obtain⟨n,q,hn,_⟩:=N;have:=hn.bW.1;omega
  subst X0;have e3:aj .eql (some .int) true (.int .i64 0) (.int .i64 0) s2=.ok (.bool true) s2:=rfl;simp only[wE,af,e3,aF,aHH,aHV,ag,aIj];exact YD s2 J rfl rfl
 .obtain⟨qR,A1,gO,lI,KD⟩:=hp.size;have ZD:=ab π.W rH;have yl:(d.reverse++[f]).length=d.length+1:=by simp
  have hlen:=ZD.len s2;rw[yl]at hlen;have e3:aj .eql (some .int) true (I ((d.length+1:Nat):Int)) (.int .i64 0) s2=.ok (.bool false) s2:=Pe
  have e4:=zX (d.length+1) uM uM s2 none;rw[aJh]at e4;obtain⟨o,k,S,Q,jT⟩:=ZD.row (i:=d.length) wb;have hf:(d.reverse++[f])[d.length]'(by simp)=f:=wb
  rw[hf]at S Q jT
  have HO:f.n.kids=[]:=by
   have:=A1.jR;rw[gO,aHP rfl]at this;exact aIh.1 this
  simp only[hlen,af,e3,aF,aHH,aHV,ag,e4];rw[gO]at jT;refine jT _ ?_;refine pH S.bL.2.1 Q.bL.2.1 ?_;have B:Kp [] s2 (St.new s2 (.cells [I f.page,I f.at_,.bool true,o,k] 107 false)):=(Kp.refl [] s2).new _;have g4:(St.new s2 (.cells [I f.page,I f.at_,.bool true,o,k] 107 false)).m.g s2.nx=some (.cells [I f.page,I f.at_,.bool true,o,k] 107 false):=au _ _;have n4:(St.new s2 (.cells [I f.page,I f.at_,.bool true,o,k] 107 false)).nx=s2.nx+1:=rfl;generalize St.new s2 (.cells [I f.page,I f.at_,.bool true,o,k] 107 false)=s4 at*;have ak:=J.nx;have t4:=t2.still B;have P:=S.mono (B.mono wb);have K4:=J.trans B wb;have Z:=ZD.mono (B.mono wb);obtain⟨lo,hi,Ll,Lr,ps,Lt,pt,Ld,pd,hA⟩:=hp.EX;have e5:aj .eql (some .int) false (I f.at_) (I f.n.cells.length) s4=.ok (.bool (decide (f.at_=f.n.cells.length))) s4:=O9
  simp only[fl,ah,af,az,g4,ar,aHN,Nat.reduceAdd,aHI,aHG,aw,P.len f.n.cells.length (bQ _) uM s4,e5]
  by_cases A9:f.at_=f.n.cells.length
  .obtain⟨_,so,v⟩:=hA.Hr (λc C=>by rw[A9,aIN (aHK _)]at C;cases C);rw[aHQ A9];simp only[aG,aHH,aHV,aIb,bU,af,iy,jl,aF,aIj,ag];exact YD s4 K4 so v
  .have hlt:f.at_<f.n.cells.length:=by omega
   rw[aHL A9];obtain⟨b,p,l,t,g,q1,q2,q3,q4,q5⟩:=P.cellAt (L:=f.n.cells.map bg) uM (fQ _) (i:=f.at_) Yt;have q6:=q5 0 (.str f.n.cells[f.at_].key) acm;rw[aIv]at q6;simp only[aG,aHH,aHV,aHY,ba,af,iy,jl,ah,az,g4,ar,aHN,aIv,Nat.reduceAdd,aHI,aHG,aw,q1,q2,q6,ep,oL,aF,ag]
   by_cases O:f.n.cells[f.at_].key=j
   .obtain⟨w,po,hv,ZV,iS,A7,A6⟩:=hA.Xg M.ok (aHO hlt) O;rw[aHQ O,aIb,aHM xI];refine P.gU (L:=f.n.cells.map bg) uM (fQ _) Yt _ ?_;have e:(f.n.cells.map bg)[f.at_]'(by simpa using hlt)=bg f.n.cells[f.at_]:=by simp
    rw[e];have BN:=A1.cell _ (aIc hlt);rw[gO]at BN;refine(DA t4 BN hv ZV).mono ?_;rintro _ a ⟨rfl,z,t5⟩;have n5:=z.nx;have g5:=(z.keep s2.nx uM (wc _ uM)).trans g4;have K5:=(K4.mono wb).trans z afk;rw[e2,af,ag,aHM xI]
    have Kz:∀K:CV->Prop,K (.agg [.bool true,o,k])->OZ 3 2 (.ptr s2.nx 0) a K:=λK hK=>by
     unfold OZ;rw[ah,af,gL (n:=3) g5 wb,af];exact hK
    refine Kz _ ?_;refine tV S.bL.2.1 Q.bL.2.1 ?_;have c5:=(P.mono z);have d5:=((Q.mono (B.mono wb)).mono z);have H:Kp [] a (St.new a (.cells [.bool true,o,k] 105 false)):=(Kp.refl [] a).new _;have g7:(St.new a (.cells [.bool true,o,k] 105 false)).m.g a.nx=some (.cells [.bool true,o,k] 105 false):=au _ _;have n7:(St.new a (.cells [.bool true,o,k] 105 false)).nx=a.nx+1:=rfl;generalize St.new a (.cells [.bool true,o,k] 105 false)=s7 at*;have D:=(H.keep s2.nx uM wb).trans g5;rw[bD,ah,af,az,g7,ar];simp only[aHN,aHI,aHG,aw];refine(xp ((c5.eH (Y:=[]) wb).mono (H.mono wb)) (eV _) acF).mono ?_;rintro xc s8 ⟨T,F,o1,Om,_⟩;have n8:=F.nx;have g8:=(F.keep a.nx uM wb).trans g7;have ad:=(F.keep s2.nx uM wb).trans D;have uU:∀b∈T,a.nx<b/\b<s8.nx:=λb hb=>aeH
    simp only[ah,af,ad,D,ar,aHN,aHI,aHG,aw,gJ f.at_ uM,aKc,and_true];refine(Iq (n:=f.n.cells.length) o1 (bQ _) uM (λb hb=>TO) (eV _) hlt).mono ?_;rintro u y ⟨o9,k9,n9⟩;have g9:=(k9.keep a.nx uM (λhh=>adj)).trans g8
    have ec:(bM f.n.cells).take (f.at_*4)++(bM f.n.cells).drop ((f.at_+1)*4)=bM (fq (f.n.cells.take f.at_++f.n.cells.drop (f.at_+1))).cells:=by
     rw[lL _ _ uM,lM _ _ uM,<-iA];rfl
    rw[ec]at o9
    have E:=o9 (π.W++[a.nx]) λb hb hh=>by
     have:=uU b hb;simp at hh;rcases hh with hh|hh
     .exact wc b uM hh
     .omega
    have U:Sl y (π.W++[a.nx]) k 1 (cP []):=by
     have e:cP []=cP f.n.kids:=by rw[HO]
     rw[e]
     have d7:=d5.eH (Y:=π.W++(a.nx::T)) (by
      intro b hb;simp at hb;rcases hb with h|h|h
      .exact .inl h
      .right;omega
      .right;have:=uU b h;omega)
     have uE:∀b∈π.W++[a.nx],b∈π.W++(a.nx::T):=λb hb=>by
      rcases aHT.1 hb with h|h
      .exact aJz _ h
      .have h2:=aJb.1 h;rw[h2];exact aKG _ aIO
     have d9:=((d7.mono (H.mono wb)).mono (F.mono wb)).mono (k9.mono (G:=π.W++(a.nx::T)) (by intro b hb;left;simp[hb]));exact d9.eH λb hb=>.inl (uE b hb)
    obtain⟨z1,z2,z3⟩:=E.bL;have qf:bz [.bool true,o,k] 1 [u]=[.bool true,u,k]:=rfl;rw[aH,g9,aS,z3,qf];refine⟨⟨rfl,by simp[z2],wb⟩,?_⟩;have Ze:Kp [a.nx] y (St.set y a.nx (.cells [.bool true,u,k] 105 false)):=(Kp.refl _ y).set _ (.inl wb) uM;have Mz:(St.set y a.nx (.cells [.bool true,u,k] 105 false)).m.g a.nx=some (.cells [.bool (fq (f.n.cells.take f.at_++f.n.cells.drop (f.at_+1))).leaf,u,k] 105 false):=an _ _ _;generalize St.set y a.nx (.cells [.bool true,u,k] 105 false)=aa at*;have Zg:=((H.trans F wb).trans k9 λq r=>.inr (by have:=uU q r;omega)).trans Ze (by intro q r;right;simp at r;omega)
    have Y1:IsNode aa π.W (.agg [.bool (fq (f.n.cells.take f.at_++f.n.cells.drop (f.at_+1))).leaf,u,k]) (fq (f.n.cells.take f.at_++f.n.cells.drop (f.at_+1))):=
     ⟨u,k,rfl,(E.mono (Ze.mono (by intro q r;left;exact aKG _ r))).eH (λq r=>.inl (aJz _ r)),(U.mono (Ze.mono (by intro q r;left;exact aKG _ r))).eH (λq r=>.inl (aJz _ r))⟩
    have X:=t5.still Zg;have Ue:=(Z.mono z).mono (Zg.mono wb);refine gI Mz ?_;obtain⟨gg,gs⟩:=iS.del;refine(MD X gg gs uM Ue Y1 AX).mono ?_;rintro _ dQ ⟨rfl,nK,G',V,ae,px,_⟩;rw[e2,af,ag,aHM xI,A6];have hD:=iS.ex;obtain⟨_,_,_,_,_,_,_,_,_,_,ai,_,_,_,_,_,hD,eG,_⟩:=hD;exact⟨rfl,(K5.trans Zg wb).trans nK afk,G',V,ae,px.trans (by rw[eG];exact hD.aE)⟩
   .obtain⟨_,so,v⟩:=hA.Hr (λc C=>by rw[aHO hlt]at C;cases C;exact O);rw[aHL O,aHY,aHP rfl];exact YD s4 K4 so v
end
