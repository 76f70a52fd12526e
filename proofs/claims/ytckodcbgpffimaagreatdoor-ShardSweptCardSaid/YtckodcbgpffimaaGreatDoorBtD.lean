import Derived.Test.YtckodcbgpffimaaGreatDoorBtC
namespace Lim
open Go
noncomputable section
set_option linter.defProp false
section
variable {c:dq}{v:δ Γ}{pc:δ Nat}
structure uS (G G1:GM)(key:bS)(f:dh)(rest:List dh)(L:List aT)(k:Nat):Prop where
 ex:∃lo hi Ll Lr ps Lt pt Ld pd yQ po CL,qv G key f rest L lo hi Ll Lr ps Lt pt Ld pd/\fE G (f.n.cells.drop (f.at_+k)) yQ CL/\pd=po++CL/\(∀x∈yQ,eI key x.1)/\aav G po/\G1=iW G po/\((k=0/\Ld=yQ)\/∃w,Ld=(key,w)::yQ)
 found:(k=1/\∃c,f.n.cells[f.at_]?=some c/\c.key=key)\/(k=0/\G1=G/\∀c,f.n.cells[f.at_]?=some c->c.key≠key)
section
variable {G G1 G2:GM} {key:bS} {f:dh} {rest:δ dh} {L:δ aT} {k:Nat} {lo:bS} {hi:υ bS} {Ll Lr:δ aT} {ps:δ Nat} {Lt:δ aT} {pt:δ Nat} {Ld:δ aT} {pd:δ Nat}
def qv.YZ (h:qv G key f rest L lo hi Ll Lr ps Lt pt Ld pd)(r:wb G)(j:f.n.cells[f.at_]?=Φ c)(i:c.key=key):∃w po,Cw G c w po/\po.Nodup/\uS G (iW G po) key f rest L 1/\(iW G po).bT=G.bT+po.length/\ey L key=Φ w:=by
 obtain⟨w,po,m,s,a,b,rfl,rfl,e,q⟩:=h.found j i;have g:=h.nd.nd
 have d:po.Nodup:=by
  simp only[me,zy]at g;exact g.2.1.2.1.1
 have l:=aaf r d λp o=>h.cd.aO p (by simp[o]);exact⟨w,po,a,d,⟨⟨lo,hi,Ll,Lr,ps,Lt,pt,_,_,m,po,s,h,b,rfl,e,l,rfl,.inr ⟨w,rfl⟩⟩,.inl ⟨rfl,c,j,i⟩⟩,l.free,q⟩
def qv.aif (h:qv G key f rest L lo hi Ll Lr ps Lt pt Ld pd)(b:wb G)(a:∀c,f.n.cells[f.at_]?=Φ c->c.key≠key):uS G G key f rest L 0:=
 ⟨⟨lo,hi,Ll,Lr,ps,Lt,pt,Ld,pd,Ld,[],pd,h,h.cd,rfl,(h.IJ a).1,aaf b V V,rfl,.inl ⟨rfl,rfl⟩⟩,.inr ⟨rfl,rfl,a⟩⟩
def Bu {l1 l2:List dq}{cm:List dq}{n:bp}{i k:Nat}(m:n.ok)(g:n.size<=512)(e:n.leaf=true)(a:∀c∈cm,c.ok true)(l:cm.length<=1):(fH (n.cells.take i++(cm++n.cells.drop (i+k)))).size<=640:=by
 rw[cq,e,gq rfl]at g;have h2:=jy true n.cells i;have j:=jy true (n.cells.drop i) k;rw[aOe]at j
 have q:(cY true cm).length<=115:=by
  cases cm with
  |nil=>simp[cY]
  |cons c cm=>cases cm with
   |nil=>
    have:=(kg (a c V)).2.1;rw[fU];simpa[cY]using this
   |cons d cm=>simp at l
 have p:=fD true n.cells
 have o:(fH (n.cells.take i++(cm++n.cells.drop (i+k)))).cells.length<=600:=by
  unfold fH;simp;omega
 have b:=sF (n:=(fH (n.cells.take i++(cm++n.cells.drop (i+k)))).cells.length) J;rw[cq];unfold fH at b⊢;simp only[ix,eQ,km]at b⊢;omega
def uS.put (h:uS G G1 key f rest L k)(b:aeR G1 G2 c v pc)(r:c.key=key)(s:c.ok true):
 DC G2 0 f.page rest (fH (f.n.cells.take f.at_++([c]++f.n.cells.drop (f.at_+k)))) (oO L key v)/\(fH (f.n.cells.take f.at_++([c]++f.n.cells.drop (f.at_+k)))).size<=640:=by
 obtain⟨⟨lo,hi,Ll,Lr,ps,Lt,pt,Ld,pd,m,po,H,d,C,D,u,g,rfl,o⟩,_⟩:=h
 have e:oO L key v=Ll++((Lt++([(key,v)]++m))++Lr):=by
  have l:∀x∈Ll++Lt,eI x.1 key:=λx a=>by
   rcases lh.1 a with a|a
   .exact d.kl x a
   .exact d.kt x a
  have j:∀x∈m++Lr,eI key x.1:=λx a=>by
   rcases lh.1 a with a|a
   .exact u x a
   .exact d.kr x a
  rcases o with⟨_,rfl⟩|⟨w,rfl⟩
  .have e:L=(Ll++Lt)++(Ld++Lr):=by rw[<-d.total];simp
   rw[e,RO l j];simp
  .have e:L=(Ll++Lt)++(key,w)::(m++Lr):=by rw[<-d.total];simp
   rw[e,RN l j];simp
 rw[e];refine⟨Eg (pm:=pc) (po:=po) d b.ok (b.root.trans g.root) C D (λqs i=>?_) ⟨v,pc,[],[],b.val,⟨rfl,rfl⟩,by rw[r],V⟩ (by simp[r,s]) V b.nd (λx a p=>b.new x a ((g.bV x).2 p)) u (by have h1:=b.free;have h2:=g.free;have F:=b.len;omega) (b.aO.trans g.aO),Bu (l1:=[]) (l2:=[]) d.node.ok d.node.size d.leaf (by simp[s]) V⟩;have y:Kept G (iW G po) qs:=λq z=>⟨λp=>(g.bV q).2 (i q z),g.cont q⟩;exact y.trans (b.kept qs λx a=>(g.bV x).2 (i x a))
def uS.del (h:uS G G1 key f rest L 1):DC G1 0 f.page rest (fH (f.n.cells.take f.at_++f.n.cells.drop (f.at_+1))) (mM L key)/\(fH (f.n.cells.take f.at_++f.n.cells.drop (f.at_+1))).size<=640:=by
 obtain⟨⟨lo,hi,Ll,Lr,ps,Lt,pt,Ld,pd,g,po,C,b,s,u,p,d,rfl,l⟩,_⟩:=h
 have e:mM L key=Ll++((Lt++([]++g))++Lr):=by
  have o:∀x∈Ll++Lt,eI x.1 key:=λx a=>by
   rcases lh.1 a with a|a
   .exact b.kl x a
   .exact b.kt x a
  have m:∀x∈g++Lr,eI key x.1:=λx a=>by
   rcases lh.1 a with a|a
   .exact p x a
   .exact b.kr x a
  rcases l with⟨h,_⟩|⟨w,rfl⟩
  .cases h
  .have e:L=(Ll++Lt)++(key,w)::(g++Lr):=by rw[<-b.total];simp
   rw[e,Uh o m];simp
 rw[e];have hl:=Eg (cm:=[]) (Lm:=[]) (pm:=[]) (po:=po) b d.ok d.root s u (λy j q r=>⟨λz=>(d.bV q).2 (j q r),d.cont q⟩) ⟨rfl,rfl⟩ V V V V p d.free d.aO;rw[ow]at hl;have hs:=Bu (l1:=[]) (l2:=[]) (cm:=[]) (i:=f.at_) (k:=1) b.node.ok b.node.size b.leaf V V;rw[ow]at hs;exact⟨hl,hs⟩
def Mz {r:Nat}(b:aeR G G1 c v pc)(l:c.ok true)(a:J7 G1 (fH [c]) G2 r)(i:CH G []):gQ (G2.eS r) (oO [] c.key v):=by
 have g:fE G1 [c] [(c.key,v)] pc:=⟨v,pc,[],[],b.val,⟨rfl,rfl⟩,rfl,V⟩;have e:r∉pc:=λhh=>a.not (g.aO r hh);refine⟨a.ok.eS _,.inr ⟨0,r::pc,i.to (me.2 ⟨e,b.nd⟩) (by have h1:=a.free;have h2:=b.free;have n:=b.len;have m:(G2.eS r).bT=G2.bT:=rfl;simp only[lx,IR];omega) (a.aO.trans b.aO),fH [c],pc,⟨a.is.bV,a.is.cont,a.is.ok,a.is.size,a.is.full⟩,⟨rfl,gt,?_,λd j=>⟨?_,gt⟩⟩,rfl⟩⟩
 .exact g.kept (G':=G2.eS r) (a.kept pc e)
 .exact kO _
def Sp (b:c.ok true):(fH [c]).ok/\(fH [c]).size<=512:=by
 refine⟨⟨λd a=>by simp[fH]at a;subst a;exact b,by unfold jJ fH;simp,rfl,by simp[fH]⟩,?_⟩;have:=(kg b).2.1;have g:(uv ([c]:δ dq).length).length=1:=eY V;have e:cY true [c]=jz true c:=by simp[cY]
 rw[cq];unfold fH;simp only[g,e,ix];omega
end
end
set_option maxRecDepth 100000
section
variable {τ:Nat} {π:PI} {Z Z':O} {G:GM}
def Oa (h:Tg τ π Z G)(p:Nat)(a:p<=1000):Rq0 174 [.ptr τ 0,I p] Z λv Z'=>v=.bool (decide (G.bT<24+p))/\Z'=Z:=by
 refine bE ?_;rw[apV];refine h.get' ?_;refine(RU h.pg).same ?_
 have e:R .add ν true (I 24) (I p) Z=.ok (ζ (24+p)) Z:=by
  have:R .add ν true (ζ 24) (I p) Z=.ok (ζ (24+p)) Z:=EW
  exact this
 rw[e,af,dd,af];exact⟨rfl,rfl⟩
def IC {G:GM}{key:bS}{f:dh}{a:δ dh}{L:δ aT}(b:xu G key f a L)(g:wb G):(∃c,f.n.cells[f.at_]?=Φ c/\c.key=key)\/uS G G key f a L 0:=by
 obtain⟨lo,hi,o,m,ps,l,j,Ld,k,i⟩:=b.Gc
 by_cases h:∃c,f.n.cells[f.at_]?=Φ c/\c.key=key
 .exact .inl h
 .exact .inr (i.aif g λc e d=>h ⟨c,e,d⟩)
def aeM (τ:Nat)(π:PI)(G:GM)(key v:δ Γ)(L:δ aT)(Z:O)(c:δ K)(s:O):Prop:=
 ∃x b,c=[.ptr τ 0,.str key,.str v,x]/\Kp π.W Z s/\Tg τ π s b/\wb b/\G.bT<=b.bT/\b.aO=G.aO/\
  b.eu.length<=G.eu.length+bO ((ey L key).getD []).length/\((b=G/\G.root=0/\x=.ae)\/∃f a k,xu G key f a L/\uS G b key f a L k/\(a.length<=16/\(G.aO<=4095->a.length<=10))/\gI s π.W x (a.reverse++[f]))
def We (G:GM)(L:δ aT)(key v:δ Γ):Nat:=G.eu.length+bO ((ey L key).getD []).length+bO v.length+if G.aO<=4095 then 23 else 35
def yY {G:GM}{c:dq}{w:δ Γ}{po:δ Nat}(h:Cw G c w po):po.length<=bO w.length:=by
 rcases h with⟨_,_,rfl⟩|⟨_,_,b,_,a⟩
 .simp
 .have:=a.len;unfold bO;rw[B J];omega
def Cz (τ:Nat)(π:PI)(G:GM)(key v:δ Γ)(L:δ aT)(Z:O)(y:K)(Z':O):Prop:=
 if 48<key.length\/8192<v.length then y=I 1/\Kp [] Z Z' else if G.bT<24+bO v.length then y=I 3/\Kp [] Z Z' else EN τ π G (oO L key v) (We G L key v) (18+bO v.length) Z y Z'
def VK (h:Tg τ π Z G){L:δ aT}(ht:gQ G L)(key v:δ Γ):Rq0 132 [.ptr τ 0,.str key,.str v] Z (Cz τ π G key v L Z):=by
 refine bE ?_;rw[aqz];have fJ:∀b,Z.nx<=b->b∉π.all/\b≠τ:=λb hb=>⟨λhh=>afb,λe=>abg⟩;have sX:=h.Vp;have xC:∀q,Z.nx<=q->q∉π.W:=λq hq hh=>aed
 have e0:R .gtr ν true (I key.length) (I 48) Z=.ok (.bool (decide (48<key.length))) Z:=yZ
 have e1:R .gtr ν true (I v.length) (I 8192) Z=.ok (.bool (decide (8192<v.length))) Z:=yZ
 have bs:∀Kq0:K->Prop,Kq0 (.bool (decide (48<key.length\/8192<v.length)))->U (kx (bj false (.bool (decide (48<key.length)))) Z (.ok (.str v) Z)) (λx4=>U (kx (bj false (.bool (decide (48<key.length)))) Z (aY .str x4 Z)) λx5=>U (kx (bj false (.bool (decide (48<key.length)))) Z (R .gtr ν true x5 (I 8192) Z)) λx6=>U (bg (.bool (decide (48<key.length))) ι x6 Z) Kq0):=λKq0 hK=>by
  by_cases XH:48<key.length
  .rw[jp (.inl XH)]at hK;simp only[jp XH,NE,ii,r8,bA,ix];exact hK
  .simp only[jo XH,ii,DI,eN,e1]
   simpa[XH]using hK
 rw[cc,af,ag,B tW,eN,af,e0,af];refine bs _ ?_;rw[ag]
 by_cases uA:48<key.length\/8192<v.length
 .rw[jp uA,gq rfl];unfold Cz;rw[gq uA];exact⟨rfl,Δ _ _⟩
 have Mi:key.length<=48:=J
 have a2:v.length<=8192:=J
 rw[jo uA,B tW,eN,af];refine(FH (n:=v.length) J).same ?_;have a4:bO v.length<=1000:=afq
 refine(Oa h _ a4).same ?_;rw[ag]
 by_cases mh:G.bT<24+bO v.length
 .rw[jp mh,gq rfl];unfold Cz;rw[B uA,gq mh];exact⟨rfl,Δ _ _⟩
 rw[jo mh,B tW];unfold Cz;simp only[B uA,B mh];refine(FG h ht key).mono ?_;rintro _ s3 ⟨k3,x,rfl,hx⟩;have t3:=h.still k3;have e2:∀s,R .neq ψ true μ μ s=.ok Θ s:=λs=>rfl;rw[aE,af,aL,aE,af,e2,af,ag,B tW];refine iO (aeM τ π G key v L Z) ?_ ?_
 .intro lH I5;rcases hx with⟨vq,rfl⟩|⟨f,a,Q,⟨BJ,L7⟩,ai⟩
  .have e3:R .gtr ν true μ μ s3=.ok Θ s3:=rfl;rw[oh,af,e3,af,ag,B tW];exact I5 _ _ ⟨_,G,rfl,k3.mono V,t3,ht.ok,hI _,rfl,Nat.le_add_right _ _,.inl ⟨rfl,vq,rfl⟩⟩
  .obtain⟨qS,BM,il,mz,Mq⟩:=Q.size;have am:=ai π.W sX;have Au:(a.reverse++[f]).length=a.length+1:=by simp
   have hlen:=am.len s3;rw[Au]at hlen;have e3:R .gtr ν true (ζ (a.length+1)) μ s3=.ok ι s3:=by rw[au,cQ,jp J]
   have e4:=CX (a.length+1) J J s3 ν;rw[Pi]at e4;obtain⟨u,d,c1,X,jV⟩:=am.row (i:=a.length) V;have hf:(a.reverse++[f])[a.length]'(by simp)=f:=V
   rw[hf]at c1 X jV;rw[hlen,af,e3,af,ag,gq rfl,af,e4,af];refine jV _ ?_;refine qG c1.bM.2.1 X.bM.2.1 ?_;have P:Kp [] s3 (O.new s3 (ϝ [I f.page,I f.at_,.bool f.n.leaf,u,d])):=(Δ [] s3).new _;have NZ:(O.new s3 (ϝ [I f.page,I f.at_,.bool f.n.leaf,u,d])).m.g s3.nx=Φ (ϝ [I f.page,I f.at_,.bool f.n.leaf,u,d]):=ay _ _;generalize O.new s3 (ϝ [I f.page,I f.at_,.bool f.n.leaf,u,d])=kq at*;have ac:=t3.still P;have aj:=c1.mono (P.mono V);have ap:=k3.trans P V;have an:=am.mono (P.mono V);simp only[fl,ly,NZ,Nat.reduceAdd,kc,io,aj.len f.n.cells.length (bN _) J kq,dd]
   by_cases hlt:f.at_<f.n.cells.length
   .rw[jp hlt];obtain⟨b,p,l,t,g,q1,q2,q3,q4,q5⟩:=aj.cellAt (L:=f.n.cells.map ba) J (gH _) (i:=f.at_) OF;have q6:=q5 0 (.str f.n.cells[f.at_].key) QV;rw[rc]at q6;simp only[ix,aW,ly,gG,je,NZ,rc,Nat.reduceAdd,kc,io,q1,q2,q6,fG,rK,AC,ag]
    by_cases S:f.n.cells[f.at_].key=key
    .rw[jp S,gq rfl];obtain⟨lo,hi,Ll,Lr,ps,Lt,pt,Ld,pd,hA⟩:=Q.Gc;obtain⟨w,po,hv,a3,F,BU,a6⟩:=hA.YZ ht.ok (li hlt) S;refine aj.fj (L:=f.n.cells.map ba) J (gH _) OF _ ?_;have e:(f.n.cells.map ba)[f.at_]'(by simpa using hlt)=ba f.n.cells[f.at_]:=by simp
     rw[e];have CO:=BM.cell _ (mp hlt);rw[il]at CO;refine(EA ac CO hv a3).mono ?_;rintro _ mr ⟨rfl,WZ,aD⟩;rw[e2,af,ag,B tW];have hD:=F.ex;obtain⟨_,_,_,_,_,_,_,_,_,_,bD,_,_,_,_,_,hD,eG,_⟩:=hD;refine I5 _ _ ⟨_,_,rfl,(ap.mono V).trans WZ lk,aD,by rw[eG];exact hD.ok,by rw[BU];omega,by rw[eG];exact hD.aO,by have h1:=Cg G po;have h2:=yY hv;rw[a6];show _<=_+bO w.length;omega,.inr ⟨f,a,1,Q,F,⟨BJ,L7⟩,an.mono WZ⟩⟩
    .rw[jo S,B tW];rcases IC Q ht.ok with⟨c,hc,xm⟩|F
     .rw[li hlt]at hc;cases hc;exact absurd xm S
     .exact I5 _ _ ⟨_,G,rfl,ap.mono V,ac,ht.ok,hI _,rfl,Nat.le_add_right _ _,.inr ⟨f,a,0,Q,F,⟨BJ,L7⟩,an⟩⟩
   .rw[jo hlt];simp only[ii,ix,bA,gG,je,Ut];rcases IC Q ht.ok with⟨c,hc,xm⟩|F
    .obtain⟨h1,_⟩:=qo.1 hc;exact absurd h1 hlt
    .exact I5 _ _ ⟨_,G,rfl,ap.mono V,ac,ht.ok,hI _,rfl,Nat.le_add_right _ _,.inr ⟨f,a,0,Q,F,⟨BJ,L7⟩,an⟩⟩
 .rintro _ s4 ⟨x,G1,rfl,K4,t4,ok1,bX,bm,Vj,NV⟩;simp only[ke];refine(Rc t4 Mi a2 J).mono ?_;rintro _ C ⟨k5,c,G2,pc,rfl,xm,CO,N,t5⟩;have n5:=k5.nx;have n4:=K4.nx;have K5:=K4.trans k5 lk;rw[aE,af,aL,aE,af];refine gW rfl rfl (iu c) ?_;have k7:Kp [] C (O.new C (Ϛ (ba c))):=(Δ [] C).new _;have g7:(O.new C (Ϛ (ba c))).m.g C.nx=Φ (Ϛ (ba c)):=ay _ _;have n7:(O.new C (Ϛ (ba c))).nx=C.nx+1:=rfl;generalize O.new C (Ϛ (ba c))=o at*;have t7:=t5.still k7;have K7:=K5.trans k7 V;rw[e2,af,ag,B tW];rcases NV with⟨rfl,vq,rfl⟩|⟨f,a,k,Q,F,⟨BJ,L7⟩,ai⟩
  .obtain⟨a7,hA0⟩:L=[]/\CH G1 []:=by
    rcases ht.tree with h|⟨hh,ps,_,hs⟩
    .exact h.2
    .obtain⟨n,q,hn,_⟩:=hs;have:=hn.bV.1;omega
   subst a7;have e3:R .eql ψ true μ μ o=.ok ι o:=rfl;rw[oh,af,e3,af,ag,gq rfl,aG (n:=4) g7 rfl,af,mO (k:=4) rfl rfl rfl,aP,aN];have k8:Kp [] o (O.new o (Ϛ (ba c))):=(Δ [] o).new _;have g8:(O.new o (Ϛ (ba c))).m.g o.nx=Φ (Ϛ (ba c)):=ay _ _;have n8:(O.new o (Ϛ (ba c))).nx=o.nx+1:=rfl;generalize O.new o (Ϛ (ba c))=j at*;have t8:=t7.still k8;have ql:aR Þ [(0,1,ι),(1,1,.slice o.nx 0 1 1 0)] j=.ok (.agg [ι,.slice o.nx 0 1 1 0,.ae]) j:=rfl;rw[ql,af]
   have SR:IsNode j π.W (.agg [ι,.slice o.nx 0 1 1 0,.ae]) (fH [c]):=
    ⟨_,_,rfl,.inr ⟨o.nx,0,1,1,0,rfl,rfl,⟨hI _,.inl rfl⟩,.inr ⟨xC _ J,J,_,_,_,g8,QV,by simp[fH,bL,ba]⟩⟩,.inl ⟨rfl,rfl⟩⟩
   have PQ:=N.free;obtain⟨l1,l2⟩:=Sp CO;have xD:=UF N.ok (show 0<G2.bT from J) l1 l2 (by simp[fH]);refine(E6 t8 J SR l1 l2).mono ?_;rintro _ s9 ⟨rfl,k9,t9⟩;rw[aE,af,aL,aE,af,e2,af,ag,B tW];refine t9.get' ?_;refine(vg t9.pg _ (.inr xD.is.bV)).mono ?_;rintro _ bz ⟨rfl,qP,aH⟩;refine⟨rfl,(((K7.trans k8 V).trans k9 lk).trans qP lk),_,t9.of qP aH,?_,?_⟩
   .have:=Mz N CO xD hA0
    rwa [xm]at this
   .exact⟨xD.aO.trans N.aO,by have h1:=xD.eu;have h2:=N.eu;refine rx h1 ?_;unfold We;split<;>omega,by have h1:=xD.free;refine rx (m:=(G2.alloc.put G2.dI (.node (fH [c]))).bT+(18+bO v.length)) J (hI _)⟩
  .obtain⟨qS,BM,il,mz,Mq⟩:=Q.size;have D:=ai.mono (k5.trans k7 V);have Au:(a.reverse++[f]).length=a.length+1:=by simp
   have hlen:=D.len o;rw[Au]at hlen;have e3:R .eql ψ true (ζ (a.length+1)) μ o=.ok Θ o:=GW
   have e4:=CX (a.length+1) J J o ν;rw[Pi]at e4;obtain⟨u,d,c1,X,jV⟩:=D.row (i:=a.length) V;have hf:(a.reverse++[f])[a.length]'(by simp)=f:=V
   rw[hf]at c1 X jV
   have I3:f.n.kids=[]:=by
    have:=BM.kR;rw[il,gq rfl]at this;exact sS.1 this
   rw[hlen,af,e3,af,ag,B tW,af,e4,af];rw[il]at jV;refine jV _ ?_;refine qG c1.bM.2.1 X.bM.2.1 ?_;have k8:Kp [] o (O.new o (ϝ [I f.page,I f.at_,ι,u,d])):=(Δ [] o).new _;have g8:(O.new o (ϝ [I f.page,I f.at_,ι,u,d])).m.g o.nx=Φ (ϝ [I f.page,I f.at_,ι,u,d]):=ay _ _;have n8:(O.new o (ϝ [I f.page,I f.at_,ι,u,d])).nx=o.nx+1:=rfl;generalize O.new o (ϝ [I f.page,I f.at_,ι,u,d])=j at*;have bb:=(k8.keep C.nx J V).trans g7
   have Ml:∀Kq0:K->Prop,Kq0 (.agg [ι,u,d])->QC 3 2 (.ptr o.nx 0) j Kq0:=λKq0 hK=>by
    unfold QC;rw[ah,af,im (n:=3) g8 V,af];exact hK
   refine Ml _ ?_;refine vi c1.bM.2.1 X.bM.2.1 ?_;have k9:Kp [] j (O.new j (Ϙ [ι,u,d])):=(Δ [] j).new _;have g9:(O.new j (Ϙ [ι,u,d])).m.g j.nx=Φ (Ϙ [ι,u,d]):=ay _ _;have n9:(O.new j (Ϙ [ι,u,d])).nx=j.nx+1:=rfl;generalize O.new j (Ϙ [ι,u,d])=s9 at*;have a8:=(k9.keep o.nx J V).trans g8;have a9:=(k9.keep C.nx J V).trans bb;have aq:=k8.trans k9 V;rw[fl,ah,af,av,g9,ak];simp only[Gm,kc,io];refine(yK ((c1.fc (Y:=[]) V).mono (aq.mono V)) (fv _) ó).mono ?_;rintro y T ⟨F1,Dg,o1,P7,_⟩;have bP:=Dg.nx;have XN:=(Dg.keep j.nx J V).trans g9;have bk:=(Dg.keep o.nx J V).trans a8;have bi:=(Dg.keep C.nx J V).trans a9;obtain⟨aQ,Ws⟩:=o1.cI;have xj:bC [ι,u,d] 1 [y]=[ι,y,d]:=rfl;rw[Lim.fst,ah,af,aK,XN,aU,Ws,oa,xj];refine⟨⟨rfl,by simp[aQ],V⟩,?_⟩;have Px:Kp [] o (O.set T j.nx (Ϙ [ι,y,d])):=(aq.trans Dg V).set _ (.inr J) J;have Jj:(O.set T j.nx (Ϙ [ι,y,d])).m.g j.nx=Φ (Ϙ [ι,y,d]):=ao ..;have aw:(O.set T j.nx (Ϙ [ι,y,d])).m.g o.nx=_:=(ar _ _ _ _ J).trans bk;have al:(O.set T j.nx (Ϙ [ι,y,d])).m.g C.nx=_:=(ar _ _ _ _ J).trans bi;have bI:(O.set T j.nx (Ϙ [ι,y,d])).nx=T.nx:=rfl;have wx:∀b∈F1,j.nx<b/\b<T.nx:=λb hb=>afP
   have ad:Own (O.set T j.nx (Ϙ [ι,y,d])) y 4 255 (bL f.n.cells) F1:=o1.mono λb hb=>by have:=wx b hb;rw[ar _ _ _ _ J]
   generalize O.set T j.nx (Ϙ [ι,y,d])=r at*;have b1:=K7.trans Px V;have bx:=t7.still Px;have bY:=D.mono (Px.mono V);have b0:Sl r π.W d 1 (cR []):=by rw[<-I3];exact X.mono (Px.mono V)
   refine iO (λvs s=>∃ab aa,vs=[.ptr τ 0,x,.ptr j.nx 0]/\Kp π.W Z s/\Tg τ π s G2/\gI s π.W x (a.reverse++[f])/\s.m.g j.nx=Φ (Ϙ [ι,ab,aa])/\IsNode s π.W (.agg [ι,ab,aa]) (fH (f.n.cells.take f.at_++([c]++f.n.cells.drop (f.at_+k))))) ?_ ?_
   .intro a0 aC;have VV:Sl r [] y 4 (f.n.cells.map ba).flatten:=ad.sl λb hb=>⟨V,Hq⟩;simp only[fl,ly,Jj,aw,kc,io,VV.len f.n.cells.length (bN _) J r,dd]
    have az:k=0->Rq0 183 [y,I f.at_,.slice r.nx 0 1 1 0] (O.new r (Ϛ (ba c))) λz M=>Lim.fst 1 1 (.ptr j.nx 0) z M λug=>a0 [.ptr τ 0,x,.ptr j.nx 0] ug:=by
     intro Tf;have kA:Kp [] r (O.new r (Ϛ (ba c))):=(Δ [] r).new _;have gA:(O.new r (Ϛ (ba c))).m.g r.nx=Φ (Ϛ (ba c)):=ay _ _;have nA:(O.new r (Ϛ (ba c))).nx=r.nx+1:=rfl;generalize O.new r (Ϛ (ba c))=sA at*;have oA:=ad.keep kA λb hb=>⟨Hq,V⟩;refine(IM oA (bN _) J (λb hb=>Hq) gA (λhh=>aei) rfl (fv _) (iu _) Mq).mono ?_;rintro z M ⟨F2,o2,NA,bf⟩;have bG:=NA.nx;have bu:j.nx∉F1:=λhh=>aei
     have be:=((NA.keep j.nx J bu).trans (kA.keep j.nx J V)).trans Jj;obtain⟨aM,aI⟩:=o2.cI;have nv:bC [ι,y,d] 1 [z]=[ι,z,d]:=rfl;rw[Lim.fst,ah,af,aK,be,aU,aI,oa,nv];refine⟨⟨rfl,by simp[aM],V⟩,?_⟩
     have vo:∀b∈F2,j.nx<b/\b<M.nx:=λb hb=>by
      obtain⟨p1,p2⟩:=bf b hb;refine⟨?_,p2⟩;rcases p1 with h|h
      .have:=(wx b h).1;omega
      .omega
     have MA:(bL f.n.cells).take (f.at_*4)++(ba c++(bL f.n.cells).drop (f.at_*4))=bL (fH (f.n.cells.take f.at_++([c]++f.n.cells.drop (f.at_+k)))).cells:=by
      rw[ml _ _ Mq,mm _ _ Mq,Tf];show _=bL (f.n.cells.take f.at_++c::f.n.cells.drop f.at_);rw[iY]
      congr 1
     rw[MA]at o2;have aS:Own (O.set M j.nx (Ϙ [ι,z,d])) z 4 255 (bL (fH (f.n.cells.take f.at_++([c]++f.n.cells.drop (f.at_+k)))).cells) F2:=o2.mono λb hb=>by have:=vo b hb;rw[ar _ _ _ _ J]
     have WQ:Kp [] o (O.set M j.nx (Ϙ [ι,z,d])):=((Px.trans kA V).trans NA λq hq=>.inr (by have:=wx q hq;omega)).set _ (.inr J) J;have bW:Kp (j.nx::F1) r (O.set M j.nx (Ϙ [ι,z,d])):=((kA.mono V).trans NA λq hq=>.inl QU).set _ (.inl V) J;have bd:(O.set M j.nx (Ϙ [ι,z,d])).m.g j.nx=Φ (Ϙ [ι,z,d]):=ao ..;have bF:(O.set M j.nx (Ϙ [ι,z,d])).nx=M.nx:=rfl;generalize O.set M j.nx (Ϙ [ι,z,d])=ug at*;have br:Sl ug π.W d 1 (cR []):=by rw[<-I3];exact X.mono (WQ.mono V)
     exact aC _ _ ⟨z,d,rfl,K7.trans WQ V,t7.still WQ,D.mono (WQ.mono V),bd,z,d,rfl,aS.sl λb hb=>⟨xC b Hk,Hk⟩,br⟩
    by_cases hlt:f.at_<f.n.cells.length
    .rw[jp hlt];obtain⟨b,p,l,t,g,q1,q2,q3,q4,q5⟩:=VV.cellAt J (gH _) (i:=f.at_) OF;have q6:=q5 0 (.str f.n.cells[f.at_].key) QV;rw[rc]at q6;simp only[ix,aW,ly,gG,je,Jj,aw,rc,kc,io,q1,q2,q6,fG,rK,AC,ag]
     by_cases S:f.n.cells[f.at_].key=key
     .rw[jp S,gq rfl,aG (n:=4) al rfl,af]
      have qA:k=1:=by
       rcases F.found with⟨h,_⟩|⟨_,_,h⟩
       .exact h
       .exact absurd S (h _ (li hlt))
      obtain⟨H,rfl,Ez,bl⟩:=nu ad J (bN _) J;have bS:=wx H (by simp[Ez])
      have a5:de 4 (.slice H 0 f.n.cells.length f.n.cells.length 4) (I f.at_) r=.ok (.ptr H (f.at_*4)) r:=by
       have:=iq (size:=4) (off:=0) (cap:=f.n.cells.length) (grow:=4) hlt (.inr (hI _)) r (b:=H)
       rwa [oa]at this
      have bt:bC (bL f.n.cells) (f.at_*4) (ba c)=bL (fH (f.n.cells.take f.at_++([c]++f.n.cells.drop (f.at_+k)))).cells:=by
       unfold bL;rw[zw (gH _) _ OF _ rfl,qA];unfold fH;rw[aNx,gq OF];simp[L3,JO]
      unfold BE;rw[a5,af,aK,bl,aU,aN,bt];refine⟨⟨rfl,rfl,ó⟩,?_⟩;have WV:Kp [] o (O.set r H (.cells (bL (fH (f.n.cells.take f.at_++([c]++f.n.cells.drop (f.at_+k)))).cells) 255 true)):=Px.set _ (.inr J) J;have bh:(O.set r H (.cells (bL (fH (f.n.cells.take f.at_++([c]++f.n.cells.drop (f.at_+k)))).cells) 255 true)).m.g H=Φ (.cells (bL (fH (f.n.cells.take f.at_++([c]++f.n.cells.drop (f.at_+k)))).cells) 255 true):=ao ..;have yW:(O.set r H (.cells (bL (fH (f.n.cells.take f.at_++([c]++f.n.cells.drop (f.at_+k)))).cells) 255 true)).m.g j.nx=_:=(ar _ _ _ _ J).trans Jj;have bH:(O.set r H (.cells (bL (fH (f.n.cells.take f.at_++([c]++f.n.cells.drop (f.at_+k)))).cells) 255 true)).nx=r.nx:=rfl;generalize O.set r H (.cells (bL (fH (f.n.cells.take f.at_++([c]++f.n.cells.drop (f.at_+k)))).cells) 255 true)=dA at*;have ecl:(fH (f.n.cells.take f.at_++([c]++f.n.cells.drop (f.at_+k)))).cells.length=f.n.cells.length:=by unfold fH;simp;omega
      have bq:Sl dA π.W d 1 (cR []):=by rw[<-I3];exact X.mono (WV.mono V)
      exact aC _ _ ⟨_,d,rfl,K7.trans WV V,t7.still WV,D.mono (WV.mono V),yW,_,d,rfl,.inr ⟨H,0,_,_,4,rfl,by rw[bN,ecl],⟨hI _,.inr rfl⟩,.inr ⟨xC _ J,J,_,_,_,bh,aft,by rw[tu,lw aft]⟩⟩,bq⟩
     .rw[jo S,B tW,aG (n:=4) al rfl,af,mO (k:=4) rfl rfl rfl,aP,aN];refine az ?_;rcases F.found with⟨_,c',qB,ax⟩|⟨h,_⟩
      .rw[li hlt]at qB;cases qB;exact absurd ax S
      .exact h
    .rw[jo hlt];simp only[ii,ix,bA,gG,je,Ut];rw[aG (n:=4) al rfl,af,mO (k:=4) rfl rfl rfl,aP,aN];refine az ?_;rcases F.found with⟨_,c',qB,ax⟩|⟨h,_⟩
     .obtain⟨h1,_⟩:=qo.1 qB;exact absurd h1 hlt
     .exact h
   .rintro _ dA ⟨ab,aa,rfl,bw,t17,bn,yW,bv⟩;simp only[ke];obtain⟨gg,gs⟩:=F.put N xm CO;refine ij (n:=fH (f.n.cells.take f.at_++([c]++f.n.cells.drop (f.at_+k)))) yW ?_;have PQ:=N.free;refine(Oe t17 gg gs J bn bv BJ).mono ?_;rintro _ eP ⟨rfl,a1,G',aF,bp,sW,Dp,bQ⟩;refine⟨rfl,bw.trans a1 lk,G',aF,bp,sW.trans (N.aO.trans bm),?_,J⟩;have h2:=N.eu;unfold We
    split
    .rename_i h;have:=L7 h;omega
    .omega
end
section
variable {τ:Nat} {π:PI} {Z Z':O} {G:GM}
def MP (τ:Nat)(π:PI)(G:GM)(key:δ Γ)(L:δ aT)(Z:O)(y:K)(Z':O):Prop:=
 if 48<key.length then y=.tuple [Θ,I 1]/\Kp [] Z Z' else if G.bT<24 then y=.tuple [Θ,I 3]/\Kp [] Z Z' else
  y=.tuple [.bool (ey L key).isSome,μ]/\Kp π.W Z Z'/\∃G',Tg τ π Z' G'/\gQ G' (mM L key)/\G'.aO=G.aO/\G'.eu.length<=G.eu.length+bO ((ey L key).getD []).length+35
def VO (h:Tg τ π Z G){L:δ aT}(ht:gQ G L)(key:bS):Rq0 131 [.ptr τ 0,.str key] Z (MP τ π G key L Z):=by
 refine bE ?_;rw[aqA];have sX:=h.Vp;have xC:∀q,Z.nx<=q->q∉π.W:=λq o hh=>aed
 have e0:R .gtr ν true (I key.length) (I 48) Z=.ok (.bool (decide (48<key.length))) Z:=yZ
 rw[cc,af,ag,B tW,eN,af,e0,af,ag];unfold MP
 by_cases H:48<key.length
 .rw[jp H,gq rfl];simp only[gq H];exact⟨gt,Δ _ _⟩
 rw[jo H,B tW];have al:=Oa h 0 J;refine al.same ?_;rw[ag]
 by_cases mh:G.bT<24+0
 .rw[jp mh,gq rfl];simp only[B H];rw[gq J];exact⟨gt,Δ _ _⟩
 rw[jo mh,B tW];simp only[B H,B (show¬G.bT<24 by omega)];refine(FG h ht key).mono ?_;rintro _ s2 ⟨X,x,rfl,hx⟩;have t2:=h.still X;have e2:∀s,R .neq ψ true μ μ s=.ok Θ s:=λs=>rfl;rw[aE,af,aL,aE,af,e2,af];simp only[aD,yU,ii,tw]
 have r:∀s,Kp [] Z s->ey L key=ν->mM L key=L->(K.tuple [Θ,μ]=.tuple [.bool (ey L key).isSome,μ]/\Kp π.W Z s/\∃G',Tg τ π s G'/\gQ G' (mM L key)/\G'.aO=G.aO/\G'.eu.length<=G.eu.length+bO ((ey L key).getD []).length+35):=λs hs h1 h2=>by
  rw[h1,h2];exact⟨rfl,hs.mono V,G,h.still hs,ht,rfl,J⟩
 rcases hx with⟨vq,rfl⟩|⟨f,d,hp,⟨BJ,L7⟩,ai⟩
 .have am:L=[]:=by
   rcases ht.tree with h|⟨hh,ps,_,hs⟩
   .exact h.2.1
   .obtain⟨n,q,hn,_⟩:=hs;have:=hn.bV.1;omega
  subst am;have e3:R .eql ψ true μ μ s2=.ok ι s2:=rfl;simp only[oh,e3,aC,ii,ll,ix];exact r s2 X rfl rfl
 .obtain⟨qS,BM,il,mz,Mq⟩:=hp.size;have y:=ai π.W sX;have Au:(d.reverse++[f]).length=d.length+1:=by simp
  have hlen:=y.len s2;rw[Au]at hlen;have e3:R .eql ψ true (ζ (d.length+1)) μ s2=.ok Θ s2:=GW
  have e4:=CX (d.length+1) J J s2 ν;rw[Pi]at e4;obtain⟨k,j,c1,c2,jV⟩:=y.row (i:=d.length) V;have hf:(d.reverse++[f])[d.length]'(by simp)=f:=V
  rw[hf]at c1 c2 jV
  have I3:f.n.kids=[]:=by
   have:=BM.kR;rw[il,gq rfl]at this;exact sS.1 this
  simp only[hlen,e3,aC,ii,ll,e4];rw[il]at jV;refine jV _ ?_;refine qG c1.bM.2.1 c2.bM.2.1 ?_;have M:Kp [] s2 (O.new s2 (ϝ [I f.page,I f.at_,ι,k,j])):=(Δ [] s2).new _;have g4:(O.new s2 (ϝ [I f.page,I f.at_,ι,k,j])).m.g s2.nx=Φ (ϝ [I f.page,I f.at_,ι,k,j]):=ay _ _;have n4:(O.new s2 (ϝ [I f.page,I f.at_,ι,k,j])).nx=s2.nx+1:=rfl;generalize O.new s2 (ϝ [I f.page,I f.at_,ι,k,j])=s4 at*;have aw:=X.nx;have t4:=t2.still M;have c4:=c1.mono (M.mono V);have K4:=X.trans M V;have ad:=y.mono (M.mono V);obtain⟨lo,hi,Ll,Lr,ps,Lt,pt,Ld,pd,hA⟩:=hp.Gc;have e5:R .eql ψ false (I f.at_) (I f.n.cells.length) s4=.ok (.bool (decide (f.at_=f.n.cells.length))) s4:=CU
  simp only[fl,ly,g4,Nat.reduceAdd,kc,io,c4.len f.n.cells.length (bN _) J s4,e5]
  by_cases BW:f.at_=f.n.cells.length
  .obtain⟨_,rm,v⟩:=hA.IJ (λc N=>by rw[BW,In (hI _)]at N;cases N);rw[jp BW];simp only[ii,xk,gG,je,ix];exact r s4 K4 rm v
  .have hlt:f.at_<f.n.cells.length:=by omega
   rw[jo BW];obtain⟨b,p,l,t,g,q1,q2,q3,q4,q5⟩:=c4.cellAt (L:=f.n.cells.map ba) J (gH _) (i:=f.at_) OF;have q6:=q5 0 (.str f.n.cells[f.at_].key) QV;rw[rc]at q6;simp only[ii,gG,je,vr,g4,rc,Nat.reduceAdd,kc,io,q1,q2,q6,fG,um,GT]
   by_cases hk:f.n.cells[f.at_].key=key
   .obtain⟨w,po,hv,aj,lA,BU,I8⟩:=hA.YZ ht.ok (li hlt) hk;rw[jp hk,r8,B tW];refine c4.fj (L:=f.n.cells.map ba) J (gH _) OF _ ?_;have e:(f.n.cells.map ba)[f.at_]'(by simpa using hlt)=ba f.n.cells[f.at_]:=by simp
    rw[e];have CO:=BM.cell _ (mp hlt);rw[il]at CO;refine(EA t4 CO hv aj).mono ?_;rintro _ a ⟨rfl,F,t5⟩;have n5:=F.nx;have g5:=(F.keep s2.nx J (xC _ J)).trans g4;have K5:=(K4.mono V).trans F lk;rw[e2,af,ag,B tW]
    have Ml:∀Kq0:K->Prop,Kq0 (.agg [ι,k,j])->QC 3 2 (.ptr s2.nx 0) a Kq0:=λKq0 hK=>by
     unfold QC;rw[ah,af,im (n:=3) g5 V,af];exact hK
    refine Ml _ ?_;refine vi c1.bM.2.1 c2.bM.2.1 ?_;have c5:=(c4.mono F);have d5:=((c2.mono (M.mono V)).mono F);have T:Kp [] a (O.new a (Ϙ [ι,k,j])):=(Δ [] a).new _;have g7:(O.new a (Ϙ [ι,k,j])).m.g a.nx=Φ (Ϙ [ι,k,j]):=ay _ _;have n7:(O.new a (Ϙ [ι,k,j])).nx=a.nx+1:=rfl;generalize O.new a (Ϙ [ι,k,j])=s7 at*;have P:=(T.keep s2.nx J V).trans g5;rw[aZ,ah,af,av,g7,ak];simp only[Gm,kc,io];refine(yK ((c5.fc (Y:=[]) V).mono (T.mono V)) (fv _) ó).mono ?_;rintro xc s8 ⟨F1,S,o1,P7,_⟩;have n8:=S.nx;have g8:=(S.keep a.nx J V).trans g7;have an:=(S.keep s2.nx J V).trans P;have wx:∀b∈F1,a.nx<b/\b<s8.nx:=λb hb=>afP
    simp only[zae,af,an,P,kc,io,fV f.at_ J,sE,and_true];refine(Ju (n:=f.n.cells.length) o1 (bN _) J (λb hb=>Hq) (fv _) hlt).mono ?_;rintro u D ⟨o9,k9,n9⟩;have g9:=(k9.keep a.nx J (λhh=>aei)).trans g8
    have ec:(bL f.n.cells).take (f.at_*4)++(bL f.n.cells).drop ((f.at_+1)*4)=bL (fH (f.n.cells.take f.at_++f.n.cells.drop (f.at_+1))).cells:=by
     rw[ml _ _ J,mm _ _ J,<-iY];rfl
    rw[ec]at o9
    have Q:=o9 (π.W++[a.nx]) λb hb hh=>by
     have:=wx b hb;simp at hh;rcases hh with hh|hh
     .exact xC b J hh
     .omega
    have aa:Sl D (π.W++[a.nx]) j 1 (cR []):=by
     have e:cR []=cR f.n.kids:=by rw[I3]
     rw[e]
     have d7:=d5.fc (Y:=π.W++(a.nx::F1)) (by
      intro b hb;simp at hb;rcases hb with h|h|h
      .exact .inl h
      .right;omega
      .right;have:=wx b h;omega)
     have vX:∀b∈π.W++[a.nx],b∈π.W++(a.nx::F1):=λb hb=>by
      rcases lh.1 hb with h|h
      .exact À _ h
      .have h2:=If.1 h;rw[h2];exact aOa _ zt
     have d9:=((d7.mono (T.mono V)).mono (S.mono V)).mono (k9.mono (G:=π.W++(a.nx::F1)) (by intro b hb;left;simp[hb]));exact d9.fc λb hb=>.inl (vX b hb)
    obtain⟨z1,z2,z3⟩:=Q.bM;have xj:bC [ι,k,j] 1 [u]=[ι,u,j]:=rfl;rw[aK,g9,aU,z3,xj];refine⟨⟨rfl,by simp[z2],V⟩,?_⟩;have C:Kp [a.nx] D (O.set D a.nx (Ϙ [ι,u,j])):=(Δ _ D).set _ (.inl V) J;have N0:(O.set D a.nx (Ϙ [ι,u,j])).m.g a.nx=Φ (Ϙ [.bool (fH (f.n.cells.take f.at_++f.n.cells.drop (f.at_+1))).leaf,u,j]):=ao ..;generalize O.set D a.nx (Ϙ [ι,u,j])=ae at*;have z:=((T.trans S V).trans k9 λq o=>.inr (by have:=wx q o;omega)).trans C (by intro q o;right;simp at o;omega)
    have aq:IsNode ae π.W (.agg [.bool (fH (f.n.cells.take f.at_++f.n.cells.drop (f.at_+1))).leaf,u,j]) (fH (f.n.cells.take f.at_++f.n.cells.drop (f.at_+1))):=
     ⟨u,j,rfl,(Q.mono (C.mono (by intro q o;left;exact aOa _ o))).fc (λq o=>.inl (À _ o)),(aa.mono (C.mono (by intro q o;left;exact aOa _ o))).fc (λq o=>.inl (À _ o))⟩
    have ac:=t5.still z;have VT:=(ad.mono F).mono (z.mono V);refine ij N0 ?_;obtain⟨gg,gs⟩:=lA.del;refine(Oe ac gg gs J VT aq BJ).mono ?_;rintro _ eo ⟨rfl,pG,G',ab,ap,sW,Dp,_⟩;rw[e2,af,ag,B tW,I8];have hD:=lA.ex;obtain⟨_,_,_,_,_,_,_,_,_,_,ar,_,_,_,_,_,hD,eG,_⟩:=hD;exact⟨rfl,(K5.trans z V).trans pG lk,G',ab,ap,sW.trans (by rw[eG];exact hD.aO),by have h1:=Cg G po;have h2:=yY hv;show _<=_+bO w.length+35;omega⟩
   .obtain⟨_,rm,v⟩:=hA.IJ (λc N=>by rw[li hlt]at N;cases N;exact hk);rw[jo hk,ra,gq rfl];exact r s4 K4 rm v
end
