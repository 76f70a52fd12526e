import Derived.Test.YtomffjeofpafnaaGreatDoorLawA
namespace Lim
open Go
noncomputable section
set_option linter.defProp false
set_option maxRecDepth 100000
section
variable {st st':St}
def alN (a:Int)(m:Nat)(hm:0<m)(Tz:m<=100000):∃n:Nat,n<m/\∀(s:St) (K:CV->Prop),K (I n)->us (cW (.toInt .u64) (I a) s) λx7=>us (ai .rem none true x7 (.int .u64 m) s) λx8=>us (cW (.toInt .i64) x8 s) K:=by
 have h1:0<=IntKind.u64.wrap a:=by rw[IntKind.wrap_u64];omega
 have h2:(IntKind.u64.wrap a).tmod m=(IntKind.u64.wrap a)%m:=Int.tmod_eq_emod_of_nonneg h1;have h3:0<=(IntKind.u64.wrap a)%m:=Int.emod_nonneg _ qE;have h4:(IntKind.u64.wrap a)%m<m:=Int.emod_lt_of_pos _ qE;refine⟨((IntKind.u64.wrap a)%m).toNat,qE,λst K hK=>?_⟩;have e1:cW (.toInt .u64) (I a) st=.ok (.int .u64 (IntKind.u64.wrap a)) st:=rfl;rw[e1,af,az,Qd,aET qE,af];have e2:cW (.toInt .i64) (.int .u64 ((IntKind.u64.wrap a).tmod m)) st=.ok (.int .i64 (IntKind.i64.wrap ((IntKind.u64.wrap a).tmod m))) st:=rfl;rw[e2,af,h2,bz qE];rw[Int.toNat_of_nonneg h3]at hK;exact hK
end
section
variable {st st':St}
def fA.sorted {G:GM}{L:List bq}(h:fA G L):nq L:=by
 rcases h.tree with⟨_,rfl⟩|⟨hh,ps,_,hs⟩
 .exact List.Pairwise.nil
 .exact hs.facts.sorted
end
section
variable {X:List Nat}{m:Nat}
def mn (st:St)(m:Nat)(X:List Nat)(L Lk:List bq):Prop:=∃v1 v2,st.m.g m=some (.cells [v1,v2] 47 false)/\cE v1=true/\v1.cN=[v1]/\cE v2=true/\v2.cN=[v2]/\m<st.nx/\m∉X/\Sl st (m::X) v1 2 (gU L)/\Sl st (m::X) v2 2 (gU Lk)
section
variable {τ:Nat} {π:PI} {st st':St} {L Lk:List bq} {T N fr:Nat}
def ir.qS (h:ir τ π st L Lk T N fr):∀b∈own τ π,b<st.nx:=by
 obtain⟨⟨G,Gk,ht,hL,hk,Fl,oI,j0⟩,hc,hl⟩:=h;intro b hb;obtain⟨r,h1,h2,h3⟩:=hk.log;unfold own at hb;rw[h1]at hb;rcases aEP.1 hb with h|h
 .rw[h];exact ht.lt
 .rcases aEY.1 h with h|h
  .have h:b=r:=by simpa using h
   omega
  .exact ht.pg.lt b h
def Yw (h:ir τ π st L Lk T N fr):R 17 [.ptr τ 0] st λv st'=>v=I fr/\st'=st:=by
 obtain⟨⟨G,Gk,ht,hL,hk,Fl,oI,rfl⟩,hc,hl⟩:=h;exact Po ht
def Sl.one {v:CV}{k:Nat}{l:List CV}(h:Sl st X v k l):cE v=true/\v.cN=[v]:=by
 rcases h with⟨rfl,_⟩|⟨b,o,l,c,g,rfl,_⟩<;>exact⟨rfl,rfl⟩
def mn.kp (h:mn st m X L Lk)(hk:Kp [] st st'):mn st' m X L Lk:=by
 obtain⟨v1,v2,h1,h2,h3,h4,h5,h6,h7,h8,h9⟩:=h;exact⟨v1,v2,(hk.keep m h6 uG).trans h1,h2,h3,h4,h5,aFg h6 hk.nx,h7,h8.mono (hk.mono uG),h9.mono (hk.mono uG)⟩
def mn.get (h:mn st m X L Lk):∃v1 v2,Sl st (m::X) v1 2 (gU L)/\Sl st (m::X) v2 2 (gU Lk)/\(∀K:CV->Prop,K v1->fB 0 (.ptr m 0) st K)/\∀K:CV->Prop,K v2->fB 1 (.ptr m 0) st K:=by
 obtain⟨v1,v2,h1,h2,h3,h4,h5,h6,h7,h8,h9⟩:=h;refine⟨v1,v2,h8,h9,λK hK=>?_,λK hK=>?_⟩
 all_goals
  unfold fB;rw[bF,af,ah,af,aB,h1,aq];exact hK
def ir.off (h:ir τ π st L Lk T N fr)(hk:Kp X st st')(hx:∀b∈own τ π,b∉X):ir τ π st' L Lk T N fr:=by
 have hlt:=h.qS;have LM:=λb hb=>hk.keep b (hlt b hb) (hx b hb);obtain⟨⟨G,Gk,ht,hL,BW,Fl,oI,j0⟩,hc,hl⟩:=h;obtain⟨ty,g,hg⟩:=ht.get;obtain⟨r,h1,h2,h3⟩:=BW.log;refine⟨⟨G,Gk,⟨ht.pg.keep hk λb hb=>hx b (mo hb),aFg ht.lt hk.nx,ht.not,⟨ty,g,(hk.keep τ ht.lt (hx τ (by simp[own]))).trans hg⟩,hk.fresh ht.fr⟩,hL,BW.keep hk λr' e=>hx r' (by unfold own;rw[e];simp),Fl,oI,j0⟩,hc,hl⟩
end
end
def CZ {α:Type}(L:List α)(p q:α->Bool)(h:∀x,p x=true->q x=true->False):(L.filter p).length+(L.filter q).length<=L.length:=by
 induction L with
 |nil=>simp
 |cons x r ih=>
  rw[aGo,aGo];cases hp:p x<;>cases hq:q x
  .simp;omega
  .simp;omega
  .simp;omega
  .exact(h x hp hq).elim
def P3 (L:List bq)(key:cn)(v:List UInt8):(mR L key v).length<=L.length+1:=by
 have:=CZ L (λx=>decide (eQ x.1 key)) (λx=>decide (eQ key x.1)) λx h1 h2=>mc O8 TV;have e:mR L key v=L.filter (λx=>decide (eQ x.1 key))++(key,v)::L.filter (λx=>decide (eQ key x.1)):=rfl;rw[e,aEU,aFp];exact Nat.succ_le_succ this
def Sv (L:List bq)(key:cn):(rp L key).length<=L.length:=by
 have:=CZ L (λx=>decide (eQ x.1 key)) (λx=>decide (eQ key x.1)) λx h1 h2=>mc O8 TV;have e:rp L key=L.filter (λx=>decide (eQ x.1 key))++L.filter (λx=>decide (eQ key x.1)):=rfl;rw[e,aEU];exact this
section
variable {τ:Nat} {π:PI} {st st':St} {L Lk:List bq} {T N fr:Nat}
def mn.dW {m:Nat}{X Y:List Nat}(h:mn st m X L Lk)(hy:∀q∈Y,q∈X\/st.nx<=q):mn st m Y L Lk:=by
 obtain⟨v1,v2,h1,h2,h3,h4,h5,h6,h7,h8,h9⟩:=h
 have hy':∀q∈m::Y,q∈m::X\/st.nx<=q:=λq hq=>by
  rcases aEP.1 hq with h|h
  .exact .inl Pb
  .exact(hy q h).imp (λh=>aFE _ h) id
 refine⟨v1,v2,h1,h2,h3,h4,h5,h6,λhh=>?_,h8.dW hy',h9.dW hy'⟩;rcases hy m hh with h|h
 .exact h7 h
 .omega
def mn.mono {m:Nat}{X F:List Nat}(h:mn st m X L Lk)(hk:Kp F st st')(hF:∀q∈F,q∈X):mn st' m X L Lk:=by
 obtain⟨v1,v2,h1,h2,h3,h4,h5,h6,h7,h8,h9⟩:=h;have k:Kp (m::X) st st':=hk.mono λq hq=>.inl (aFE _ (hF q hq));exact⟨v1,v2,(hk.keep m h6 λhh=>h7 (hF m hh)).trans h1,h2,h3,h4,h5,aFg h6 hk.nx,h7,h8.mono k,h9.mono k⟩
def mn.not {m:Nat}{X:List Nat}(h:mn st m X L Lk):m∉X/\m<st.nx:=by obtain⟨v1,v2,_,_,_,_,_,h6,h7,_⟩:=h;exact⟨h7,h6⟩
def Made.dW {x:CV}{ty:Nat}{l:List CV}{s s':St}(h:Made 2 ty l s x s'){X:List Nat}(hX:∀q∈X,q<s.nx):Kp [] s s'/\Sl s' X x 2 l:=by
 obtain⟨F,h1,h2,h3⟩:=h;exact⟨h1,h2.sl λb hb=>⟨λhh=>by have:=hX b hh;have:=(h3 b hb).1;omega,(h3 b hb).2⟩⟩
def KF (h:ir τ π st L Lk T N fr):nq L:=by
 obtain⟨⟨G,Gk,ht,hL,_⟩,_⟩:=h;exact hL.sorted
end
structure yG where
 kind:Int
 key:List UInt8
 val:List UInt8
 many:Int
def abk (p:yG):List CV:=[I p.kind,.str p.key,.str p.val,I p.many]
def Fa (st:St)(v:CV)(S:List yG):Prop:=(v=.ae/\S=[])\/∃b off cap,v=.slice b off S.length cap 0/\b<st.nx/\∀i (h:i<S.length),∃l o,st.m.g b=some (.ro l o)/\off+i*4+4<=l.length/\(l.drop (off+i*4)).take 4=abk S[i]
section
variable {st st':St}
def Fa.len {v:CV}{S:List yG}(h:Fa st v S)(s:St):bo .slice v s=.ok (I S.length) s:=by
 rcases h with⟨rfl,rfl⟩|⟨b,off,cap,rfl,_⟩<;>rfl
def Fa.at' {v:CV}{S:List yG}(h:Fa st v S){i:Nat}(hi:i<S.length):∃b p l o0,(∀s,cc 4 v (I i) s=.ok (.ptr b p) s)/\b<st.nx/\st.m.g b=some (.ro l o0)/\gV l p 4=some (abk S[i])/\∀o x,(abk S[i])[o]?=some x->l[p+o]?=some x:=by
 rcases h with⟨rfl,rfl⟩|⟨b,off,cap,rfl,hb,lL⟩
 .simp at hi
 .obtain⟨l,o0,h1,h2,h3⟩:=lL i hi;refine⟨b,off+i*4,l,o0,λs=>fO hi (.inl rfl) s,hb,h1,?_,λo x hx=>?_⟩
  .unfold gV;rw[aEW h2,h3]
  .rw[<-h3,aGE]at hx
   split at hx
   .rw[aHp]at hx;exact hx
   .cases hx
def A9 (v:CV):List Nat:=match v with| .slice b _ _ _ _=>[b]|_=>[]
def Fa.keep {v:CV}{S:List yG}(h:Fa st v S){X:List Nat}(hk:Kp X st st')(hx:∀b∈A9 v,b∉X):Fa st' v S:=by
 rcases h with h|⟨b,off,cap,rfl,hb,lL⟩
 .exact .inl h
 .refine .inr ⟨b,off,cap,rfl,aFg hb hk.nx,λi hi=>?_⟩;obtain⟨l,o0,h1,h2,h3⟩:=lL i hi;exact⟨l,o0,(hk.keep b hb (hx b (by simp[A9]))).trans h1,h2,h3⟩
def Fa.lt {v:CV}{S:List yG}(h:Fa st v S):∀b∈A9 v,b<st.nx:=by
 rcases h with⟨rfl,rfl⟩|⟨b,off,cap,rfl,hb,lL⟩
 .simp[A9]
 .intro q hq;simp[A9]at hq;omega
def yG.size (p:yG):Nat:=p.key.length+p.val.length
end
section
variable {τ:Nat} {π:PI} {st st':St} {L Lk:List bq} {T N fr:Nat}
def ir.VK (h:ir τ π st L Lk T N fr):fr<=N:=by
 obtain⟨⟨G,Gk,ht,hL,hk,Fl,oI,rfl⟩,hc,hl⟩:=h;obtain⟨⟨base,last,P,Ls,r,mU,_⟩,_⟩:=hk;have h1:π.D.aA.length-1-π.D.aA.length/4=Gk.aH:=mU.rep.aH;have h2:=P5 G.used G.fr hL.ok.nd λx hx=>(hL.ok.fr x hx).2;have h3:=hL.ok.jL;unfold GM.cF;omega
def adv (h:ir τ π st L Lk T N fr):R 18 [.ptr π.a 0] st λv st'=>v=I N/\st'=st:=by
 obtain⟨⟨G,Gk,ht,hL,hk,Fl,oI,rfl⟩,hc,hl⟩:=h;obtain⟨M,h1,h2,h3,_⟩:=ht.pg;rw[<-hl];exact vu h3
end
def BY (L:List bq)(key:cn)(w:List UInt8):fE (mR L key w) key=some w:=by
 unfold mR;exact Ht λx hx=>by simpa using (aGm.1 hx).2
def yD {L:List bq}{p q:bq->Bool}(h:∀x,q x=true->p x=true):(L.filter p).find? q=L.find? q:=by
 induction L with
 |nil=>rfl
 |cons x r ih=>
  rw[aGo];cases hp:p x with
  |true=>
   rw[aEW rfl,aHk,aHk,ih]
  |false=>
   rw[aET u7,ih,aHk];cases hq:q x with
   |true=>rw[h x hq]at hp;cases hp
   |false=>rfl
def tP {L:List bq}{p q:bq->Bool}(h:∀x,q x=true->p x=false):(L.filter p).find? q=none:=by
 rw[List.find?_eq_none];intro x hx hq;have:=(aGm.1 hx).2;rw[h x hq]at this;cases this
def sW (L:List bq)(key k2:cn)(w:List UInt8)(h:key≠k2):fE (mR L key w) k2=fE L k2:=by
 unfold fE mR
 congr 1
 rw[aHB,aHk,aEO h];dsimp only
 by_cases hlt:eQ k2 key
 .rw[yD (p:=λx=>decide (eQ x.1 key)) λx hx=>by
   have:x.1=k2:=O5
   rw[this];simpa using hlt]
  rw[tP (p:=λx=>decide (eQ key x.1)) λx hx=>by
   have:x.1=k2:=O5
   rw[this]
   simpa using mc hlt]
  cases L.find? _<;>rfl
 .have Br:eQ key k2:=by
   have h2:lp key k2:=hlt;rcases pv.1 h2 with h|h
   .exact h
   .exact absurd h (by assumption)
  rw[tP (p:=λx=>decide (eQ x.1 key)) λx hx=>by
   have:x.1=k2:=O5
   rw[this]
   simpa using hlt]
  rw[yD (p:=λx=>decide (eQ key x.1)) λx hx=>by
   have:x.1=k2:=O5
   rw[this];simpa using Br]
  rfl
section
variable {τ:Nat}{π:PI}{L Lk:List bq}{T N fr:Nat}
section
variable {st st':St}
def Ws (h:ir τ π st L Lk T N fr){key:cn}(hk:key.length<=48):R 13 [.ptr τ 0,.str key] st λx st'=>Kp [] st st'/\x=.tuple [.str ((fE L key).getD []),.bool (fE L key).isSome,I 0]:=by
 obtain⟨⟨G,Gk,ht,hL,_⟩,_⟩:=h;refine(aaL ht hL key).mono ?_;rintro x s ⟨k,hx⟩;rw[aET qE]at hx;exact⟨k,hx⟩
def Ud (h:ir τ π st L Lk T N fr)(a b:cn):R 14 [.ptr τ 0,.str a,.str b] st λy st'=>∃x,y=.tuple [x,I 0]/\Kp [] st st'/\Sl st' [] x 2 (gU (L.filter (A8 a b))):=by
 obtain⟨⟨G,Gk,ht,hL,_⟩,_⟩:=h;refine(PW ht hL a b).mono ?_;rintro y s ⟨x,rfl,hx⟩;obtain⟨k,hs⟩:=hx.dW (X:=[]) uG;exact⟨x,rfl,k,hs⟩
def Ux (p:bq)(s:St):ai .neq (some (.struct (.cons 0 1 false .str (.cons 1 1 false .str .nil)))) false (.agg (fS p)) (.agg (fS p)) s=.ok (.bool false) s:=by
 rw[wq]
 have:lO (.struct (.cons 0 1 false .str (.cons 1 1 false .str .nil))) (.agg (fS p)) (.agg (fS p))=some true:=by
  unfold fS;simp[lO,yX,iB,andThen]
 rw[this];rfl
def Sl.Qa {s:St}{v:CV}{M:List bq}(c:Sl s [] v 2 (gU M)){i:Nat}(hi:i<M.length):∃b p,(∀s',cc 2 v (I i) s'=.ok (.ptr b p) s')/\aI 2 (.ptr b p) s=.ok (.agg (fS M[i])) s:=by
 obtain⟨b,p,l,t,g,q1,q2,q3,q4,q5⟩:=c.cellAt (L:=M.map fS) qE (KP _) (i:=i) O1;have q6:=q5 0 (.str M[i].1) (by simp[fS]);have q7:=q5 1 (.str M[i].2) (by simp[fS]);rw[aFC]at q6;refine⟨b,p,q1,?_⟩;obtain⟨h1,h2⟩:=aFb.1 q6;obtain⟨h3,h4⟩:=aFb.1 q7
 have e:gV l p 2=some (fS M[i]):=by
  unfold gV;rw[aEW qE,aFk h1,aFk h3,h2,h4]
  rfl
 simp only[aI,q2,e]
set_option maxHeartbeats 2000000 in
end
end
section
variable {G:GM}{k F P:Nat}{f:cK}{L:List bq}{v:List UInt8}{y:CV}
def Sz {n0:bp}(h0:G.cont G.root=.node n0)(hl:n0.leaf=true):∀(l:List cK) (h page:Nat) (lo:cn) (hi:Option cn) (Ll Lr:List bq) (ps:List Nat),Ctx G h l page lo hi Ll Lr ps->l=[]/\page=G.root:=by
 intro l
 induction l with
 |nil=>intro h page lo hi Ll Lr ps hc;exact⟨rfl,hc.1⟩
 |cons s l ih=>
  rintro h page lo hi Ll Lr ps ⟨la,fk,yZ,yY,pF,La,pa,Lb,pb,hc,hn,fL,_⟩;obtain⟨_,hp⟩:=ih _ _ _ _ _ _ _ hc;have h1:=hn.cont;rw[hp,h0]at h1;cases h1;rw[hl]at fL;cases fL
structure yH (G:GM)(k F P:Nat):Prop where
 root:G.root≠0
 leaf:∃n0,G.cont G.root=.node n0/\n0.leaf=true/\n0.cells.length=k
 free:G.cF=F
 fr:G.fr=[]
 aH:G.aH=P
def yH.path (h:yH G k F P){key:cn}{rest:List cK}(hp:mm G key f rest L):rest=[]/\f.page=G.root/\f.n.cells.length=k/\f.n.leaf=true/\f.at_<=f.n.cells.length:=by
 obtain⟨n0,h1,h2,h3⟩:=h.leaf;have lL:=hp.size.2.2.2.2;have fL:=hp.size.2.2.1;obtain⟨lo,hi,Ll,Lr,Lm,ps,q,hc,hn,_⟩:=hp;obtain⟨rfl,oI⟩:=Sz h1 h2 _ _ _ _ _ _ _ _ hc;have VA:=hn.cont;rw[oI,h1]at VA;cases VA;exact⟨rfl,oI,h3,h2,lL⟩
def Qq (h:G.root=0){key:cn}(hp:mm G key f [] L):False:=by
 obtain⟨lo,hi,Ll,Lr,Lm,ps,q,hc,hn,_⟩:=hp;have h1:=hc.1;have h2:=hn.bW.1;omega
section
variable {τ:Nat} {π:PI} {st st':St}
def alX {key:List UInt8}(h:SV τ π G key v L st y st')(hr:G.root=0)(j0:G.fr=[])(hf:G.cF=F+1+cq v.length)(hp:G.aH=P):y=I 0/\Kp π.W st st'/\∃G',Tg τ π st' G'/\fA G' (mR L key v)/\yH G' 1 F P/\G'.aH=G.aH:=by
 obtain⟨rfl,k,G2,c,pc,G',hl,hk,vH,t,o,⟨_,rfl⟩|⟨f,Tw,_⟩⟩:=h
 .have h1:=hl.free;have ha:=ru hl.ok qE;have h2:=ha.free;have h3:=Dj G2;have h4:=hl.frl;rw[j0]at h4;have h5:=ha.pos;have h6:=ha.aH;have h7:=hl.aH;refine⟨rfl,k,_,t,o,⟨?_,⟨dg [c],ku _ _ _,rfl,rfl⟩,?_,?_,?_⟩,?_⟩
  .show G2.dL≠0;omega
  .show G2.alloc.cF=F;omega
  .show G2.alloc.fr=[];exact aFi.1 (by simp at h4;rw[h4]at h3;simpa using h3)
  .show G2.alloc.aH=P;omega
  .show G2.alloc.aH=G.aH;omega
 .exact(Qq hr Tw).elim
def alW {key:List UInt8}{m:Nat}(h:SV τ π G key v L st y st')(uR:yH G m (F+cq v.length) P):y=I 0/\Kp π.W st st'/\∃G',Tg τ π st' G'/\fA G' (mR L key v)/\yH G' (m+1) F P/\G'.aH=G.aH:=by
 obtain⟨rfl,k,G2,c,pc,G',hl,hk,vH,t,o,⟨h0,_⟩|⟨f,Tw,rfl⟩⟩:=h
 .exact absurd h0 uR.root
 .obtain⟨_,oI,oO,fL,lL⟩:=uR.path Tw;have h1:=hl.free;have h2:=uR.free;have h4:=hl.frl;rw[uR.fr]at h4;have h7:=hl.aH;have h8:=uR.aH;have h9:=hl.root;refine⟨rfl,k,_,t,o,⟨?_,⟨dg (f.n.cells.take f.at_++([c]++f.n.cells.drop (f.at_+0))),?_,rfl,?_⟩,?_,?_,?_⟩,?_⟩
  .show G2.root≠0;rw[h9];exact uR.root
  .show(G2.put f.page _).cont G2.root=_;rw[h9,<-oI];exact ku _ _ _
  .unfold dg;simp only[aEU,aFc,aFn,aFp,aGu];omega
  .show G2.cF=F;omega
  .show G2.fr=[];exact aFi.1 (by simpa using h4)
  .show G2.aH=P;omega
  .show G2.aH=G.aH;omega
def TY (h:yH G k F P)(ho:uY G):G.used+F=P:=by
 have h1:=h.free;have h2:=h.aH;have h3:=ho.jL;unfold GM.cF at h1;rw[h.fr]at h1;simp at h1;omega
end
end
section
variable {st st':St}
def kA:cn:=[97]
def kB:cn:=[98]
def P9 {G:GM}(hu:G.used=1){key:cn}{f:cK}{rest:List cK}{L:List bq}(hp:mm G key f rest L):False:=by
 obtain⟨lo,hi,Ll,Lr,Lm,ps,q,hc,hn,_⟩:=hp;have h2:=hn.bW.1;have h3:=hn.bW.2.1;omega
end
