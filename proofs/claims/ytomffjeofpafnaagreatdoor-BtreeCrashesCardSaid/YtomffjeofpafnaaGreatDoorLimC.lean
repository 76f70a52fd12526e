import Derived.Test.YtomffjeofpafnaaGreatDoorLimB
namespace Lim
open Go
noncomputable section
set_option linter.defProp false
section
variable {e n need sLen sCap:Nat}{zeros:Bool}{il:Sem (Array Value)}{s x:Value}{i:TypeInfo}{z':Value}{vs:List Value}
def St.drop (st:St)(b:Nat):St:=⟨st.m.put b none,st.nx⟩
def bI (e size bytes:Nat)(s:CV)(src:Option (Nat×List CV))(st:St):OR:=
 match s,src with
 | .ae,some (n,t)=>bz (Nat.beq n 0) (.ok .ae st)
  (bz (Bool.and (Nat.ble 1 size) (Bool.and (Nat.ble (Nat.mul n bytes) 140737488355328) (Nat.ble n 140737488355328)))
   (.ok (.slice st.nx 0 n n size) ⟨st.m.put st.nx (some (.cells t e true)),st.nx+1⟩) .bad)
 | .slice b off len cap grow,some (n,t)=>
   bz (Nat.beq n 0) (bz (Nat.ble len cap) (.ok (.slice b off len cap grow) st) .bad)
    (ot (Nat.add len n) λneed=>
     bz (Nat.ble need cap)
      (match st.m.g b with
      |some (.cells s ty g)=>bz (aU t) (Option.rec .bad (λs'=>.ok (.slice b off need cap grow) ⟨st.m.put b (some (.cells s' ty g)),st.nx⟩) (dU s (off+len*size) t)) .bad
      |_=>.bad)
      (bz (Bool.and (Nat.ble 1 size) (Bool.and (Nat.ble (Nat.mul need bytes) 140737488355328) (Nat.ble need 140737488355328)))
       (match st.m.g b with
       |some (.cells s ty _)=>
        (match ia s off (len*size)with
        |some olds=>(λnx l=>
         bz (Nat.beq grow 0) (.ok (.slice st.nx 0 need need size) ⟨st.m.put st.nx (some (.cells l e true)),nx⟩)
          (bz (Bool.and (Nat.beq off 0) (Bool.and (Nat.beq grow size) (Bool.and (Nat.beq ty e) (Bool.and (aU t) (Nat.ble 1 cap)))))
           (.ok (.slice st.nx 0 need need size) ⟨(st.m.put b none).put st.nx (some (.cells l e true)),nx⟩) .bad)) (st.nx+1) (olds++t)
        |none=>.bad)
       |_=>.bad) .bad))
 |_,_=>.bad
section
variable {P:Program} {ρ:Ren} {st st':St} {w:World} {v:CV}
def bh.drop (h:WR ρ st w)(b:Nat):bh ρ st w ρ (st.drop b) w:=by
 have gQ:∀q blk,(st.drop b).m.g q=some blk->st.m.g q=some blk:=λq blk hq=>by
  by_cases e:q=b
  .subst e;simp only[St.drop,PT.dg]at hq;cases hq
  .simpa only[St.drop,PT.dn _ _ _ _ e]using hq
 exact⟨⟨λq blk r sz hq=>h.at' q blk r sz (gQ q blk hq),λq q' blk fc r s s' h1 h2=>h.inj q q' blk fc r s s' (gQ q blk h1) (gQ q' fc h2),h.fresh⟩,
  λ_ _ h=>h,λ_ _ h=>h,aDt _,λq blk _ sz h1 h2=>.inl ⟨q,blk,sz,gQ q blk h1,h2⟩,λ_ _ _=>rfl,aDt _,rfl,rfl⟩
def l6 {size:Nat}{base:Option Addr}{olds:List Value}(hn:need=sLen+n)(Cg:sCap<need)
 (h63:need<=140737488355328) (hb:need*i.bytes<=140737488355328) (hi:P.info? e=some i) (hz:i.zero=some z') (ha:∀w1:World,w1.heap=w.heap->il.run P w1=.ok vs.toArray w1)
 (ho:∀w1:World,w1.heap=w.heap->(Builtin.firstCells size sLen s).run P w1=.ok olds.toArray w1):
 (mu e size zeros n il base sLen sCap s x).run P w=
  .ok (.slice (some ⟨w.heap.size,0,none⟩) need (grownCap w need sCap e))
   {w with drawn:=w.drawn+1,heap:=w.heap.push (.cells (olds.toArray++vs.toArray++Builtin.zeroCells z'.cells (grownCap w need sCap e-need)) e)}:=by
 subst hn;have h1:¬(sLen+n<=sCap):=pX
 have YG:IntKind.i64.max=9223372036854775807:=wI
 have h2:¬(((sLen+n:Nat):Int)>IntKind.i64.max):=by rw[YG];omega
 have h3:¬(Builtin.nextslicecap (sLen+n) sCap*i.bytes>2^48):=by
  have:=growslice_fits (bytes:=i.bytes) Cg hb;exact λh=>absurd (aDM h this) wI
 have h4:=ha {w with drawn:=w.drawn+1} rfl;have h5:=ho {w with drawn:=w.drawn+1} rfl;simp only[mu,Sem.run_ite,aDv h1,Sem.run_bind,typeInfo,run_program,Result.andThen_ok,hi,Sem.run_pure,h2,false_and,aDE,aDv h3,run_choose,Question.forced,aDp,run_askRoom,h4,h5,zeroValue,hz,newRow,run_newObj]
 rfl
def Mn (z':Value)(k:Nat):(Builtin.zeroCells z'.cells k).size=k*z'.cells.size:=by simp[Builtin.zeroCells]
def GK (w:World)(need SS:Nat)(e:TypeId):need<=grownCap w need SS e:=by show need<=need+_;omega
def bh.grown {size:Nat}{l:List CV}(hw:WR ρ st w)(hl:eF ρ (row l) vs)(hlen:vs.length=need*size)(hsz:z'.cells.size=size)(h1:1<=size):
 ∃ρ',VR ρ' (.slice st.nx 0 need need size) (.slice (some ⟨w.heap.size,0,none⟩) need (grownCap w need sCap e))/\
  bh ρ st w ρ' ⟨st.m.put st.nx (some (.cells l e true)),(st.nx+1)⟩ {w with drawn:=w.drawn+1,heap:=w.heap.push (.cells (vs.toArray++Builtin.zeroCells z'.cells (grownCap w need sCap e-need)) e)}:=by
 have GC:=GK w need sCap e;have gq:∀b x,ρ b=some x->b≠st.nx:=λb x hx e=>aag
 have Gn:l.length=vs.length:=by rw[hl.len]
 have mY:(vs.toArray++Builtin.zeroCells z'.cells (grownCap w need sCap e-need)).size=grownCap w need sCap e*size:=by
  rw[Array.size_append,Mn,hsz,aFK,hlen,<-aEz];congr 1;omega
 have hb:=BR.cells (ρ:=ρ) l e true (vs.toArray++Builtin.zeroCells z'.cells (grownCap w need sCap e-need)) 0 0 (by
  rw[mY,Gn,hlen];exact aEj _ GC) (by
  rw[Gn,Array.toList_append,aEP rq];exact hl) pX (by intros;omega)
 have hle:ρ.le (ρ.set st.nx (w.heap.size,grownCap w need sCap e*size)):=λb _ hr=>aak
 have ha:=bh.new (hw.DV (w':={w with drawn:=w.drawn+1}) rfl) (sz:=grownCap w need sCap e*size) ((mY▸hb).mono hle);refine⟨_,.nN _ 0 0 need need (grownCap w need sCap e) size _ _ ha.2 h1 (aDt _) GC (λ_=>rfl) pX,(bh.draw hw (w.drawn+1)).trans ha.1⟩
def l5 {size:Nat}{a:Addr}{w':World}(hle:sLen+n<=sCap)
 (ha:il.run P w=.ok vs.toArray w) (hs:(storeCells (a.add (sLen*size)) vs).run P w=.ok () w'):
 (mu e size zeros n il (some a) sLen sCap s x).run P w=.ok (.slice (some a) (sLen+n) sCap) w':=by
 simp only[mu,aDy hle,Sem.run_bind,ha,Result.andThen_ok,hs,Sem.run_pure]
def A7 {k:Ho}{t u ty size bytes:Nat}{z:List CV}{s x:CV}{s' x':Value}(h:bI e size bytes s (cW k size z x st) st=.ok v st')(hw:WR ρ st w)(hs:VR ρ s s')(hx:VR ρ x x')
 (hf:CR P k u size) (hu:P.underlying t=some (.slice e)) (hi:P.info? e=some i) (hz:i.zero=some z') (Yj:i.size=size) (hsz:z'.cells.size=size) (wF:∀ρ,eF ρ z z'.cells.toList) (hb:i.bytes=bytes) (HH:k=.zeros->bytes<=256):
 bE P (Builtin.append_ #[t,u] ty #[s',x']) ρ st w v st':=by
 unfold bI at h
 split at h
 ·
   rename_i n tt Ba;obtain⟨vs,zeros,il,g1,g2,g3,g4⟩:=Bw (P:=P) (w:=w) (ty:=ty) Ba hw hx hf hu hi hz Yj hsz wF (λhk=>by rw[hb];exact HH hk);cases hs;simp only[aO,aDK,aDZ,aDW]at h
   split at h
   .rename_i hn;subst hn;cases h;refine bE.still hw ?_ .ae;rw[g4];simp only[mu,aEb,aDt,aDQ,Sem.run_bind,g3 w rfl,Result.andThen_ok,Sem.run_pure]
   .rename_i hn
    split at h
    .rename_i hc;cases h;obtain⟨c1,c2,c3⟩:=hc;have c2':n*i.bytes<=140737488355328:=by rw[hb];exact c2
     have jM:=l6 (P:=P) (w:=w) (e:=e) (size:=size) (n:=n) (need:=n) (sLen:=0) (sCap:=0) (zeros:=zeros) (base:=none) (s:=.slice none 0 0) (x:=x') (olds:=[]) pX pX c3 c2' hi hz g3 (λw1 _=>abq);obtain⟨ρ',k1,k2⟩:=bh.grown (e:=e) (sCap:=0) hw g1 g2 hsz c1;refine⟨_,_,ρ',by rw[g4,jM],k1,?_⟩
     simpa using k2
    .cases h
 .rename_i b off len cap grow n tt Ba;obtain⟨vs,zeros,il,g1,g2,g3,g4⟩:=Bw (P:=P) (w:=w) (ty:=ty) Ba hw hx hf hu hi hz Yj hsz wF (λhk=>by rw[hb];exact HH hk);obtain⟨r,sz,dA,fm,rfl,hr,c1,c2,c3,c4⟩:=hs.eI;have hvt:tt.length=n*size:=by rw[g1.len,g2]
  simp only[aO,aDZ,dH]at h
  split at h
  ·
    rename_i hn;subst hn
    split at h
    .rename_i hle;rw[aDW]at hle;cases h;have hv:vs=[]:=by apply aDP.1;rw[g2];omega
     subst hv;refine bE.still hw ?_ hs;rw[g4,l5 pX (g3 w rfl) rfl];rfl
    .cases h
  .rename_i hn
   split at h
   ·
     rename_i hle;rw[aDW]at hle;have YM:len+n<=cap:=hle;have ho:=c1 pX;subst ho
     split at h
     .rename_i sg tg gg hm
      split at h
      .rename_i iY;cases ug:dU sg (dA+len*size) tt with
       |none=>rw[ug]at h;cases h
       |some s2=>
        rw[ug]at h;cases h;obtain⟨w',k1,k2⟩:=bh.write (P:=P) hw hm hr ug g1 iY;refine⟨_,w',ρ,by rw[g4,l5 pX (g3 w rfl) (by rw[kz];exact k1)],?_,k2⟩;show VR ρ (.slice b dA (len+n) cap grow) _
        by_cases hg:grow=0
        .obtain⟨e1,_⟩:=c3 hg;subst hg;subst e1;exact .slice _ _ _ _ r sz hr
        .obtain⟨d1,d2⟩:=c4 pX;exact .nN _ _ dA _ _ fm grow r sz hr pX YM c2 (λ_=>rfl) d1
      .cases h
     .cases h
   .rename_i hle;rw[aDW]at hle;have YM:¬len+n<=cap:=hle
    split at h
    .rename_i hc;simp only[aDK,aDW]at hc;obtain⟨d1,d2,d3⟩:=hc;have ZT:(len+n)*i.bytes<=140737488355328:=by rw[hb];exact d2
     have d3':len+n<=140737488355328:=d3
     split at h
     .rename_i sg tg gg hm
      split at h
      .rename_i olds hol;obtain⟨c,lo,ff,e1,e2,e3,e4,e5⟩:=hw.row hm hr;have amU:=(jL hol).1;have adN:=(jL hol).2;have asD:=amU;have hln:len*size+n*size=(len+n)*size:=(aEz _ _ _).symm
       split at h
       ·
         rename_i hg;have hg:grow=0:=by simpa using hg
         cases h;obtain⟨f1,f2⟩:=c3 hg;subst f1;subst f2
         have hvo:eF ρ (olds++tt) ((c.toList.drop dA).take (len*size)++vs):=by
          refine eF.app ?_ g1;rw[show olds=(sg.drop dA).take (len*size)from adN]
          have ee:(c.toList.drop dA).take (len*size)=((c.toList.take sg.length).drop dA).take (len*size):=by
           rw[aFi,aEH,aEi pX]
          rw[ee];exact(e4.drop dA).take _
         have hlen:((c.toList.drop dA).take (len*size)++vs).length=(len+n)*size:=by
          rw[aDw,aDF,aDO,aFo,g2];omega
         have jM:=l6 (P:=P) (w:=w) (e:=e) (size:=size) (n:=n) (need:=len+n) (sLen:=len) (sCap:=fm) (zeros:=zeros) (base:=some ⟨r,dA,none⟩) (s:=.slice (some ⟨r,dA,none⟩) len fm) (x:=x') (olds:=(c.toList.drop dA).take (len*size)) rfl pX d3' ZT hi hz g3
          (λw1 Pa=>dW P w1 r dA (len*size) c tg (lo,ff) acz pX)
         obtain⟨ρ',k1,k2⟩:=bh.grown (e:=e) (sCap:=fm) hw hvo hlen hsz d1;refine⟨_,_,ρ',by rw[g4,jM],k1,?_⟩;have:(((c.toList.drop dA).take (len*size)).toArray++vs.toArray)=((c.toList.drop dA).take (len*size)++vs).toArray:=rq
         rw[this];exact k2
       .split at h
        ·
          rename_i hg0 hg;have hg0:grow≠0:=by simpa using hg0
          simp only[aDK,aDZ,aDW]at hg;obtain⟨rfl,rfl,rfl,iY,GC⟩:=hg;cases h;obtain⟨f1,f2⟩:=c4 pX;have ho:dA=0:=c1 pX;subst ho
          have hvo:eF ρ (olds++tt) (c.toList.take (len*grow)++vs):=by
           refine eF.app ?_ g1;rw[show olds=(sg.drop 0).take (len*grow)from adN,aDX]
           have ee:c.toList.take (len*grow)=(c.toList.take sg.length).take (len*grow):=by
            rw[aEH,aEi pX]
           rw[ee];exact e4.take _
          have hlen:(c.toList.take (len*grow)++vs).length=(len+n)*grow:=by
           rw[aDw,aDF,aFo,g2];omega
          by_cases pN:len+n<=fm
          .have Mh:(len+n)*grow<=sz:=aEB (aEj _ pN) pX
           have Po:∀v∈vs,v.oneCell'=true:=λv yA=>by
            obtain⟨j,hj,rfl⟩:=aEv yA;have:=g1.len▸hj;exact nq (g1.at' j tt[j] _ rq rq) (nm tt iY _ (aDL _))
           have hst:=gu P r (0+len*grow) tg lo ff vs 0 c w e1 e5 (by rw[g2];omega) Po;have iZ:=setRow_heap w r c (c.toList.take (0+len*grow+0)++vs++c.toList.drop (0+len*grow+0+vs.length)).toArray tg (lo,ff) e1
           have uQ:(c.toList.take (0+len*grow+0)++vs++c.toList.drop (0+len*grow+0+vs.length)).toArray.size=sz:=by
            simp only[aFK,aDw,aDF,aDO,aFo];omega
           have gq:∀b x,ρ b=some x->b≠st.nx:=λb x hx e=>aag
           have Bf:ρ.le (ρ.set st.nx (r,sz)):=λq _ hq=>by rw[Ren.du _ _ _ _ (gq q _ hq)];exact hq
           have Gn:(olds++tt).length=(len+n)*grow:=by rw[hvo.len,hlen]
           have RL:=BR.cells (ρ:=ρ) (olds++tt) tg true (c.toList.take (0+len*grow+0)++vs++c.toList.drop (0+len*grow+0+vs.length)).toArray lo ff (by rw[uQ,Gn];exact Mh)
            (by
             rw[Gn,show(c.toList.take (0+len*grow+0)++vs++c.toList.drop (0+len*grow+0+vs.length)).toArray.toList=c.toList.take (0+len*grow+0)++vs++c.toList.drop (0+len*grow+0+vs.length)from rfl];rw[aEP (by simpa using hlen)]
             simpa using hvo) abb (λh=>by cases h)
           rw[uQ]at RL;have ha:=bh.move hw hm hr iZ (RL.mono Bf) (λk hk=>nj w r _ k hk) (oH w r _) rfl rfl;refine⟨_,_,_,by rw[g4,l5 pN (g3 w rfl) (by rw[kz];exact hst)],?_,ha⟩;exact .nN _ _ 0 _ _ fm grow r sz (Ren.eA _ _ _) pX (aDt _) pN (λ_=>rfl) pX
          .have jM:=l6 (P:=P) (w:=w) (e:=tg) (size:=grow) (n:=n) (need:=len+n) (sLen:=len) (sCap:=fm) (zeros:=zeros) (base:=some ⟨r,0,none⟩) (s:=.slice (some ⟨r,0,none⟩) len fm) (x:=x') (olds:=c.toList.take (len*grow)) rfl pX d3' ZT hi hz g3
            (λw1 Pa=>by
             have:=dW P w1 r 0 (len*grow) c tg (lo,ff) acz pX;rw[aDX]at this;exact this)
           have hd:=bh.drop hw b;obtain⟨ρ',k1,k2⟩:=bh.grown (st:=st.drop b) (e:=tg) (sCap:=fm) hd.wr hvo hlen hsz d1;refine⟨_,_,ρ',by rw[g4,jM],k1,?_⟩;have:((c.toList.take (len*grow)).toArray++vs.toArray)=(c.toList.take (len*grow)++vs).toArray:=rq
           rw[this];exact hd.trans k2
        .cases h
      .cases h
     .cases h
    .cases h
 .cases h
end
end
section
variable {t:List CV}{ty:TypeId}{x:CV}{x':Value}{e:TypeId}{i:TypeInfo}{y:CV}{y':Value}
def FP (x:CV):Option Nat:=match x with| .ae=>some 0| .slice _ _ len _ _=>some len| .str l=>some l.length|_=>none
def cellsOf (str:Bool)(size n:Nat)(x:CV)(st:St):Option (List CV):=
 bz str (match x with| .str l=>if n<=l.length then some ((l.take n).map bP)else none|_=>none) (dD size n x st)
def Bj (s:List CV)(off:Nat)(t:List CV)(lim:Nat):Option (List CV):=
 if off<=s.length/\s.length<=off+t.length/\off+t.length<=lim then some (s.take off++t)else none
def gw (str:Bool)(size:Nat)(d s:CV)(st:St):OR:=
 match d,FP s with
 | .ae,some _=>(match cellsOf str size 0 s st with|some _=>yj .i64 st 0|none=>.bad)
 | .slice b off len cap grow,some m=>(λn=>
  (match cellsOf str size n s st with
  |some t=>bz (Nat.beq n 0) (yj .i64 st 0)
   (bz (Bool.and (aU t) (Bool.or (Nat.beq grow 0) (Nat.ble 1 cap)))
    (match st.m.g b with
    |some (.cells s ty g)=>Option.rec (Option.rec .bad (λs'=>yj .i64 ⟨st.m.put b (some (.cells s' ty g)),st.nx⟩ n) (Bj s off t (off+cap*grow))) (λs'=>yj .i64 ⟨st.m.put b (some (.cells s' ty g)),st.nx⟩ n) (dU s off t)
    |_=>.bad) .bad)
  |none=>.bad)) (min m len)
 |_,_=>.bad
section
variable {P:Program} {ρ:Ren} {st st':St} {w:World} {v:CV}
def bh.grow {b:Nat}{s s':List CV}{g:Bool}{off lim r sz:Nat}{vs:List Value}(h:WR ρ st w)
 (h1:st.m.g b=some (.cells s ty g)) (h2:ρ b=some (r,sz)) (hw:Bj s off t lim=some s') (aef:lim<=sz) (hv:eF ρ t vs) (ho:aU t=true):
 ∃w',(storeCells ⟨r,off,none⟩ vs).run P w=.ok () w'/\bh ρ st w ρ (st.set b (.cells s' ty g)) w':=by
 obtain⟨c,lo,hi,e1,e2,e3,e4,e5⟩:=h.row h1 h2;unfold Bj at hw
 split at hw
 .rename_i hh;obtain⟨a1,Uw,a3'⟩:=hh;cases hw;have hlen:vs.length=t.length:=by rw[<-hv.len]
  have iY:∀v∈vs,v.oneCell'=true:=λv hm=>by
   obtain⟨i,ff,rfl⟩:=aEv hm;have:=hv.len▸ff;exact nq (hv.at' i t[i] _ rq rq) (nm t ho _ (aDL _))
  have jM:=gu P r off ty lo hi vs 0 c w e1 e5 pX iY;refine⟨_,jM,?_⟩
  have uh:(s.take off++t).length=off+t.length:=by
   rw[aDw,aDF];omega
  have iZ:=setRow_heap w r c (c.toList.take (off+0)++vs++c.toList.drop (off+0+vs.length)).toArray ty (lo,hi) e1
  have uQ:(c.toList.take (off+0)++vs++c.toList.drop (off+0+vs.length)).toArray.size=sz:=by
   simp only[aFK,aDw,aDF,aDO,aFo];omega
  refine bh.set h h1 h2 iZ ?_ (λk hk=>nj w r _ k hk) (oH w r _) rfl rfl;have hb:=BR.cells (ρ:=ρ) (s.take off++t) ty g (c.toList.take (off+0)++vs++c.toList.drop (off+0+vs.length)).toArray lo hi (by rw[uQ,uh];omega) ?_ abb (h.Xk h1 h2 e1)
  .rw[uQ]at hb;exact hb
  .rw[uh]
   have e:(c.toList.take (off+0)++vs++c.toList.drop (off+0+vs.length)).toArray.toList.take (off+t.length)=(c.toList.take s.length).take off++vs:=by
    simp only[aEb];rw[aEP (by simp only[aDw,aDF,aFo];omega),aEH,aEi a1]
   rw[e];exact(e4.take off).app hv
 .cases hw
def um {str:Bool}{size n:Nat}(h:cellsOf str size n x st=some t)(hn:∀m,FP x=some m->n<=m)(hw:WR ρ st w)(hx:VR ρ x x')(hs:str=true->size=1):
 ∃vs,eF ρ t vs/\vs.length=n*size/\(Builtin.firstCells size n x').run P w=.ok vs.toArray w:=by
 unfold cellsOf at h;rw[aO]at h
 split at h
 .rename_i Tr;have hs:=hs Tr;subst hs
  split at h
  .rename_i l
   split at h
   .rename_i hle;cases h;cases hx;refine⟨((l.take n).map λy:UInt8=>Value.int .u8 (y.toNat:Int)),eF.bytes ρ _,AI,?_⟩
    .simp only[Builtin.firstCells,Sem.run_pure]
     congr 1
     apply Array.ext';rw[vq];simp[gI]
   .cases h
  .cases h
 .obtain⟨vs,g1,g2,g3⟩:=l4 (P:=P) h (λe he gq=>by subst he;have:=hn 0 rfl;omega) hw hx;exact⟨vs,g1,g2,g3 w rfl⟩
def xK {str:Bool}{size:Nat}{dT sT:TypeId}{d s:CV}{d' s':Value}(h:gw str size d s st=.ok v st')(hw:WR ρ st w)(hd:VR ρ d d')(hs:VR ρ s s')
 (hu:P.underlying dT=some (.slice e)) (hi:P.info? e=some i) (hsz:i.size=size) (h1:str=true->size=1):bE P (Builtin.copy_ #[dT,sT] ty #[d',s']) ρ st w v st':=by
 have mY:(Go.sizeOf e).run P w=.ok size w:=by simp[Go.sizeOf,typeInfo,hi,hsz]
 have hlen:∀m,FP s=some m->(Builtin.lenOf s').run P w=.ok m w:=λm hm=>by
  unfold FP at hm
  split at hm
  .cases hm;cases hs;rfl
  .cases hm;obtain⟨r,sz,dA,fm,rfl,_⟩:=hs.eI;rfl
  .cases hm;cases hs;simp[Builtin.lenOf]
  .cases hm
 unfold gw at h
 split at h
 .rename_i m hm
  split at h
  .rename_i t ht;cases h;cases hd;obtain⟨vs,g1,g2,g3⟩:=um (P:=P) ht (λ_ _=>aFH _) hw hs h1;refine bE.still hw ?_ (.int _ _);simp[Builtin.copy_,aDC hu,hlen m hm,mY,g3,goInt]
  .cases h
 .rename_i b off len cap grow m hm;obtain⟨r,sz,dA,fm,rfl,hr,c1,c2,c3,c4⟩:=hd.eI;dsimp only at h
  split at h
  .rename_i t ht;obtain⟨vs,g1,g2,g3⟩:=um (P:=P) ht (λm' yA=>by rw[hm]at yA;cases yA;exact Nat.min_le_left _ _) hw hs h1;simp only[aO,aDZ,aDK,aEu,aDW]at h;have I4:Nat.min m len=min m len:=rfl
   split at h
   .rename_i h0;cases h;have hv:vs=[]:=by apply aDP.1;rw[g2,h0,Nat.zero_mul]
    subst hv;refine bE.still hw ?_ (.int _ _);rw[h0]at g3;simp[Builtin.copy_,aDC hu,hlen m hm,I4,h0,mY,g3,goInt,storeCells]
   .rename_i h0
    split at h
    .rename_i hg
     have ho:dA=off:=by
      rcases hg.2 with hg|hg
      .exact(c3 hg).2
      .exact c1 pX
     subst ho
     split at h
     .rename_i sg tg gg uj;cases ug:dU sg dA t with
      |none=>
       rw[ug]at h;dsimp only at h;cases hx:Bj sg dA t (dA+cap*grow)with
       |none=>rw[hx]at h;cases h
       |some s2=>
        rw[hx]at h;cases h
        by_cases hg0:grow=0
        .subst hg0;unfold Bj at hx
         split at hx
         .rename_i hh;exfalso;obtain⟨a1',Uw,a3'⟩:=hh;unfold dU at ug;rw[aDy pX]at ug;cases ug
         .cases hx
        .obtain⟨f1,f2⟩:=c4 pX
         have aef:dA+cap*grow<=sz:=by
          show dA+cap*grow<=sz;have:=aEj grow c2;omega
         obtain⟨w',k1,k2⟩:=bh.grow (P:=P) hw uj hr hx aef g1 hg.1;refine⟨_,w',ρ,?_,.int .i64 _,k2⟩;simp[Builtin.copy_,aDC hu,hlen m hm,I4,mY,g3,k1,goInt]
      |some s2=>
       rw[ug]at h;cases h;obtain⟨w',k1,k2⟩:=bh.write (P:=P) hw uj hr ug g1 hg.1;refine⟨_,w',ρ,?_,.int .i64 _,k2⟩;simp[Builtin.copy_,aDC hu,hlen m hm,I4,mY,g3,k1,goInt]
     .cases h
    .cases h
  .cases h
 .cases h
def rL (z:List CV)(x:CV)(st:St):OR:=
 match x with
 | .ae=>.ok .undef st
 | .slice b off len cap grow=>bz (Nat.beq len 0) (.ok .undef st)
  (bz (Bool.or (Nat.beq grow 0) (Nat.ble 1 cap))
   (match st.m.g b with
   |some (.cells s ty g)=>(λt=>bz (aU t) (Option.rec .bad (λs'=>.ok .undef ⟨st.m.put b (some (.cells s' ty g)),st.nx⟩) (dU s off t)) .bad) (cJ len z)
   |_=>.bad) .bad)
 |_=>.bad
def Ds {t:TypeId}{z:List CV}{z':Value}(h:rL z x st=.ok v st')(hw:WR ρ st w)(hx:VR ρ x x')
 (hu:P.underlying t=some (.slice e)) (hi:P.info? e=some i) (hz:i.zero=some z') (wF:∀ρ,eF ρ z z'.cells.toList):bE P (Builtin.clear_ #[t] ty #[x']) ρ st w v st':=by
 have hun:VR ρ .undef (.tuple #[]):=.undef;have Ry:(zeroValue e).run P w=.ok z' w:=WS
 unfold rL at h
 split at h
 .cases h;cases hx;exact bE.still hw (by simp[Builtin.clear_,aDC hu]) hun
 .rename_i b off len cap grow;obtain⟨r,sz,dA,fm,rfl,hr,c1,c2,c3,c4⟩:=hx.eI;simp only[aO,aDZ,aEu,aDW]at h
  split at h
  .rename_i h0;subst h0;cases h;exact bE.still hw (by simp[Builtin.clear_,aDC hu]) hun
  .rename_i h0
   split at h
   .rename_i hg
    have ho:dA=off:=by
     rcases hg with hg|hg
     .exact(c3 hg).2
     .exact c1 pX
    subst ho
    split at h
    .rename_i sg tg gg hm
     split at h
     .rename_i iY;cases ug:dU sg dA (cJ len z)with
      |none=>rw[ug]at h;cases h
      |some s2=>
       rw[ug]at h;cases h
       have hv:eF ρ (cJ len z) (Builtin.zeroCells z'.cells len).toList:=by
        rw[Builtin.zeroCells,aEZ,aFT,pB];exact(wF ρ).flatten len
       obtain⟨w',k1,k2⟩:=bh.write (P:=P) hw hm hr ug hv iY;refine⟨_,w',ρ,?_,.undef,k2⟩;obtain⟨acM,rfl⟩:∃k,len=k+1:=⟨len-1,pX⟩;simp[Builtin.clear_,aDC hu,Ry,k1]
     .cases h
    .cases h
   .cases h
 .cases h
def BJ (mx:Bool)(x y:CV)(st:St):OR:=
 match x,y with
 | .int k a,.int j b=>bz (decide (k=j)) (.ok (.int k (if mx then (if a<b then b else a)else (if b<a then b else a))) st) .bad
 |_,_=>.bad
def BI {mx:Bool}{ats:Array TypeId}(h:BJ mx x y st=.ok v st')(hw:WR ρ st w)(hx:VR ρ x x')(hy:VR ρ y y'):
 bE P (bif mx then Builtin.max_ ats ty #[x',y']else Builtin.min_ ats ty #[x',y']) ρ st w v st':=by
 unfold BJ at h
 split at h
 .rename_i k a j b;rw[aO]at h
  split at h
  .rename_i hk;rw[FX]at hk;subst hk;cases h;cases hx;cases hy;refine bE.still hw ?_ (.int _ _);cases mx
   .simp only[cond_false,Builtin.min_,List.foldlM_cons,List.foldlM_nil,Builtin.min2,bind_pure,Sem.run_pure]
    rfl
   .simp only[cond_true,Builtin.max_,List.foldlM_cons,List.foldlM_nil,Builtin.max2,bind_pure,Sem.run_pure]
    rfl
  .cases h
 .cases h
def Bz (x y:CV):Bool:=
 match x,y with
 | .bool a,.bool b=>a==b
 | .int j a,.int k b=>decide (j=k)&&decide (a=b)
 | .str a,.str b=>a==b
 |_,_=>false
def BA:List CV->List CV->Bool
 |[],[]=>true
 |v::r,u::t=>Bz v u&&BA r t
 |_,_=>false
def xG (x y:CV):Bool:=match x,y with| .agg s,.agg t=>BA s t|x,y=>Bz x y
def xE (h:Bz x y=true)(hx:VR ρ x x')(hy:VR ρ y y')(n:Nat):x'=y'/\Instr.sameBits n x' y'=true:=by
 unfold Bz at h
 split at h
 .cases hx;cases hy;rw[beq_iff_eq]at h;subst h;exact⟨rfl,by simp[Instr.sameBits]⟩
 .simp only[aDK,aEJ]at h;cases hx;cases hy;obtain⟨rfl,rfl⟩:=h;exact⟨rfl,by simp[Instr.sameBits]⟩
 .cases hx;cases hy;rw[beq_iff_eq]at h;subst h;exact⟨rfl,by simp[Instr.sameBits,beq_toListBytes]⟩
 .cases h
def EZ (n:Nat):∀(s t:List CV) (l m:List Value),BA s t=true->eF ρ s l->eF ρ t m->l=m/\(l.zip m).all (λ(x,y)=>Instr.sameBits n x y)=true:=by
 intro s
 induction s with
 |nil=>
  intro t l m h h1 h2;cases t with
  |cons _ _=>simp[BA]at h
  |nil=>
   have a:=aDP.1 h1.len.symm;have b:=aDP.1 h2.len.symm;subst a;subst b;exact⟨rfl,rfl⟩
 |cons v r ih=>
  intro t l m h h1 h2;cases t with
  |nil=>simp[BA]at h
  |cons u r'=>
   simp only[BA,aDK]at h;obtain⟨v',l',rfl,a1,a2⟩:=eF.inv (l:=r) h1;obtain⟨u',m',rfl,b1,b2⟩:=eF.inv (l:=r') h2;obtain⟨rfl,s1⟩:=xE h.1 a1 b1 n;obtain⟨rfl,s2⟩:=ih r' l' m' h.2 a2 b2;exact⟨rfl,by simp only[List.zip_cons_cons,List.all_cons,s1,s2,Bool.and_true]⟩
def xF (h:xG x y=true)(hx:VR ρ x x')(hy:VR ρ y y'):x'=y'/\Instr.sameBits 10000 x' y'=true:=by
 unfold xG at h
 split at h
 .rename_i s t
  cases hx with|agg _ l hl hh=>cases hy with|agg _ m hm hh2=>
   obtain⟨rfl,h2⟩:=EZ (ρ:=ρ) 9999 s t l m h ⟨hl,hh⟩ ⟨hm,hh2⟩;refine⟨rfl,?_⟩;show Instr.sameBits (9999+1) _ _=true;simp only[Instr.sameBits,beq_self_eq_true,Bool.true_and];exact h2
 .exact xE h hx hy 10000
end
end
section
variable {d:jX}{t:TypeId}{k:CV}{k':Value}{u:TypeDesc}{es':List MapEntry}{s:List CV}
abbrev eH:=CV×CV×Nat
def lN (d:jX)(k:CV)(es:List eH):Nat->Option (Option (Nat×CV)):=
 List.rec (motive:=λ_=>Nat->Option (Option (Nat×CV))) (λ_=>some none)
  (λe _ ih i=>Option.rec none (λb=>bz b (some (some (i,e.2.1))) (ih (Nat.succ i))) (nb d k e.1)) es
def acP (d:jX):Bool:=match d with| .bool| .int| .str| .bytes _=>true| .struct _| .array .. =>true|_=>false
def uf (d:jX)(k:CV):Bool:=Bool.and (acP d) (Option.rec false (λb=>b) (nb d k k))
section
variable {P:Program} {ρ:Ren} {st st':St} {w:World} {v:CV}
def ic:Nat->jX->Bool
 |0,_=>false
 |_+1,.bool=>true
 |_+1,.int=>true
 |_+1,.str=>true
 |_+1,.bytes _=>true
 |n+1,.struct fs=>KL n fs
 |n+1,.array _ _ _ e=>ic n e
 |_+1,_=>false
where KL:Nat->Wl->Bool
 |0,_=>false
 |_+1,.nil=>true
 |n+1,.cons _ _ _ d r=>ic n d&&KL n r
def xp (hf:Em P w ρ d t 10000)(hk:VR ρ k k'):∀(es:List eH) (es':List MapEntry) (j:Nat) (r:Option (Nat×CV)),es.length=es'.length->
 (∀(i:Nat) (e:eH) (e':MapEntry),es[i]?=some e->es'[i]?=some e'->VR ρ e.1 e'.key/\VR ρ e.2.1 e'.val/\e.2.2=e'.born)->lN d k es j=some r->
 ∃r',(Instr.findAsking t k' es' j).run P w=.ok r' w/\(match r,r' with
  |none,none=>True
  |some (i,u),some (i',u')=>i=i'/\VR ρ u u'/\j<=i/\∃e e',es[i-j]?=some e/\es'[i-j]?=some e'/\e.2.1=u/\e'.val=u'
  |_,_=>False):=by
 intro es
 induction es with
 |nil=>
  intro es' j r hl h hc;have:es'=[]:=by apply aDP.1;simpa using hl.symm
  subst this;cases hc;exact⟨none,by simp[Instr.findAsking],adu⟩
 |cons e es ih=>
  intro es' j r hl h hc;cases es' with
  |nil=>simp at hl
  |cons e' es'=>
   obtain⟨a1,a2,a3⟩:=h 0 e e' rfl rfl;have e0:lN d k (e::es) j=Option.rec none (λb=>bz b (some (some (j,e.2.1))) (lN d k es (j+1))) (nb d k e.1):=rfl;rw[e0]at hc;cases hq:nb d k e.1 with
   |none=>rw[hq]at hc;cases hc
   |some b=>
    rw[hq]at hc;have hr:(Op.equal t k' e'.key).run P w=.ok b w:=hf k e.1 k' e'.key b hq hk a1;cases b with
    |true=>
     cases hc;exact⟨some (j,e'.val),by simp[Instr.findAsking,hr],rfl,a2,aDt _,e,e',rq,rq,rfl,rfl⟩
    |false=>
     obtain⟨r',r1,r2⟩:=ih es' (j+1) r acT (λi x x' hx A9=>h (i+1) x x' WL (by simpa using A9)) hc;refine⟨r',by simp[Instr.findAsking,hr,r1],?_⟩;cases r with
     |none=>cases r' with
      |none=>trivial
      |some _=>exact r2
     |some p=>cases r' with
      |none=>exact r2
      |some p'=>
       obtain⟨i,u⟩:=p;obtain⟨i',u'⟩:=p';obtain⟨b1,b2,b3,x,x',b4,b5,b6,b7⟩:=r2;refine⟨b1,b2,pX,x,x',?_,?_,b6,b7⟩
       .rw[show i-j=(i-(j+1))+1 from pX];simpa using b4
       .rw[show i-j=(i-(j+1))+1 from pX];simpa using b5
def tZ {a b:Value}{q:Bool}(hu:P.underlying t=some u)(h:Instr.sameNow u a b=some q):(Op.equal t a b).run P w=.ok q w:=by
 unfold Instr.sameNow at h
 split at h
 .split at h
  .rename_i hk;cases h;subst hk;exact run_equalIn_int w 9999 t _ _ _ _ hu
  .cases h
 .cases h;rename_i x y;rw[beq_toListBytes];exact run_equalIn_string w 9999 t x y hu
 .cases h;exact run_equalIn_bool' w 9999 t _ _ hu
 .cases h
def Ai (hu:P.underlying t=some u):∀(es':List MapEntry) (j:Nat) (r:Option (Nat×Value)),Instr.findNow u k' es' j=some r->(Instr.findAsking t k' es' j).run P w=.ok r w:=by
 intro es'
 induction es' with
 |nil=>intro j r h;cases h;simp[Instr.findAsking]
 |cons e es' ih=>
  intro j r h;simp only[Instr.findNow]at h
  split at h
  .rename_i hs;cases h;simp[Instr.findAsking,tZ hu hs]
  .rename_i hs;simp[Instr.findAsking,tZ hu hs,ih _ _ h]
  .cases h
def GO {r:Option (Nat×Value)}(hu:P.underlying t=some u)(h:(Instr.findAsking t k' es' 0).run P w=.ok r w):(Instr.findKey t k' es').run P w=.ok r w:=by
 simp only[Instr.findKey,Sem.run_bind,aDC hu,Result.andThen_ok];cases hn:Instr.findNow u k' es' 0 with
 |none=>exact h
 |some r'=>
  have:=Ai (P:=P) (w:=w) hu es' 0 r' hn;rw[this]at h;cases h;rfl
def mh {f:Nat}{es:List eH}{r:Option (Nat×CV)}(hd:fQ P f t=some d)(hf:f<10000)(hk:VR ρ k k')(hl:es.length=es'.length)
 (h:∀(i:Nat) (e:eH) (e':MapEntry),es[i]?=some e->es'[i]?=some e'->VR ρ e.1 e'.key/\VR ρ e.2.1 e'.val/\e.2.2=e'.born) (hc:lN d k es 0=some r):
 ∃r',(Instr.findKey t k' es').run P w=.ok r' w/\(match r,r' with
  |none,none=>True
  |some (i,u),some (i',u')=>i=i'/\VR ρ u u'/\∃e e',es[i]?=some e/\es'[i]?=some e'/\e.2.1=u/\e'.val=u'
  |_,_=>False):=by
 obtain⟨r',h1,h2⟩:=xp (P:=P) (w:=w) (Qx f t d hd 10000 hf) hk es es' 0 r hl h hc
 have hu:∃u,P.underlying t=some u:=by
  cases f with
  |zero=>cases hd
  |succ f=>
   simp only[fQ]at hd;cases hu:P.underlying t with
   |none=>rw[hu]at hd;cases hd
   |some u=>exact⟨u,rfl⟩
 obtain⟨u,hu⟩:=hu;refine⟨r',GO hu h1,?_⟩;cases r with
 |none=>cases r'<;>exact h2
 |some p=>cases r' with
  |none=>exact h2
  |some p'=>
   obtain⟨i,u⟩:=p;obtain⟨i',u'⟩:=p';obtain⟨b1,b2,b3,x,x',b4,b5,b6,b7⟩:=h2;exact⟨b1,b2,x,x',by simpa using b4,by simpa using b5,b6,b7⟩
def UC (P:Program)(w:World)(ρ:Ren)(d:jX)(t:TypeId)(n:Nat):Prop:=
 ∀(e:Bool) (x:CV) (x':Value),nb d x x=some true->VR ρ x x'->(Instr.checkKey e n t x').run P w=.ok () w
def wx {a b:Option Bool}(h:andThen a b=some true):a=some true/\b=some true:=by
 cases a with
 |none=>cases h
 |some q=>cases q with
  |false=>cases h
  |true=>exact⟨rfl,h⟩
def MG {len size:Nat}{agg:Bool}{e:jX}:∀(off:Nat),Nat.rec (motive:=λ_=>Nat->Option Bool) (λ_=>some true)
        (λ_ ih off=>Option.rec none (λa=>Option.rec none (λb=>andThen (nb e a b) (ih (Nat.add off size))) (jf agg off size s)) (jf agg off size s)) len off=some true->
 ∀j,j<len->∃x,jf agg (off+j*size) size s=some x/\nb e x x=some true:=by
 induction len with
 |zero=>intro off _ j hj;omega
 |succ len ih=>
  intro off h j hj;simp only at h;cases hx:jf agg off size s with
  |none=>rw[hx]at h;cases h
  |some x=>
   rw[hx]at h;obtain⟨a1,a2⟩:=wx h;cases j with
   |zero=>exact⟨x,WL,a1⟩
   |succ j=>
    obtain⟨y,b1,b2⟩:=ih (off+size) a2 j pX;exact⟨y,by rw[<-b1];congr 1;rw[Nat.succ_mul];omega,b2⟩
def MF {desc:TypeId->Option jX}:∀(fs:List Field) (r:Wl),oQ P desc fs=some r->Ee r s s=some true->
 ∀f∈fs,f.name≠ "_" /\∃i u d x,P.info? f.type=some i/\P.underlying f.type=some u/\desc f.type=some d/\jf (im u) f.offset i.size s=some x/\nb d x x=some true:=by
 intro fs
 induction fs with
 |nil=>intro r _ _ f hf;cases hf
 |cons g fs ih=>
  intro r h hb f hf;simp only[oQ]at h
  split at h
  .rename_i i u d r' gq hi hu hd hr;cases h;simp only[Ee]at hb;cases hx:jf (im u) g.offset i.size s with
   |none=>rw[hx]at hb;cases hb
   |some x=>
    rw[hx]at hb;obtain⟨a1,a2⟩:=wx hb;rcases aDs.1 hf with rfl|hf
    .exact⟨aaO,i,u,d,x,hi,hu,hd,hx,a1⟩
    .exact ih r' hr a2 f hf
  .cases h
def Td:∀(f:Nat) (t:TypeId) (d:jX),fQ P f t=some d->∀m,ic m d=true->∀n,f<n->UC P w ρ d t n:=by
 intro f
 induction f with
 |zero=>intro t d h;cases h
 |succ f ih=>
  intro t d h m hm n hn e x x' hx hv;obtain⟨n,rfl⟩:∃k,n=k+1:=⟨n-1,pX⟩;simp only[fQ]at h
  split at h
  .rename_i hu;simp[Instr.checkKey,aDC hu]
  .rename_i k hu;simp[Instr.checkKey,aDC hu]
  .rename_i hu;simp[Instr.checkKey,aDC hu]
  .rename_i hu;simp[Instr.checkKey,aDC hu]
  .cases h;cases m<;>simp[ic]at hm
  .rename_i hu;simp[Instr.checkKey,aDC hu]
  .rename_i hu;simp[Instr.checkKey,aDC hu]
  .rename_i hu;simp[Instr.checkKey,aDC hu]
  .rename_i fs hu;rw[aO]at h
   split at h
   .cases h
   .split at h
    .rename_i l hl;cases h;simp only[nb]at hx
     split at hx
     .rename_i s1;cases hv with
      |agg _ lv hlv hh=>
       cases m with
       |zero=>cases hm
       |succ m=>
        have fk:=MF (P:=P) fs.toList l hl hx;simp only[Instr.checkKey,Sem.run_bind,aDC hu,Result.andThen_ok];rw[<-Array.forIn_toList]
        have Kz:∀(q:Nat) (r:Wl) (fl:List Field),oQ P (fQ P f) fl=some r->ic.KL q r=true->∀g∈fl,∀d',fQ P f g.type=some d'->∃q',ic q' d'=true:=by
         intro q
         induction q with
         |zero=>intro r fl _ hq;cases hq
         |succ q ihq=>
          intro r fl hr hq g hg d' uP;cases fl with
          |nil=>cases hg
          |cons g0 fl=>
           simp only[oQ]at hr
           split at hr
           .rename_i i0 u0 d0 r0 ayd VA X6 hd0 tf;cases hr;simp only[ic.KL,aDK]at hq;rcases aDs.1 hg with rfl|hg
            .rw[hd0]at uP;cases uP;exact⟨q,hq.1⟩
            .exact ihq r0 fl tf hq.2 g hg d' uP
           .cases hr
        have hg:∀g∈fs.toList,g.name≠ "_" /\∃y',(part g.type lv.toArray g.offset).run P w=.ok y' w/\(Instr.checkKey e n g.type y').run P w=.ok () w:=by
         intro g hgm;obtain⟨h1,i,u,d',y,h2,h3,h4,h5,h6⟩:=fk g hgm;obtain⟨y',p1,p2⟩:=iz (P:=P) (w:=w) h5 ⟨hlv,hh⟩ h2 rfl h3 rfl;obtain⟨q',hq'⟩:=Kz m l fs.toList hl hm g hgm d' h4;exact⟨h1,y',p1,ih g.type d' h4 q' hq' n pX e y y' h6 p2⟩
        generalize fs.toList=ll at hg;refine Eq.trans (congrArg (λr:Result PUnit=>r.andThen _) (?_:_=Result.ok PUnit.unit w)) rfl
        induction ll with
        |nil=>rfl
        |cons g ll ihl=>
         obtain⟨h1,y',p1,p2⟩:=hg g rq;rw[List.forIn_cons];simp only[ne_eq,h1,not_false_eq_true,aDQ,Sem.run_bind,p1,p2,Result.andThen_ok,Sem.run_pure];exact ihl (λg' hg'=>hg g' (by simp[hg']))
     .cases hx
    .cases h
  .rename_i len el hu
   split at h
   .rename_i i hi M5;rw[aO]at h
    split at h
    .rename_i h1;rw[aDZ]at h1;cases h;simp only[nb]at hx
     split at hx
     .rename_i n1 sl;cases hub:Hx sl with
      |none=>rw[hub]at hx;cases hx
      |some a=>
      rw[hub]at hx;dsimp only at hx;rw[aO]at hx
      split at hx
      .rename_i hq;simp only[aDK,aEJ]at hq;obtain⟨rfl,_⟩:=hq;have e1:=vo hub;subst e1;rw[hv.tr];have hs:(Go.sizeOf el).run P w=.ok 1 w:=by simp[Go.sizeOf,typeInfo,hi,h1]
       simp only[Instr.checkKey,Sem.run_bind,aDC hu,Result.andThen_ok,Std.Legacy.Range.forIn_eq_forIn_range',Std.Legacy.Range.size,Nat.sub_zero,Nat.add_one_sub_one,Nat.div_one];obtain⟨n',rfl⟩:∃k,n=k+1:=⟨n-1,pX⟩;refine Eq.trans (congrArg (λr:Result PUnit=>r.andThen _) (?_:_=Result.ok PUnit.unit w)) rfl;have hl:∀j∈List.range' 0 a.length 1,j<a.length:=λj hj=>abn
       generalize List.range' 0 a.length 1=ll at hl
       induction ll with
       |nil=>rfl
       |cons j ll ihl=>
        have hj:=hl j rq
        have hp:(part el (a.map Extern.Stop.cell).toArray (j*1)).run P w=.ok (Extern.Stop.cell (a[j]' abk)) w:=by
         simp[part,isAgg,aDC M5,hj]
        rw[List.forIn_cons];simp only[Sem.run_bind,hs,hp,Result.andThen_ok,Instr.checkKey,aDC M5,Sem.run_pure];exact ihl (λj' hj'=>hl j' (by simp[hj']))
      .cases hx
     .cases hx
    .cases h
   .rename_i i u gq hi M5
    split at h
    .rename_i d' hd;cases h;simp only[nb]at hx
     split at hx
     .rename_i s1;cases hv with
      |agg _ lv hlv hh=>
       cases m with
       |zero=>cases hm
       |succ m=>
        have yA:ic m d'=true:=hm;have hs:(Go.sizeOf el).run P w=.ok i.size w:=abc
        have fk:=MG (s:=s1) 0 hx;simp only[Instr.checkKey,Sem.run_bind,aDC hu,Result.andThen_ok,Std.Legacy.Range.forIn_eq_forIn_range',Std.Legacy.Range.size,Nat.sub_zero,Nat.add_one_sub_one,Nat.div_one];refine Eq.trans (congrArg (λr:Result PUnit=>r.andThen _) (?_:_=Result.ok PUnit.unit w)) rfl;have hl:∀j∈List.range' 0 len 1,j<len:=λj hj=>abn
        generalize List.range' 0 len 1=ll at hl
        induction ll with
        |nil=>rfl
        |cons j ll ihl=>
         have hj:=hl j rq;obtain⟨y,b1,b2⟩:=fk j hj;rw[aDx]at b1;obtain⟨y',p1,p2⟩:=iz (P:=P) (w:=w) b1 ⟨hlv,hh⟩ hi rfl M5 rfl;have:=ih el d' hd m yA n pX e y y' b2 p2;rw[List.forIn_cons];simp only[Sem.run_bind,hs,p1,this,Result.andThen_ok,Sem.run_pure];exact ihl (λj' hj'=>hl j' (by simp[hj']))
     .cases hx
    .cases h
   .cases h
  .cases h
end
end
section
variable {e:eH}{es:List eH}{es':List MapEntry}{f:Nat}{d:jX}{t:TypeId}{m:Nat}{k:CV}{k':Value}{a:Int}{z:CV}{kt et:TypeId}{i:TypeInfo}{z':Value}{x:CV}{x':Value}{es2:List eH}{clock clock2 r sz:Nat}{es2':List MapEntry}{o:Obj}{r0:Nat}{y:CV}{y':Value}
def Ak (x:CV)(st:St):Option (List eH):=
 match x with
 | .fF=>some []
 | .map b=>(match st.m.g b with|some (.map es _)=>some es|_=>none)
 |_=>none
def qw (x:CV)(st:St):Option (List eH):=
 match x with
 | .map b=>(match st.m.g b with|some (.lmap es)=>some es|_=>none)
 |_=>none
def DK (a:Int)(v:CV):Bool:=match v with| .int .i64 n=>zeq a n|_=>false
def vU (a:Int)(es:List eH):Option CV:=List.rec (motive:=λ_=>Option CV) none (λe _ ih=>bz (DK a e.1) (some e.2.1) ih) es
def qu (a:Int)(x:CV)(es:List eH):List eH:=List.rec (motive:=λ_=>List eH) [] (λe _ ih=>bz (DK a e.1) ((e.1,x,e.2.2)::ih) (e::ih)) es
def IN (d:jX)(k:CV):Option Int:=match d,k with| .int,.int .i64 a=>some a|_,_=>none
def vE (d:jX)(z:CV)(ok:Bool)(es:List eH)(k:CV)(st:St):OR:=
 match IN d k with
 |some a=>(match vU a es with
  |some u=>bz ok (.ok (.tuple [u,.bool true]) st) (.ok u st)
  |none=>bz ok (.ok (.tuple [z,.bool false]) st) (.ok z st))
 |none=>.bad
def iE (d:jX)(z:CV)(ok:Bool)(x k:CV)(st:St):OR:=
 bz (uf d k) (match qw x st with
  |some es=>vE d z ok es k st
  |none=>(match Ak x st with
  |some es=>(match lN d k es 0 with
   |some (some (_,u))=>bz ok (.ok (.tuple [u,.bool true]) st) (.ok u st)
   |some none=>bz ok (.ok (.tuple [z,.bool false]) st) (.ok z st)
   |none=>.bad)
  |none=>.bad)) .bad
def xL (es:List eH)(i:Nat)(e:eH):List eH:=
 List.rec (motive:=λ_=>Nat->List eH) (λ_=>[]) (λx r ih i=>Nat.rec (e::r) (λj _=>x::ih j) i) es i
def Co (es:List eH)(i:Nat):Option eH:=List.rec (motive:=λ_=>Nat->Option eH) (λ_=>none) (λx _ ih i=>Nat.rec (some x) (λj _=>ih j) i) es i
def GX (es:List eH)(i:Nat):List eH:=
 List.rec (motive:=λ_=>Nat->List eH) (λ_=>[]) (λx r ih i=>Nat.rec r (λj _=>x::ih j) i) es i
def zq (d:jX)(b:Nat)(es:List eH)(k x:CV)(st:St):OR:=
 match IN d k with
 |some a=>(match vU a es with
  |some _=>.ok .undef ⟨st.m.put b (some (.lmap (qu a x es))),st.nx⟩
  |none=>.ok .undef ⟨st.m.put b (some (.lmap (es++[(k,x,0)]))),st.nx⟩)
 |none=>.bad
def eC (d:jX)(m k x:CV)(st:St):OR:=
 bz (uf d k) (match m with
  | .map b=>(match st.m.g b with
    |some (.lmap es)=>zq d b es k x st
    |some (.map es clock)=>(match lN d k es 0 with
     |some (some (i,_))=>(match Co es i with
      |some (k0,_,born)=>bz (xG k0 k) (.ok .undef ⟨st.m.put b (some (.map (xL es i (k,x,born)) clock)),st.nx⟩) .bad
      |none=>.bad)
     |some none=>ot (Nat.succ clock) λc=>.ok .undef ⟨st.m.put b (some (.map (es++[(k,x,clock)]) c)),st.nx⟩
     |none=>.bad)
    |_=>.bad)
  |_=>.bad) .bad
def fE (d:jX)(z:CV)(m k:CV)(st:St):OR:=
 bz (uf d k) (match m with
  | .map b=>(match st.m.g b with
    |some (.map es clock)=>(match lN d k es 0 with
     |some (some (i,u))=>(match Co es i with
      |some (k0,_,born)=>bz (xG k0 k) (.ok (.tuple [u,.int .i64 (.ofNat born)]) ⟨st.m.put b (some (.map (xL es i (k,u,born)) clock)),st.nx⟩) .bad
      |none=>.bad)
     |some none=>ot (Nat.succ clock) λc=>.ok (.tuple [z,.int .i64 (.ofNat clock)]) ⟨st.m.put b (some (.map (es++[(k,z,clock)]) c)),st.nx⟩
     |none=>.bad)
    |_=>.bad)
  |_=>.bad) .bad
def sE (born:Nat)(es:List eH):Nat->Option (Nat×eH):=
 List.rec (motive:=λ_=>Nat->Option (Nat×eH)) (λ_=>none) (λx _ ih i=>bz (Nat.beq x.2.2 born) (some (i,x)) (ih (Nat.succ i))) es
def dS (m s x:CV)(st:St):OR:=
 match m,s with
 | .map b,.int _ (.ofNat born)=>(match st.m.g b with
   |some (.map es clock)=>(match sE born es 0 with
    |some (i,(k,_,bn))=>.ok .undef ⟨st.m.put b (some (.map (xL es i (k,x,bn)) clock)),st.nx⟩
    |none=>.bad)
   |_=>.bad)
 |_,_=>.bad
def oL (d:jX)(m k:CV)(st:St):OR:=
 bz (uf d k) (match m with
  | .fF=>.ok .undef st
  | .map b=>(match st.m.g b with
    |some (.map es clock)=>(match lN d k es 0 with
     |some (some (i,_))=>.ok .undef ⟨st.m.put b (some (.map (GX es i) clock)),st.nx⟩
     |some none=>.ok .undef st
     |none=>.bad)
    |_=>.bad)
  |_=>.bad) .bad
def jv (r:Option CV)(st:St):OR:=
 match r with
 |none|some (.int _ _)=>ot (st.nx+1) λn=>.ok (.map st.nx) ⟨st.m.put st.nx (some (.map [] 0)),n⟩
 |_=>.bad
section
variable {P:Program} {ρ:Ren} {st st':St} {w:World} {v:CV}
def qL (ρ:Ren)(es:List eH)(es':List MapEntry):Prop:=
 es.length=es'.length/\∀(i:Nat) (e:eH) (e':MapEntry),es[i]?=some e->es'[i]?=some e'->VR ρ e.1 e'.key/\VR ρ e.2.1 e'.val/\e.2.2=e'.born
def qL.nil:qL ρ [] []:=⟨rfl,λi e e' h=>Wz⟩
def qL.cons {e':MapEntry}(h:VR ρ e.1 e'.key/\VR ρ e.2.1 e'.val/\e.2.2=e'.born)(t:qL ρ es es'):qL ρ (e::es) (e'::es'):=
 ⟨by simp[t.1],λi x x' a b=>by
  cases i with
  |zero=>simp at a b;subst a;subst b;exact h
  |succ i=>exact t.2 i x x' abv abw⟩
def qL.inv (h:qL ρ (e::es) es'):∃e' t',es'=e'::t'/\(VR ρ e.1 e'.key/\VR ρ e.2.1 e'.val/\e.2.2=e'.born)/\qL ρ es t':=by
 cases es' with
 |nil=>have:=h.1;simp at this
 |cons e' t'=>exact⟨e',t',rfl,h.2 0 e e' rfl rfl,by have:=h.1;simpa using this,λi x x' a b=>h.2 (i+1) x x' abv abw⟩
def qL.app {fs:List eH}{fs':List MapEntry}(h:qL ρ es es')(t:qL ρ fs fs'):qL ρ (es++fs) (es'++fs'):=by
 induction es generalizing es' with
 |nil=>have:es'=[]:=by have:=h.1;simpa using this.symm
       subst this;exact t
 |cons e es ih=>obtain⟨e',t',rfl,h1,h2⟩:=h.inv;exact qL.cons h1 (ih h2)
def qL.mod {f:MapEntry->MapEntry}:∀{es:List eH} {es':List MapEntry} (i:Nat),qL ρ es es'->(∀e',es'[i]?=some e'->VR ρ e.1 (f e').key/\VR ρ e.2.1 (f e').val/\e.2.2=(f e').born)->qL ρ (xL es i e) (es'.modify i f):=by
 intro es
 induction es with
 |nil=>
  intro es' i h _;have:es'=[]:=by have:=h.1;simpa using this.symm
  subst this;rw[List.modify_nil];exact h
 |cons x es ih=>
  intro es' i h hf;obtain⟨x',t',rfl,h1,h2⟩:=h.inv;cases i with
  |zero=>
   show qL ρ (e::es) _;rw[List.modify_zero_cons];exact qL.cons (hf x' rfl) h2
  |succ i=>
   show qL ρ (x::xL es i e) _;rw[List.modify_succ_cons];exact qL.cons h1 (ih i h2 (λe' he=>hf e' aar))
def qL.del:∀{es:List eH} {es':List MapEntry} (i:Nat),qL ρ es es'->qL ρ (GX es i) (es'.eraseIdx i):=by
 intro es
 induction es with
 |nil=>
  intro es' i h;have:es'=[]:=by have:=h.1;simpa using this.symm
  subst this;rw[List.eraseIdx_nil];exact h
 |cons x es ih=>
  intro es' i h;obtain⟨x',t',rfl,h1,h2⟩:=h.inv;cases i with
  |zero=>exact h2
  |succ i=>
   show qL ρ (x::GX es i) _;rw[List.eraseIdx_cons_succ];exact qL.cons h1 (ih i h2)
def GS:∀(es:List eH) (i:Nat),Co es i=es[i]?:=by
 intro es
 induction es with
 |nil=>intro i;rfl
 |cons x es ih=>intro i;cases i with
  |zero=>rfl
  |succ i=>show Co es i=_;rw[ih];simp
def mE (h:uf d k=true)(hd:fQ P f t=some d)(hf:f<10000)(hm:ic m d=true)(hk:VR ρ k k')(e:Bool):(Instr.checkKey e 10000 t k').run P w=.ok () w:=by
 unfold uf at h;simp only[aDK]at h
 have:nb d k k=some true:=by
  cases hc:nb d k k with
  |none=>rw[hc]at h;cases h.2
  |some b=>rw[hc]at h;rw[show b=true from h.2]
 exact Td f t d hd m hm 10000 hf e k k' this hk
def eF.two {a b:CV}{a' b':Value}(ha:VR ρ a a')(hb:VR ρ b b'):eF ρ [a,b] [a',b']:=eF.cons ha (eF.cons hb (eF.nil ρ))
def oN {v:CV}:DK a v=true↔v=.int .i64 a:=by
 unfold DK
 split
 .rw[yo];constructor
  .intro h;rw[h]
  .intro h;cases h;rfl
 .rename_i h;constructor
  .intro hh;cases hh
  .intro hh;subst hh;exact(h _ rfl).elim
def BQ (a:Int)(e:eH)(es:List eH):vU a (e::es)=bz (DK a e.1) (some e.2.1) (vU a es):=rfl
def LW (a:Int)(x:CV)(e:eH)(es:List eH):qu a x (e::es)=bz (DK a e.1) ((e.1,x,e.2.2)::qu a x es) (e::qu a x es):=rfl
def nV (a:Int)(x:CV)(es:List eH):qu a x es=es.map λe=>if DK a e.1=true then (e.1,x,e.2.2)else e:=by
 induction es with
 |nil=>rfl
 |cons e es ih=>
  rw[LW,aEc,<-ih,aO]
  split<;>rfl
def wX :∀{es:List eH} {u:CV},vU a es=some u->∃e∈es,e.1=.int .i64 a/\e.2.1=u:=by
 intro es
 induction es with
 |nil=>intro u h;cases h
 |cons e es ih=>
  intro u h;rw[BQ,aO]at h
  split at h
  .rename_i hh;cases h;exact⟨e,aEw ..,oN.1 hh,rfl⟩
  .obtain⟨e',h1,h2⟩:=ih h;exact⟨e',aDS _ h1,h2⟩
def ta :∀{es:List eH},vU a es=none->∀e∈es,e.1≠ .int .i64 a:=by
 intro es
 induction es with
 |nil=>intro _ e he;cases he
 |cons e es ih=>
  intro h x hx;rw[BQ,aO]at h
  split at h
  .cases h
  .rename_i hh;rcases aDs.1 hx with rfl|hx
   .exact λhh'=>hh (oN.2 hh')
   .exact ih h x hx
def LO (hn:(es.map (·.1)).Nodup){f:eH}(he:e∈es)(hf:f∈es)(h:e.1=f.1):e=f:=by
 induction es with
 |nil=>cases he
 |cons x es ih=>
  rw[aEc,aDG]at hn;rcases aDs.1 he with Jb|Jb
  .rcases aDs.1 hf with hf1|hf1
   .rw[Jb,hf1]
   .exact absurd (by rw[<-Jb,h];exact aEA (f:=(·.1)) hf1) hn.1
  .rcases aDs.1 hf with hf1|hf1
   .exact absurd (by rw[<-hf1,<-h];exact aEA (f:=(·.1)) Jb) hn.1
   .exact ih hn.2 Jb hf1
def xO {l:List eH}(hd:fQ P f t=some .int)(hf:f<10000)(hk:VR ρ (.int .i64 a) k')(hi:∀e∈l,∃n:Int,e.1=.int .i64 n)(hl:l.length=es'.length)
 (h:∀(i:Nat) (e:eH) (e':MapEntry),l[i]?=some e->es'[i]?=some e'->VR ρ e.1 e'.key/\VR ρ e.2.1 e'.val):
 ∃r',(Instr.findKey t k' es').run P w=.ok r' w/\(match r' with
  |none=>∀e∈l,e.1≠ .int .i64 a
  |some (j,u')=>∃e e',l[j]?=some e/\es'[j]?=some e'/\e.1=.int .i64 a/\e'.val=u'):=by
 have key:∀(l:List eH) (i:Nat),(∀e∈l,∃n:Int,e.1=.int .i64 n)->
  (∃j e,l[j]?=some e/\e.1=.int .i64 a/\lN .int (.int .i64 a) l i=some (some (i+j,e.2.1)))\/((∀e∈l,e.1≠ .int .i64 a)/\lN .int (.int .i64 a) l i=some none):=by
  intro l
  induction l with
  |nil=>intro i _;exact .inr ⟨λe he=>(by cases he),rfl⟩
  |cons e l ih=>
   intro i hi;obtain⟨n,hn⟩:=hi e (aEw ..);have e0:lN .int (.int .i64 a) (e::l) i=Option.rec none (λb=>bz b (some (some (i,e.2.1))) (lN .int (.int .i64 a) l (Nat.succ i))) (nb .int (.int .i64 a) e.1):=rfl;rw[e0,hn];have e1:nb .int (.int .i64 a) (.int .i64 n)=some (zeq a n):=rfl;rw[e1];dsimp only;rw[aO]
   by_cases hz:zeq a n=true
   .rw[aDy hz];have:=(yo a n).1 hz;subst this;exact .inl ⟨0,e,rfl,hn,rfl⟩
   .rw[aDv hz];rcases ih (i+1) (λe he=>hi e (aDS _ he))with⟨j,e',h1,h2,h3⟩|⟨h1,h2⟩
    .exact .inl ⟨j+1,e',Wx,h2,by rw[show i+(j+1)=i+1+j from pX];exact h3⟩
    .refine .inr ⟨λx hx=>?_,h2⟩;rcases aDs.1 hx with rfl|hx
     .rw[hn];intro hh;cases hh;exact hz ((yo _ _).2 rfl)
     .exact h1 x hx
 have hlz:∀(i:Nat) (e:eH) (e':MapEntry),(List.zipWith (λ(e:eH) (e':MapEntry)=>((e.1,e.2.1,e'.born):eH)) l es')[i]?=some e->es'[i]?=some e'->∃e0,l[i]?=some e0/\e=(e0.1,e0.2.1,e'.born):=by
  intro i e e' h1 h2;rw[List.getElem?_zipWith]at h1;cases h3:l[i]? with
  |none=>rw[h3]at h1;simp at h1
  |some e0=>rw[h3,h2]at h1;simp at h1;exact⟨e0,rfl,h1.symm⟩
 have hzi:∀e∈List.zipWith (λ(e:eH) (e':MapEntry)=>((e.1,e.2.1,e'.born):eH)) l es',∃n:Int,e.1=.int .i64 n:=by
  intro e he;obtain⟨i,ff,rfl⟩:=aEv he;have hlt:i<es'.length:=by simp at ff;omega
  obtain⟨e0,g1,g2⟩:=hlz i _ es'[i] (aDu ff) (aDu hlt);rw[g2];exact hi e0 (aEm g1)
 have hlen:(List.zipWith (λ(e:eH) (e':MapEntry)=>((e.1,e.2.1,e'.born):eH)) l es').length=es'.length:=by simp[hl]
 have Vq:∀(i:Nat) (e:eH) (e':MapEntry),(List.zipWith (λ(e:eH) (e':MapEntry)=>((e.1,e.2.1,e'.born):eH)) l es')[i]?=some e->es'[i]?=some e'->VR ρ e.1 e'.key/\VR ρ e.2.1 e'.val/\e.2.2=e'.born:=by
  intro i e e' h1 h2;obtain⟨e0,g1,g2⟩:=hlz i e e' h1 h2;obtain⟨g3,g4⟩:=h i e0 e' g1 h2;rw[g2];exact⟨g3,g4,rfl⟩
 rcases key _ 0 hzi with⟨j,e,h1,h2,h3⟩|⟨h1,h2⟩
 .obtain⟨r',f1,f2⟩:=mh (P:=P) (w:=w) hd hf hk hlen Vq h3;cases r' with
  |none=>exact f2.elim
  |some p=>
   obtain⟨j',u'⟩:=p;obtain⟨rfl,g2,e1,e',g3,g4,g5,g6⟩:=f2;rw[aDx]at g3 g4 f1;obtain⟨e0,k1,k2⟩:=hlz j e1 e' g3 g4;rw[h1]at g3;cases g3;refine⟨_,f1,e0,e',k1,g4,?_,g6⟩;rw[k2]at h2;exact h2
 .obtain⟨r',f1,f2⟩:=mh (P:=P) (w:=w) hd hf hk hlen Vq h2;cases r' with
  |some p=>exact f2.elim
  |none=>
   refine⟨_,f1,λe he=>?_⟩;obtain⟨i,ff,rfl⟩:=aEv he;have hlt:i<es'.length:=pX
   have hm:(List.zipWith (λ(e:eH) (e':MapEntry)=>((e.1,e.2.1,e'.born):eH)) l es')[i]?=some (l[i].1,l[i].2.1,es'[i].born):=by
    rw[List.getElem?_zipWith,aDu ff,aDu hlt]
   exact h1 (l[i].1,l[i].2.1,es'[i].born) (aEm hm)
def A1 {ok:Bool}(h:iE d z ok x k st=.ok v st')(hw:WR ρ st w)(hx:VR ρ x x')(hk:VR ρ k k')
 (hu:P.underlying t=some (.map kt et)) (hd:fQ P f kt=some d) (hf:f<10000) (hm:ic m d=true) (hi:P.info? et=some i) (hz:i.zero=some z') (wF:VR ρ z z'):bE P (Instr.lookup t x' k' ok) ρ st w v st':=by
 unfold iE at h;rw[aO]at h
 split at h
 .rename_i Gw;have xj:=λe=>mE (w:=w) Gw hd hf hm hk e
  by_cases RG:∃es,qw x st=some es
  .obtain⟨es,RG⟩:=RG;rw[RG]at h;dsimp only at h;have Ry:(zeroValue et).run P w=.ok z' w:=by simp[zeroValue,typeInfo,hi,hz]
   unfold qw at RG
   split at RG
   .rename_i b
    split at RG
    .rename_i ZM uj;cases RG;cases hx with
     |map _ r0 sz tf=>
      obtain⟨l,clock,es',h1,h2,h3,h4,h5,h6,h7⟩:=hw.lmap uj tf;unfold vE at h
      split at h
      .rename_i a ha;unfold IN at ha
       split at ha
       .cases ha;obtain⟨r',f1,f2⟩:=xO (P:=P) (w:=w) hd hf hk (λe he=>h3 e (h2.mem_iff.1 he)) h6 h7
        have run:∀u' q,(match r' with|some (_,u)=>(.ok (u,true) w:Result (Value×Bool))|none=>.ok (z',false) w)=.ok (u',q) w->
         (Instr.lookup t (.map (some r0)) k' ok).run P w=.ok (if ok then .tuple #[u',.bool q]else u') w:=by
         intro u' q hq;simp only[Instr.lookup,Sem.run_bind,aDC hu,Result.andThen_ok,Sem.run_pure,dE h1,xj,f1];cases r' with
         |none=>cases hq;simp[Ry]
         |some p=>cases hq;simp
        cases hg:vU a es with
        |some u=>
         rw[hg]at h;obtain⟨e,he,Jb,Ky⟩:=wX hg;cases r' with
         |none=>exact absurd Jb (f2 e (h2.mem_iff.2 he))
         |some p=>
          obtain⟨j,u'⟩:=p;obtain⟨e1,e',g1,g2,g3,g4⟩:=f2;have PK:=LO h4 (h2.mem_iff.1 (aEm g1)) he (by rw[g3,Jb]);subst PK;have hv:=(h7 j _ _ g1 g2).2;rw[Ky,g4]at hv;have hr:=run u' true rfl;cases ok with
          |false=>cases h;exact bE.still hw hr hv
          |true=>cases h;exact bE.still hw hr (VR.tuple' (eF.two hv (.bool true)))
        |none=>
         rw[hg]at h;cases r' with
         |some p=>
          obtain⟨j,u'⟩:=p;obtain⟨e1,e',g1,g2,g3,g4⟩:=f2;exact absurd g3 (ta hg e1 (h2.mem_iff.1 (aEm g1)))
         |none=>
          have hr:=run z' false rfl;cases ok with
          |false=>cases h;exact bE.still hw hr wF
          |true=>cases h;exact bE.still hw hr (VR.tuple' (eF.two wF (.bool false)))
       .cases ha
      .cases h
    .cases RG
   .cases RG
  have anu:qw x st=none:=by
   cases hh:qw x st with
   |none=>rfl
   |some es=>exact absurd ⟨es,hh⟩ RG
  rw[anu]at h;dsimp only at h;cases he:Ak x st with
  |none=>rw[he]at h;cases h
  |some es=>
   rw[he]at h;dsimp only at h
   have key:∃es':List MapEntry,qL ρ es es'/\∀(r:Option (Nat×Value)),(Instr.findKey kt k' es').run P w=.ok r w->∀u' q,(match r with|some (_,u)=>(.ok (u,true) w:Result (Value×Bool))|none=>.ok (z',false) w)=.ok (u',q) w->
    (Instr.lookup t x' k' ok).run P w=.ok (if ok then .tuple #[u',.bool q]else u') w:=by
    have Ry:(zeroValue et).run P w=.ok z' w:=WS
    unfold Ak at he
    split at he
    .cases he;cases hx;refine⟨[],qL.nil,λr hr u' q hq=>?_⟩;simp only[Instr.lookup,Sem.run_bind,aDC hu,Result.andThen_ok,Sem.run_pure,xj,hr];cases r with
     |none=>cases hq;simp[Ry]
     |some p=>cases hq;simp
    .rename_i b
     split at he
     .rename_i ZM clock uj;cases he;cases hx with
      |map _ r0 sz tf=>
       obtain⟨es',h1,h2,h3⟩:=hw.map uj tf;refine⟨es',⟨h2,h3⟩,λr hr u' q hq=>?_⟩;simp only[Instr.lookup,Sem.run_bind,aDC hu,Result.andThen_ok,Sem.run_pure,dE h1,xj,hr];cases r with
       |none=>cases hq;simp[Ry]
       |some p=>cases hq;simp
     .cases he
    .cases he
   obtain⟨es',e1,e2⟩:=key;cases hc:lN d k es 0 with
   |none=>rw[hc]at h;cases h
   |some r=>
    rw[hc]at h;obtain⟨r',f1,f2⟩:=mh (P:=P) (w:=w) hd hf hk e1.1 e1.2 hc;cases r with
    |none=>
     cases r' with
     |some _=>exact f2.elim
     |none=>
      have:=e2 none f1 z' false rfl;cases ok with
      |false=>cases h;exact bE.still hw this wF
      |true=>cases h;exact bE.still hw this (VR.tuple' (eF.two wF (.bool false)))
    |some p=>
     obtain⟨j,u⟩:=p;cases r' with
     |none=>exact f2.elim
     |some p'=>
      obtain⟨j',u'⟩:=p';obtain⟨_,g2,_⟩:=f2;have:=e2 _ f1 u' true rfl;cases ok with
      |false=>cases h;exact bE.still hw this g2
      |true=>cases h;exact bE.still hw this (VR.tuple' (eF.two g2 (.bool true)))
 .cases h
def bh.wW {b:Nat}(hw:WR ρ st w)(hm:st.m.g b=some (.map es clock))(hr:ρ b=some (r,sz))(he:qL ρ es2 es2'):
 bh ρ st w ρ (st.set b (.map es2 clock2)) {w with heap:=w.heap.setIfInBounds r (.map es2'.toArray clock2)}:=by
 obtain⟨es',h1,_⟩:=hw.map hm hr;have hlt:=(aEh.1 h1).1;exact bh.set hw hm hr (by simp[hlt]) (.map es2 clock2 es2' he.1 he.2 sz) (λk hk=>by simp[aEy (aEr hk)]) rq rfl rfl
def fo {es:Array MapEntry}(h:w.heap[r]?=some (.map es clock)):(setObj r o).run P w=.ok () {w with heap:=w.heap.setIfInBounds r o}:=by
 simp only[setObj,Sem.run,h]
def bh.J8 {b:Nat}{l2:List eH}(hw:WR ρ st w)(hm:st.m.g b=some (.lmap es))(hr:ρ b=some (r,sz))(hp:l2.Perm es2)(hi:∀e∈es2,∃n:Int,e.1=.int .i64 n)(hn:(es2.map (·.1)).Nodup)
 (hs:Go.MapKept.Stamped es2'.toArray clock2) (hl:l2.length=es2'.length) (h:∀(i:Nat) (e:eH) (e':MapEntry),l2[i]?=some e->es2'[i]?=some e'->VR ρ e.1 e'.key/\VR ρ e.2.1 e'.val):
 bh ρ st w ρ (st.set b (.lmap es2)) {w with heap:=w.heap.setIfInBounds r (.map es2'.toArray clock2)}:=by
 obtain⟨_,_,es',h1,_⟩:=hw.lmap hm hr;have hlt:=(aEh.1 h1).1;exact bh.set hw hm hr (by simp[hlt]) (.lmap es2 l2 clock2 es2' hp hi hn hs hl h sz) (λk hk=>by simp[aEy (aEr hk)]) rq rfl rfl
def uL {n:Int}{v':Value}(h:VR ρ (.int .i64 n) v'):v'=.int .i64 n:=by cases h;rfl
def BH {b:Nat}(h:zq d b es k y st=.ok v st')(hw:WR ρ st w)(uj:st.m.g b=some (.lmap es))(tf:ρ b=some (r0,sz))(hk:VR ρ k k')(hy:VR ρ y y')
 (hu:P.underlying t=some (.map kt et)) (hd:fQ P f kt=some d) (hf:f<10000) (xj:∀e,(Instr.checkKey e 10000 kt k').run P w=.ok () w):v=.undef/\∃(es2':List MapEntry) (clock2:Nat),(Instr.mapUpdate t (.map (some r0)) k' y').run P w=.ok () {w with heap:=w.heap.setIfInBounds r0 (.map es2'.toArray clock2)}/\bh ρ st w ρ st' {w with heap:=w.heap.setIfInBounds r0 (.map es2'.toArray clock2)}:=by
 obtain⟨l,clock,es',h1,h2,h3,h4,h5,h6,h7⟩:=hw.lmap uj tf;obtain⟨s1,s2,s3⟩:=h5;unfold zq at h
 split at h
 .rename_i a ha;unfold IN at ha
  split at ha
  .cases ha;obtain⟨r',f1,f2⟩:=xO (P:=P) (w:=w) hd hf hk (λe he=>h3 e (h2.mem_iff.1 he)) h6 h7;have u7:=uL hk;subst u7;cases hg:vU a es with
   |none=>
    rw[hg]at h;cases h;cases r' with
    |some p=>
     obtain⟨j,u'⟩:=p;obtain⟨e1,e',g1,g2,g3,g4⟩:=f2;exact absurd g3 (ta hg e1 (h2.mem_iff.1 (aEm g1)))
    |none=>
     have iZ:∀e'∈es',e'.key≠ .int .i64 a:=by
      intro e' M9 hh;obtain⟨i,hi,rfl⟩:=aEv M9;have hlt:i<l.length:=pX
      have hv:=(h7 i l[i] _ (aDu hlt) (aDu hi)).1;obtain⟨n,hn⟩:=h3 _ (h2.mem_iff.1 (aDL hlt));rw[hn,hh]at hv;cases hv;exact f2 _ (aDL hlt) hn
     refine⟨rfl,es'++[{key:=Value.int IntKind.i64 a,val:=y',born:=clock}],clock+1,?_,?_⟩
     .simp only[Instr.mapUpdate,Sem.run_bind,aDC hu,Result.andThen_ok,dE h1,xj,f1,fo h1];simp
     refine bh.J8 (es2:=es++[(CV.int IntKind.i64 a,y,0)]) (l2:=l++[(CV.int IntKind.i64 a,y,0)]) (clock2:=clock+1) (es2':=es'++[{key:=Value.int IntKind.i64 a,val:=y',born:=clock}]) hw uj tf (h2.append_right _) ?_ ?_ ⟨?_,?_,?_⟩ (by simp[h6]) ?_
     .intro e he;rcases aDB.1 he with he|he
      .exact h3 e he
      .rw[aEE.1 he];exact⟨a,rfl⟩
     .rw[aEC,aEn];refine⟨h4,rq,?_⟩;intro x hx y hy hxy;obtain⟨e,he,rfl⟩:=aDR.1 hx;simp at hy;subst hy;exact ta hg e he hxy
     .intro x hx;rw[aDB]at hx;rcases hx with hx|hx
      .have:=s1 x hx;omega
      .rw[aEE.1 hx];exact Nat.lt_succ_self _
     .rw[aEC,aEn];refine⟨s2,rq,?_⟩;intro x hx y hy hxy;obtain⟨e,he,rfl⟩:=aDR.1 hx;simp at hy;subst hy;have:=s1 e he;omega
     .rw[aEC,aEn];refine⟨s3,rq,?_⟩;intro x hx y hy hxy;obtain⟨e,he,rfl⟩:=aDR.1 hx;simp at hy;subst hy;exact iZ e he hxy
     .intro i e e' a1 a2;rcases aEG i l.length with hlt|jW
      .rw[aET hlt]at a1;rw[aET pX]at a2;exact h7 i e e' a1 a2
      .rw[aEF jW]at a1;rw[aEF pX,<-h6]at a2;generalize i-l.length=q at a1 a2;cases q with
       |zero=>simp at a1 a2;subst a1;subst a2;exact⟨hk,hy⟩
       |succ q=>simp at a1
   |some u=>
    rw[hg]at h;cases h;obtain⟨e,he,Jb,Ky⟩:=wX hg;cases r' with
    |none=>exact absurd Jb (f2 e (h2.mem_iff.2 he))
    |some p=>
     obtain⟨j,u'⟩:=p;obtain⟨e1,e',g1,g2,g3,g4⟩:=f2
     have Gu:e'.key=.int .i64 a:=by
      have hv:=(h7 j _ _ g1 g2).1;rw[g3]at hv;exact uL hv
     have HE:∀(l:List eH),(qu a y l).map (·.1)=l.map (·.1):=by
      intro l;rw[nV,aFN];apply List.map_congr_left;intro x _;show(if DK a x.1=true then (x.1,y,x.2.2)else x).1=x.1
      split<;>rfl
     have PF:((es'.modify j λe=>{e with key:=.int .i64 a,val:=y'}).map (·.key))=es'.map (·.key):=by
      apply aFL;intro i;rw[aEf,aEf,List.getElem?_modify]
      by_cases I8:j=i
      .subst I8;rw[g2];simp[Gu]
      .simp[I8]
     have PV:((es'.modify j λe=>{e with key:=.int .i64 a,val:=y'}).map (·.born))=es'.map (·.born):=by
      apply aFL;intro i;rw[aEf,aEf,List.getElem?_modify]
      by_cases I8:j=i
      .subst I8;rw[g2];simp
      .simp[I8]
     refine⟨rfl,es'.modify j λe=>{e with key:=.int .i64 a,val:=y'},clock,?_,?_⟩
     .have hsb:Instr.sameBits 10000 (.int .i64 a) (.int .i64 a)=true:=by simp[Instr.sameBits]
      simp only[Instr.mapUpdate,Sem.run_bind,aDC hu,Result.andThen_ok,dE h1,xj,f1,Instr.keyThatStays,aEI,g2,aED,aFa,Gu,hsb,aDQ,Sem.run_pure,fo h1];simp
     refine bh.J8 (l2:=qu a y l) (clock2:=clock) (es2':=es'.modify j λe=>{e with key:=.int .i64 a,val:=y'}) hw uj tf (by rw[nV,nV];exact h2.map _) ?_ (by rw[HE];exact h4) ⟨?_,?_,?_⟩ (by rw[nV];simp[h6]) ?_
     .intro x hx;rw[nV,aDR]at hx;obtain⟨x0,To,rfl⟩:=hx;obtain⟨n,hn⟩:=h3 x0 To
      split
      .exact⟨n,hn⟩
      .exact⟨n,hn⟩
     .intro x hx;have:x.born∈(es'.modify j λe=>{e with key:=.int .i64 a,val:=y'}).map (·.born):=aEA hx;rw[PV,aDR]at this;obtain⟨x0,To,e0⟩:=this;rw[<-e0];exact s1 x0 To
     .show((es'.modify j λe=>{e with key:=.int .i64 a,val:=y'}).map (·.born)).Nodup;rw[PV];exact s2
     .show((es'.modify j λe=>{e with key:=.int .i64 a,val:=y'}).map (·.key)).Nodup;rw[PF];exact s3
     .intro i x x' a1 a2;rw[nV,aEf]at a1;rw[List.getElem?_modify]at a2
      by_cases I8:j=i
      .subst I8;rw[g1]at a1;rw[g2]at a2;simp at a1 a2;subst a2;rw[aDy (oN.2 g3)]at a1;subst a1;exact⟨by rw[g3];exact hk,hy⟩
      .cases hli:l[i]? with
       |none=>rw[hli]at a1;simp at a1
       |some x0=>
        rw[hli]at a1;have Uw:es'[i]?=some x':=by simpa[I8]using a2
        obtain⟨b1,b2⟩:=h7 i x0 x' hli Uw
        have gq:¬DK a x0.1=true:=by
         intro hh;have To:=oN.1 hh;rw[To]at b1;have M8:=uL b1;have YK:=(aDD.1 g2).1;have I5:=(aDD.1 Uw).1;have je:=aFI.1 s3
         have e1:(es'.map (·.key))[j]'(by simpa using YK)=.int .i64 a:=by
          have:=(aDD.1 g2).2;rw[List.getElem_map,this,Gu]
         have e2:(es'.map (·.key))[i]'(by simpa using I5)=.int .i64 a:=by
          have:=(aDD.1 Uw).2;rw[List.getElem_map,this,M8]
         rcases aEG j i with zX|zX
         .exact je j i (by simpa using YK) (by simpa using I5) zX (by exact e1.trans e2.symm)
         .exact je i j (by simpa using I5) (by simpa using YK) pX (by exact e2.trans e1.symm)
        simp only[aED,aER]at a1;rw[aDv gq]at a1;subst a1;exact⟨b1,b2⟩
  .cases ha
 .cases h
def Fu {b:Nat}(h:zq d b es k y st=.ok v st')(hw:WR ρ st w)(uj:st.m.g b=some (.lmap es))(tf:ρ b=some (r0,sz))(hk:VR ρ k k')(hy:VR ρ y y')
 (hu:P.underlying t=some (.map kt et)) (hd:fQ P f kt=some d) (hf:f<10000) (xj:∀e,(Instr.checkKey e 10000 kt k').run P w=.ok () w):CB P (Instr.mapUpdate t (.map (some r0)) k' y') ρ st w v st':=by
 obtain⟨h1,es2,clock2,h2,h3⟩:=BH h hw uj tf hk hy hu hd hf xj;exact⟨_,ρ,h2,h1,h3⟩
def pE (h:eC d x k y st=.ok v st')(hw:WR ρ st w)(hx:VR ρ x x')(hk:VR ρ k k')(hy:VR ρ y y')
 (hu:P.underlying t=some (.map kt et)) (hd:fQ P f kt=some d) (hf:f<10000) (hm:ic m d=true):CB P (Instr.mapUpdate t x' k' y') ρ st w v st':=by
 unfold eC at h;rw[aO]at h
 split at h
 .rename_i Gw;have xj:=λe=>mE (w:=w) Gw hd hf hm hk e
  split at h
  .rename_i b
   split at h
   .rename_i es uj;cases hx with
    |map _ r0 sz tf=>exact Fu h hw uj tf hk hy hu hd hf xj
   .rename_i es clock uj;cases hx with
    |map _ r0 sz tf=>
     obtain⟨es',h1,h2,h3⟩:=hw.map uj tf;cases hc:lN d k es 0 with
     |none=>rw[hc]at h;cases h
     |some r=>
      rw[hc]at h;obtain⟨r',f1,f2⟩:=mh (P:=P) (w:=w) hd hf hk h2 h3 hc;cases r with
      |none=>
       cases r' with
       |some _=>exact f2.elim
       |none=>
        dsimp only at h;rw[dH]at h;cases h;refine⟨_,ρ,?_,rfl,bh.wW (clock2:=clock+1) hw uj tf (qL.app ⟨h2,h3⟩ (qL.cons (e:=(k,y,clock)) (e':={key:=k',val:=y',born:=clock}) ⟨hk,hy,rfl⟩ qL.nil))⟩;simp only[Instr.mapUpdate,Sem.run_bind,aDC hu,Result.andThen_ok,dE h1,xj,f1,fo h1];simp
      |some p=>
       obtain⟨j,u⟩:=p;cases r' with
       |none=>exact f2.elim
       |some p'=>
        obtain⟨j',u'⟩:=p';obtain⟨rfl,g2,e,e',g3,g4,g5,g6⟩:=f2;dsimp only at h;rw[GS,g3]at h;obtain⟨k0,u0,born⟩:=e;dsimp only at h;rw[aO]at h
        split at h
        .rename_i hs;cases h;obtain⟨a1,a2,a3⟩:=h3 j _ _ g3 g4;obtain⟨s1,s2⟩:=xF hs a1 hk
         refine⟨_,ρ,?_,rfl,bh.wW (clock2:=clock) hw uj tf (qL.mod (e:=(k,y,born)) (f:=λe=>{e with key:=k',val:=y'}) j ⟨h2,h3⟩ (λe2 Ky=>by
          rw[g4]at Ky;cases Ky;exact⟨hk,hy,a3⟩))⟩
         simp only[Instr.mapUpdate,Sem.run_bind,aDC hu,Result.andThen_ok,dE h1,xj,f1,Instr.keyThatStays,aEI,g4,aED,aFa,s2,aDQ,Sem.run_pure,fo h1];simp
        .cases h
   .cases h
  .cases h
 .cases h
def yi (h:fE d z x k st=.ok v st')(hw:WR ρ st w)(hx:VR ρ x x')(hk:VR ρ k k')
 (hu:P.underlying t=some (.map kt et)) (hd:fQ P f kt=some d) (hf:f<10000) (hm:ic m d=true) (hi:P.info? et=some i) (hz:i.zero=some z') (wF:VR ρ z z'):bE P (Instr.mapEntry t x' k') ρ st w v st':=by
 have Ry:(zeroValue et).run P w=.ok z' w:=WS
 unfold fE at h;rw[aO]at h
 split at h
 .rename_i Gw;have xj:=λe=>mE (w:=w) Gw hd hf hm hk e
  split at h
  .rename_i b
   split at h
   .rename_i es clock uj;cases hx with
    |map _ r0 sz tf=>
     obtain⟨es',h1,h2,h3⟩:=hw.map uj tf;cases hc:lN d k es 0 with
     |none=>rw[hc]at h;cases h
     |some r=>
      rw[hc]at h;obtain⟨r',f1,f2⟩:=mh (P:=P) (w:=w) hd hf hk h2 h3 hc;cases r with
      |none=>
       cases r' with
       |some _=>exact f2.elim
       |none=>
        dsimp only at h;rw[dH]at h;cases h;refine⟨.tuple #[z',goInt clock],_,ρ,?_,VR.tuple' (eF.two wF (.int .i64 _)),bh.wW (clock2:=clock+1) hw uj tf (qL.app ⟨h2,h3⟩ (qL.cons (e:=(k,z,clock)) (e':={key:=k',val:=z',born:=clock}) ⟨hk,wF,rfl⟩ qL.nil))⟩;simp only[Instr.mapEntry,Sem.run_bind,aDC hu,Result.andThen_ok,dE h1,xj,f1,Ry,fo h1,Sem.run_pure];simp
      |some p=>
       obtain⟨j,u⟩:=p;cases r' with
       |none=>exact f2.elim
       |some p'=>
        obtain⟨j',u'⟩:=p';obtain⟨rfl,g2,e,e',g3,g4,g5,g6⟩:=f2;dsimp only at h;rw[GS,g3]at h;obtain⟨k0,u0,born⟩:=e;dsimp only at h;rw[aO]at h
        split at h
        .rename_i hs;cases h;obtain⟨a1,a2,a3⟩:=h3 j _ _ g3 g4;obtain⟨s1,s2⟩:=xF hs a1 hk;have a3':born=e'.born:=a3
         refine⟨.tuple #[u',goInt e'.born],_,ρ,?_,VR.tuple' (eF.two g2 (by rw[a3'];exact .int .i64 _)),bh.wW (clock2:=clock) hw uj tf (qL.mod (e:=(k,u,born)) (f:=λe=>{e with key:=k'}) j ⟨h2,h3⟩ (λe2 Ky=>by
          rw[g4]at Ky;cases Ky;exact⟨hk,by rw[g6];exact g2,a3⟩))⟩
         simp only[Instr.mapEntry,Sem.run_bind,aDC hu,Result.andThen_ok,dE h1,xj,f1,Instr.keyThatStays,aEI,g4,aED,aFa,s2,aDQ,Sem.run_pure,fo h1];simp
        .cases h
   .cases h
  .cases h
 .cases h
def Ef {born:Nat}:∀{es:List eH} {es':List MapEntry} {j i:Nat} {e:eH},qL ρ es es'->sE born es j=some (i,e)->
 j<=i/\es[i-j]?=some e/\es'.findIdx? (λe=>(e.born:Int)==(born:Int))=some (i-j):=by
 intro es
 induction es with
 |nil=>intro es' j i e _ h;cases h
 |cons x es ih=>
  intro es' j i e h hb;obtain⟨x',t',rfl,h1,h2⟩:=h.inv;have e0:sE born (x::es) j=bz (Nat.beq x.2.2 born) (some (j,x)) (sE born es (j+1)):=rfl;simp only[e0,aO,aDZ]at hb
  split at hb
  .rename_i hq;cases hb;refine⟨aDt _,rq,?_⟩;rw[List.findIdx?_cons];have:((x'.born:Int)==(born:Int))=true:=by rw[beq_iff_eq,<-h1.2.2,hq]
   simp[this]
  .rename_i hq;obtain⟨a1,a2,a3⟩:=ih h2 hb;refine⟨pX,by rw[show i-j=(i-(j+1))+1 from pX];simpa using a2,?_⟩;rw[List.findIdx?_cons]
   have:((x'.born:Int)==(born:Int))=false:=by
    rw[beq_eq_false_iff_ne,<-h1.2.2];exact λe=>hq (by exact_mod_cast e)
   simp only[this,aDp,aDE,a3,aED]
   congr 1;omega
def vH {s:CV}{s':Value}(h:dS x s y st=.ok v st')(hw:WR ρ st w)(hx:VR ρ x x')(hs:VR ρ s s')(hy:VR ρ y y'):CB P (Instr.entryStore t x' s' y') ρ st w v st':=by
 unfold dS at h
 split at h
 .rename_i b k born
  split at h
  .rename_i es clock uj;cases hs;cases hx with
   |map _ r0 sz tf=>
    obtain⟨es',h1,h2,h3⟩:=hw.map uj tf
    split at h
    .rename_i j k0 u0 bn hb;cases h;obtain⟨a1,a2,a3⟩:=Ef (ρ:=ρ) (es':=es') ⟨h2,h3⟩ hb;rw[Nat.sub_zero]at a2 a3
     refine⟨_,ρ,?_,rfl,bh.wW (clock2:=clock) hw uj tf (qL.mod (e:=(k0,y,bn)) (f:=λe=>{e with val:=y'}) j ⟨h2,h3⟩ (λe2 Ky=>by
      obtain⟨b1,b2,b3⟩:=h3 j _ _ a2 Ky;exact⟨b1,hy,b3⟩))⟩
     simp only[Instr.entryStore,Sem.run_bind,dE h1,Result.andThen_ok,asInt,asIntOf,Sem.run_pure]
     have:es'.toArray.findIdx? (λe=>(e.born:Int)==Int.ofNat born)=some j:=by
      rw[<-a3];simp
     rw[this];simp only[fo h1];simp
    .cases h
  .cases h
 .cases h
def Od {w:World}(h:w.heap[r]?=some o):({w with heap:=w.heap.setIfInBounds r o}:World)=w:=by
 have:w.heap.setIfInBounds r o=w.heap:=by
  apply Array.ext_getElem?;intro i
  by_cases e:r=i
  .subst e;have:=(aEh.1 h).1;rw[h];simp[this]
  .rw[aEy e]
 rw[this]
def A5 {ty:TypeId}{ats:Array TypeId}(mM:ats[0]?=some t)(h:oL d x k st=.ok v st')(hw:WR ρ st w)(hx:VR ρ x x')(hk:VR ρ k k')
 (hu:P.underlying t=some (.map kt et)) (hd:fQ P f kt=some d) (hf:f<10000) (hm:ic m d=true):bE P (Builtin.delete_ ats ty #[x',k']) ρ st w v st':=by
 have hun:VR ρ .undef (.tuple #[]):=.undef;unfold oL at h;rw[aO]at h
 split at h
 .rename_i Gw;have xj:=λe=>mE (w:=w) Gw hd hf hm hk e
  split at h
  .cases h;cases hx;exact bE.still hw (by simp[Builtin.delete_,mM,aDC hu,xj]) hun
  .rename_i b
   split at h
   .rename_i es clock uj;cases hx with
    |map _ r0 sz tf=>
     obtain⟨es',h1,h2,h3⟩:=hw.map uj tf;cases hc:lN d k es 0 with
     |none=>rw[hc]at h;cases h
     |some r=>
      rw[hc]at h;obtain⟨r',f1,f2⟩:=mh (P:=P) (w:=w) hd hf hk h2 h3 hc;cases r with
      |none=>
       cases r' with
       |some _=>exact f2.elim
       |none=>
        cases h;refine bE.still hw ?_ hun;simp only[Builtin.delete_,mM,aEI,aDo,aDq,Sem.run_bind,aDC hu,Result.andThen_ok,dE h1,xj,f1,fo h1,Sem.run_pure];rw[Od h1]
      |some p=>
       obtain⟨j,u⟩:=p;cases r' with
       |none=>exact f2.elim
       |some p'=>
        obtain⟨j',u'⟩:=p';obtain⟨rfl,g2,e,e',g3,g4,g5,g6⟩:=f2;cases h;refine⟨.tuple #[],_,ρ,?_,.undef,bh.wW (clock2:=clock) hw uj tf (qL.del j ⟨h2,h3⟩)⟩;simp only[Builtin.delete_,mM,aEI,aDo,aDq,Sem.run_bind,aDC hu,Result.andThen_ok,dE h1,xj,f1,fo h1,Sem.run_pure]
        congr 3
        congr 1
        apply Array.ext';simp
   .cases h
  .cases h
 .cases h
def Dl {r:Option CV}{r':Option Value}(h:jv r st=.ok v st')(hw:WR ρ st w)(hr:Rp ρ r r')(hu:P.underlying t=some (.map kt et)):bE P (Instr.makeMap t r') ρ st w v st':=by
 have key:∀n,OR.ok (.map st.nx) ⟨st.m.put st.nx (some (.map [] 0)),(st.nx+1)⟩=OR.ok v st'->n=w.heap.size->(Instr.makeMap t r').run P w=.ok (.map (some w.heap.size)) {w with heap:=w.heap.push (.map #[] 0)}->bE P (Instr.makeMap t r') ρ st w v st':=by
  intro n h _ jM;cases h;have ha:=bh.new hw (BR.map (ρ:=ρ.set st.nx (w.heap.size,0)) [] 0 [] rfl (λi e e' h=>Wz) 0);exact⟨_,_,_,jM,.map _ _ _ ha.2,ha.1⟩
 unfold jv at h
 split at h
 .rw[dH]at h;cases r' with
  |some _=>exact hr.elim
  |none=>exact key _ h rfl (by simp[Instr.makeMap])
 .rw[dH]at h;cases r' with
  |none=>exact hr.elim
  |some x'=>
   have AM:VR ρ _ x':=hr;cases AM;exact key _ h rfl (by simp[Instr.makeMap,aDC hu,asInt,asIntOf])
 .cases h
end
end
section
variable {parts':Array (Nat×Value)}{β γ:Type}{t:TypeId}{i:TypeInfo}{z:List CV}{z':Value}{e:TypeId}
abbrev tU:=Nat×Nat×CV
def gf (parts:List tU):List CV->Option (List CV):=
 List.rec (motive:=λ_=>List CV->Option (List CV)) (λs=>some s)
  (λp _ ih s=>bz (Nat.beq p.2.2.cA.length p.2.1&& !p.2.2.isAny) (Option.rec none (λs'=>ih s') (dU s p.1 p.2.2.cA)) none) parts
def Mt (off:Nat):∀(l:List Value) (k:Nat) (cells:Array Value),off+k+l.length<=cells.size->
 ((l.zipIdx k).foldl (λcs (p:Value×Nat)=>cs.setIfInBounds (off+p.2) p.1) cells).toList=cells.toList.take (off+k)++l++cells.toList.drop (off+k+l.length):=by
 intro l
 induction l with
 |nil=>intro k cells _;simp
 |cons v l ih=>
  intro k cells h;rw[List.zipIdx_cons,List.foldl_cons,ih (k+1) _ (by simp at h⊢;omega)];have e:=list_seg_step cells.toList (off+k) v l (by simp at h⊢;omega);simp only[Array.toList_setIfInBounds];rw[<-Nat.add_assoc,e];simp
section
variable {P:Program} {ρ:Ren} {st st':St} {w:World} {v:CV}
inductive qI (ρ:Ren)(place:Nat->Option (Nat×Nat)):List tU->List (Nat×Value)->Prop where
 |nil:qI ρ place [] []
 |cons (i off size:Nat) (x:CV) (x':Value) (l:List tU) (l':List (Nat×Value)) (hp:place i=some (off,size)) (hx:VR ρ x x') (t:qI ρ place l l'):
  qI ρ place ((off,size,x)::l) ((i,x')::l')
def qG {place:Nat->Option (Nat×Nat)}{parts:List tU}{parts':List (Nat×Value)}(h:qI ρ place parts parts'):∀{s s':List CV} {cells:Array Value},gf parts s=some s'->eF ρ s cells.toList->
 ∃kL,Instr.fill place cells parts'=some kL/\eF ρ s' kL.toList:=by
 induction h with
 |nil=>intro s s' cells h hv;cases h;exact⟨cells,rfl,hv⟩
 |cons i off size x x' l l' hp hx t ih=>
  intro s s' cells h hv;have e0:gf ((off,size,x)::l) s=bz (Nat.beq x.cA.length size&& !x.isAny) (Option.rec none (λs'=>gf l s') (dU s off x.cA)) none:=rfl;simp only[e0,aO,aDK,aDZ,aGc]at h
  split at h
  .rename_i hsz0;obtain⟨hsz,hna⟩:=hsz0;cases hw:dU s off x.cA with
   |none=>rw[hw]at h;cases h
   |some s2=>
    rw[hw]at h;obtain⟨w1,w2⟩:=xM hw;have hxs:=hx.cA hna;have hlen:x'.cells.size=size:=by have:=hxs.len;rw[hsz]at this;simpa using this.symm
    have uQ:cells.size=s.length:=by have:=hv.len;simpa using this.symm
    have Mh:off+x'.cells.size<=cells.size:=pX
    let QP:=x'.cells.zipIdx.foldl (λcs (p:Value×Nat)=>cs.setIfInBounds (off+p.2) p.1) cells
    have Nb:QP.toList=cells.toList.take off++(x'.cells.toList++cells.toList.drop (off+x'.cells.size)):=by
     have:=Mt off x'.cells.toList 0 cells (by simpa using Mh);show(Array.foldl _ cells x'.cells.zipIdx).toList=_;rw[<-Array.foldl_toList,Array.toList_zipIdx,this];simp
    obtain⟨kL,f1,f2⟩:=ih (cells:=QP) h (by
     rw[w2,Nb];have e1:x.cA.length=x'.cells.size:=by rw[hsz,hlen]
     rw[e1];exact(hv.take off).app (hxs.app (hv.drop _)))
    refine⟨kL,?_,f2⟩;simp only[Instr.fill,hp];rw[aDv (by simp[hlen];omega)];exact f1
  .cases h
def bu (z:List CV)(parts:List tU)(st:St):OR:=Option.rec .bad (λs=>.ok (.agg s) st) (gf parts z)
def bO (e len:Nat)(z:List CV)(parts:List tU)(st:St):OR:=
 Option.rec .bad (λs=>.ok (.slice st.nx 0 len len 0) ⟨st.m.put st.nx (some (.cells s e false)),st.nx+1⟩) (gf parts z)
def AW (l:List β)(f:β->Sem γ)(g:β->γ)(h:∀x∈l,(f x).run P w=.ok (g x) w):(l.mapM f).run P w=.ok (l.map g) w:=by
 induction l with
 |nil=>simp
 |cons a l ih=>simp[List.mapM_cons,h a rq,ih (λx hx=>h x WH)]
def zc (l:Array β)(f:β->Sem γ)(g:β->γ)(h:∀x∈l.toList,(f x).run P w=.ok (g x) w):(l.mapM f).run P w=.ok (l.map g) w:=by
 rw[Array.mapM_eq_mapM_toList,Sem.run_map,AW l.toList f g h];simp only[Result.andThen_ok]
 congr 1
 apply Array.ext';simp
def De (P:Program)(fs:Array Field)(i:Nat):Option (Nat×Nat):=(fs[i]?).map λf=>(f.offset,P.cellsOf f.type)
def mP (size:Nat)(i:Nat):Option (Nat×Nat):=some (i*size,size)
def A6 {fs:Array Field}{parts:List tU}(h:bu z parts st=.ok v st')(hw:WR ρ st w)(hu:P.underlying t=some (.struct fs))(hi:P.info? t=some i)
 (hz:i.zero=some z') (wF:∀ρ,eF ρ z z'.cells.toList) (hp:qI ρ (De P fs) parts parts'.toList) (aey:∀f∈fs.toList,∃j,P.info? f.type=some j):bE P (Instr.build t parts') ρ st w v st':=by
 unfold bu at h;cases hf:gf parts z with
 |none=>rw[hf]at h;cases h
 |some s=>
  rw[hf]at h;dsimp only at h;cases h;obtain⟨kL,f1,f2⟩:=qG hp hf (wF ρ);refine bE.still hw (v':=.agg kL) ?_ (by have:=VR.Ek f2;simpa using this)
  have hm:=zc (P:=P) (w:=w) fs (λf=>do pure (f.offset,<-Go.sizeOf f.type)) (λf=>(f.offset,P.cellsOf f.type)) (λf hf=>by
   obtain⟨j,hj⟩:=aey f hf;simp[Go.sizeOf,typeInfo,hj,Program.cellsOf])
  have IZ:(λi=>(fs.map λf=>(f.offset,P.cellsOf f.type))[i]?)=De P fs:=by
   funext i;simp[De]
  simp only[Instr.build,zeroValue,typeInfo,Sem.run_bind,run_program,Result.andThen_ok,hi,hz,Sem.run_pure,aDC hu];rw[hm];simp only[Result.andThen_ok];rw[IZ,f1]
  rfl
def Dt {n:Nat}{j:TypeInfo}{parts:List tU}(h:bu z parts st=.ok v st')(hw:WR ρ st w)(hu:P.underlying t=some (.array n e))(hi:P.info? t=some i)
 (hz:i.zero=some z') (wF:∀ρ,eF ρ z z'.cells.toList) (hj:P.info? e=some j) (hp:qI ρ (mP j.size) parts parts'.toList):bE P (Instr.build t parts') ρ st w v st':=by
 unfold bu at h;cases hf:gf parts z with
 |none=>rw[hf]at h;cases h
 |some s=>
  rw[hf]at h;dsimp only at h;cases h;obtain⟨kL,f1,f2⟩:=qG hp hf (wF ρ);refine bE.still hw (v':=.agg kL) ?_ (by have:=VR.Ek f2;simpa using this);have IZ:(λi=>some (i*j.size,j.size))=mP j.size:=rfl;simp only[Instr.build,zeroValue,Go.sizeOf,typeInfo,Sem.run_bind,run_program,Result.andThen_ok,hi,hj,hz,Sem.run_pure,aDC hu];rw[IZ,f1]
  rfl
def vJ {len:Nat}{parts:List tU}(h:bO e len (cJ len z) parts st=.ok v st')(hw:WR ρ st w)(hu:P.underlying t=some (.slice e))(hi:P.info? e=some i)
 (hz:i.zero=some z') (hsz:z'.cells.size=i.size) (wF:∀ρ,eF ρ z z'.cells.toList) (hp:qI ρ (mP i.size) parts parts'.toList) (hlen:len*i.size<=16777216):bE P (Instr.buildSlice t len parts') ρ st w v st':=by
 unfold bO at h;cases hf:gf parts (cJ len z)with
 |none=>rw[hf]at h;cases h
 |some s=>
  rw[hf]at h;dsimp only at h;cases h
  have jB:(List.replicate len z'.cells.toList).flatten=((Array.range (len*i.size)).map (z'.cells[·%z'.cells.size]!)).toList:=by
   rw[<-hsz,aEZ,aFT];exact(pB z'.cells len).symm
  have hvz:eF ρ (cJ len z) ((Array.range (len*i.size)).map (z'.cells[·%z'.cells.size]!)).toList:=by
   rw[<-jB];exact(wF ρ).flatten len
  obtain⟨kL,f1,f2⟩:=qG hp hf hvz;obtain⟨ρ',h1,h2,h3⟩:=bh.newRow (P:=P) (t:=e) (s:=s) (l:=kL.toList) hw (λρ' hle=>f2.mono hle) false;rw[aEU]at h1 h3;refine⟨.slice (some ⟨w.heap.size,0,none⟩) len len,_,ρ',?_,.slice _ _ _ _ _ _ h2,h3⟩;have IZ:(λk=>some (k*i.size,i.size))=mP i.size:=rfl;have hn:¬(len*i.size>2^24):=by show¬(len*i.size>16777216);omega
  simp only[Instr.buildSlice,Sem.run_bind,aDC hu,Result.andThen_ok,Go.sizeOf,typeInfo,run_program,hi,Sem.run_pure,aDv hn]
  by_cases h0:len*i.size=0
  .have hz0:((Array.range (len*i.size)).map (z'.cells[·%z'.cells.size]!))=((Array.range (len*i.size)).map ((#[]:Array Value)[·%(#[]:Array Value).size]!)):=by
    rw[h0,Array.range_zero'];simp
   rw[hz0]at f1;rw[aDy h0]
   show Sem.run P (do
    let some cells:=Instr.fill (mP i.size) ((Array.range (len*i.size)).map ((#[]:Array Value)[·%(#[]:Array Value).size]!)) parts'.toList|stuck "buildSlice: a part of the wrong size"
    pure (Value.slice (some (<-newRow e cells)) len len)) w=_
   rw[f1];simp only[Sem.run_bind,h1,Result.andThen_ok,Sem.run_pure]
  .rw[aDv h0];simp only[zeroValue,typeInfo,Sem.run_bind,run_program,Result.andThen_ok,hi,hz,Sem.run_pure];rw[IZ,f1];simp only[Sem.run_bind,h1,Result.andThen_ok,Sem.run_pure]
def qU (fn:Fn)(f c:List CV)(st:St):OR:=.ok (.func fn f c) st
def FC {fn:Fn}{f c:List CV}{f' c':Array Value}(h:qU fn f c st=.ok v st')(hw:WR ρ st w)(hf:eF ρ f f'.toList)(hc:eF ρ c c'.toList):bE P (Instr.makeFunc fn f' c') ρ st w v st':=by
 cases h;refine bE.still hw rfl ?_;have:=VR.func (ρ:=ρ) fn f c f'.toList c'.toList hf.len hc.len hf.at' hc.at'
 simpa using this
end
end
