import Derived.Test.YtomffjeofpafnaaGreatDoorLimB
namespace Lim
open Go
noncomputable section
def St.drop (st:St)(b:Nat):St:=⟨st.mem.put b none,st.next⟩
def bQ (e size bytes:Nat)(s:CV)(src:Option (Nat×List CV))(st:St):OR:=
 match s,src with
 | .ae,some (n,t)=>bC (Nat.beq n 0) (.ok .ae st)
  (bC (Bool.and (Nat.ble 1 size) (Bool.and (Nat.ble (Nat.mul n bytes) 140737488355328) (Nat.ble n 140737488355328)))
   (.ok (.slice st.next 0 n n size) ⟨st.mem.put st.next (some (.cells t e true)),st.next+1⟩) .bad)
 | .slice b off len cap grow,some (n,t)=>
   bC (Nat.beq n 0) (bC (Nat.ble len cap) (.ok (.slice b off len cap grow) st) .bad)
    (nS (Nat.add len n) fun need=>
     bC (Nat.ble need cap)
      (match st.mem.get b with
      |some (.cells s ty g)=>bC (aX t) (Option.rec .bad (fun s'=> .ok (.slice b off need cap grow) ⟨st.mem.put b (some (.cells s' ty g)),st.next⟩) (dR s (off+len*size) t)) .bad
      |_=> .bad)
      (bC (Bool.and (Nat.ble 1 size) (Bool.and (Nat.ble (Nat.mul need bytes) 140737488355328) (Nat.ble need 140737488355328)))
       (match st.mem.get b with
       |some (.cells s ty _)=>
        (match gX s off (len*size)with
        |some olds=>(fun nx l=>
         bC (Nat.beq grow 0) (.ok (.slice st.next 0 need need size) ⟨st.mem.put st.next (some (.cells l e true)),nx⟩)
          (bC (Bool.and (Nat.beq off 0) (Bool.and (Nat.beq grow size) (Bool.and (Nat.beq ty e) (Bool.and (aX t) (Nat.ble 1 cap)))))
           (.ok (.slice st.next 0 need need size) ⟨(st.mem.put b none).put st.next (some (.cells l e true)),nx⟩) .bad)) (st.next+1) (olds++t)
        |none=> .bad)
       |_=> .bad) .bad))
 |_,_=> .bad
section
variable {P:Program} {ρ:Ren} {st st':St} {w:World} {v:CV}
theorem bf.drop (h:WR ρ st w)(b:Nat):bf ρ st w ρ (st.drop b) w:=by
 have ij:∀q blk,(st.drop b).mem.get q=some blk->st.mem.get q=some blk:=fun q blk hq=>by
  by_cases e:q=b
  ·subst e;simp only[St.drop,PT.cP]at hq;cases hq
  ·simpa only[St.drop,PT.cZ _ _ _ _ e]using hq
 exact⟨⟨fun q blk r sz hq=>h.at' q blk r sz (ij q blk hq),fun q q' blk fc r s s' h1 h2=>h.inj q q' blk fc r s s' (ij q blk h1) (ij q' fc h2),h.fresh⟩,
  fun _ _ h=>h,fun _ _ h=>h,aAU _,fun q blk _ sz h1 h2=> .inl ⟨q,blk,sz,ij q blk h1,h2⟩,fun _ _ _=>rfl,aAU _,rfl,rfl⟩
theorem lB {e size n need sLen sCap:Nat}{zeros:Bool}{ia:Sem (Array Value)}{base:Option Addr}{s x:Value}{i:TypeInfo}{z':Value}{vs olds:List Value}(hn:need=sLen+n)(Al:sCap<need)
 (h63:need<=140737488355328) (hb:need*i.bytes<=140737488355328) (hi:P.info? e=some i) (hz:i.zero=some z') (ha:∀w1:World,w1.heap=w.heap->ia.run P w1= .ok vs.toArray w1)
 (ho:∀w1:World,w1.heap=w.heap->(Builtin.firstCells size sLen s).run P w1= .ok olds.toArray w1):
 (lS e size zeros n ia base sLen sCap s x).run P w=
  .ok (.slice (some ⟨w.heap.size,0,none⟩) need (grownCap w need sCap e))
   {w with drawn:=w.drawn+1,heap:=w.heap.push (.cells (olds.toArray++vs.toArray++Builtin.zeroCells z'.cells (grownCap w need sCap e-need)) e)}:=by
 subst hn;have h1:¬(sLen+n<=sCap):=by omega
 have Xq:IntKind.i64.max=9223372036854775807:=by decide
 have h2:¬(((sLen+n:Nat):Int)>IntKind.i64.max):=by rw[Xq];omega
 have h3:¬(Builtin.nextslicecap (sLen+n) sCap*i.bytes>2^48):=by
  have:=growslice_fits (bytes:=i.bytes) Al hb;exact fun h=>absurd (aBs h this) (by decide)
 have h4:=ha {w with drawn:=w.drawn+1} rfl;have h5:=ho {w with drawn:=w.drawn+1} rfl;simp only[lS,Sem.run_ite,aAZ h1,Sem.run_bind,typeInfo,run_program,Result.andThen_ok,hi,Sem.run_pure,h2,false_and,aBf,aAZ h3,run_choose,Question.forced,aAR,run_askRoom,h4,h5,zeroValue,hz,newRow,run_newObj]
 rfl
theorem Ln (z':Value)(k:Nat):(Builtin.zeroCells z'.cells k).size=k*z'.cells.size:=by simp[Builtin.zeroCells]
theorem FP (w:World)(need RW:Nat)(e:TypeId):need<=grownCap w need RW e:=by show need<=need+_;omega
theorem bf.grown {e size need sCap:Nat}{z':Value}{l:List CV}{vs:List Value}(hw:WR ρ st w)(hl:eu ρ (row l) vs)(hlen:vs.length=need*size)(hsz:z'.cells.size=size)(h1:1<=size):
 ∃ρ',VR ρ' (.slice st.next 0 need need size) (.slice (some ⟨w.heap.size,0,none⟩) need (grownCap w need sCap e))/\
  bf ρ st w ρ' ⟨st.mem.put st.next (some (.cells l e true)),(st.next+1)⟩ {w with drawn:=w.drawn+1,heap:=w.heap.push (.cells (vs.toArray++Builtin.zeroCells z'.cells (grownCap w need sCap e-need)) e)}:=by
 have FF:=FP w need sCap e;have gT:∀b x,ρ b=some x->b≠st.next:=fun b x hx e=>by have:=hw.fresh b x hx;rw[e]at this;omega
 have Fm:l.length=vs.length:=by rw[hl.len]
 have mE:(vs.toArray++Builtin.zeroCells z'.cells (grownCap w need sCap e-need)).size=grownCap w need sCap e*size:=by
  rw[Array.size_append,Ln,hsz,aDm,hlen,<-aBZ];congr 1;omega
 have hb:=BR.cells (ρ:=ρ) l e true (vs.toArray++Builtin.zeroCells z'.cells (grownCap w need sCap e-need)) 0 0 (by
  rw[mE,Fm,hlen];exact aBM _ FF) (by
  rw[Fm,Array.toList_append,aCm (by simp)];exact hl) (by omega) (by intros;omega)
 have hle:ρ.le (ρ.set st.next (w.heap.size,grownCap w need sCap e*size)):=fun b _ hr=>by rw[Ren.dp _ _ _ _ (gT b _ hr)];exact hr
 have ha:=bf.new (hw.Du (w':={w with drawn:=w.drawn+1}) rfl) (sz:=grownCap w need sCap e*size) ((mE▸hb).mono hle);refine⟨_, .nj _ 0 0 need need (grownCap w need sCap e) size _ _ ha.2 h1 (aAU _) FF (fun _=>rfl) (by omega),(bf.draw hw (w.drawn+1)).trans ha.1⟩
theorem lA {e size n sLen sCap:Nat}{zeros:Bool}{ia:Sem (Array Value)}{a:Addr}{s x:Value}{vs:List Value}{w':World}(hle:sLen+n<=sCap)
 (ha:ia.run P w= .ok vs.toArray w) (hs:(storeCells (a.add (sLen*size)) vs).run P w= .ok () w'):
 (lS e size zeros n ia (some a) sLen sCap s x).run P w= .ok (.slice (some a) (sLen+n) sCap) w':=by
 simp only[lS,aBb hle,Sem.run_bind,ha,Result.andThen_ok,hs,Sem.run_pure]
theorem AI {k:Gw}{t u ty e size bytes:Nat}{i:TypeInfo}{z:List CV}{z':Value}{s x:CV}{s' x':Value}(h:bQ e size bytes s (dg k size z x st) st= .ok v st')(hw:WR ρ st w)(hs:VR ρ s s')(hx:VR ρ x x')
 (hf:Co P k u size) (hu:P.underlying t=some (.slice e)) (hi:P.info? e=some i) (hz:i.zero=some z') (WV:i.size=size) (hsz:z'.cells.size=size) (vT:∀ρ,eu ρ z z'.cells.toList) (hb:i.bytes=bytes) (GS:k= .zeros->bytes<=256):
 bI P (Builtin.append_ #[t,u] ty #[s',x']) ρ st w v st':=by
 unfold bQ at h
 split at h
 ·
   rename_i n tt AL;obtain⟨vs,zeros,ia,g1,g2,g3,g4⟩:=A8 (P:=P) (w:=w) (ty:=ty) AL hw hx hf hu hi hz WV hsz vT (fun hk=>by rw[hb];exact GS hk);cases hs;simp only[aM,aBp,aBB,aBy]at h
   split at h
   ·rename_i hn;subst hn;cases h;refine bI.still hw ?_ .ae;rw[g4];simp only[lS,aBJ,aAU,aBr,Sem.run_bind,g3 w rfl,Result.andThen_ok,Sem.run_pure]
   ·rename_i hn
    split at h
    ·rename_i hc;cases h;obtain⟨c1,c2,c3⟩:=hc;have c2':n*i.bytes<=140737488355328:=by rw[hb];exact c2
     have jv:=lB (P:=P) (w:=w) (e:=e) (size:=size) (n:=n) (need:=n) (sLen:=0) (sCap:=0) (zeros:=zeros) (base:=none) (s:= .slice none 0 0) (x:=x') (olds:=[]) (by omega) (by omega) c3 c2' hi hz g3 (fun w1 _=>by simp[Builtin.firstCells]);obtain⟨ρ',k1,k2⟩:=bf.grown (e:=e) (sCap:=0) hw g1 g2 hsz c1;refine⟨_,_,ρ',by rw[g4,jv],k1, ?_⟩
     simpa using k2
    ·cases h
 ·rename_i b off len cap grow n tt AL;obtain⟨vs,zeros,ia,g1,g2,g3,g4⟩:=A8 (P:=P) (w:=w) (ty:=ty) AL hw hx hf hu hi hz WV hsz vT (fun hk=>by rw[hb];exact GS hk);obtain⟨r,sz,df,eZ,rfl,hr,c1,c2,c3,c4⟩:=hs.eF;have hvt:tt.length=n*size:=by rw[g1.len,g2]
  simp only[aM,aBB,dE]at h
  split at h
  ·
    rename_i hn;subst hn
    split at h
    ·rename_i hle;rw[aBy]at hle;cases h;have hv:vs=[]:=by apply aBn.1;rw[g2];omega
     subst hv;refine bI.still hw ?_ hs;rw[g4,lA (by omega) (g3 w rfl) rfl];rfl
    ·cases h
  ·rename_i hn
   split at h
   ·
     rename_i hle;rw[aBy]at hle;have Xv:len+n<=cap:=hle;have ho:df=off:=c1 (by omega);subst ho
     split at h
     ·rename_i sg tg gg hm
      split at h
      ·rename_i jS;cases uA:dR sg (df+len*size) tt with
       |none=>rw[uA]at h;cases h
       |some s2=>
        rw[uA]at h;cases h;obtain⟨w',k1,k2⟩:=bf.write (P:=P) hw hm hr uA g1 jS;refine⟨_,w',ρ,by rw[g4,lA (by omega) (g3 w rfl) (by rw[jV];exact k1)], ?_,k2⟩;show VR ρ (.slice b df (len+n) cap grow) _
        by_cases hg:grow=0
        ·obtain⟨e1,_⟩:=c3 hg;subst hg;subst e1;exact .slice _ _ _ _ r sz hr
        ·obtain⟨d1,d2⟩:=c4 (by omega);exact .nj _ _ df _ _ eZ grow r sz hr (by omega) Xv c2 (fun _=>rfl) d1
      ·cases h
     ·cases h
   ·rename_i hle;rw[aBy]at hle;have Xv:¬len+n<=cap:=hle
    split at h
    ·rename_i hc;simp only[aBp,aBy]at hc;obtain⟨d1,d2,d3⟩:=hc;have Yz:(len+n)*i.bytes<=140737488355328:=by rw[hb];exact d2
     have d3':len+n<=140737488355328:=d3
     split at h
     ·rename_i sg tg gg hm
      split at h
      ·rename_i olds hol;obtain⟨c,lo,fw,e1,e2,e3,e4,e5⟩:=hw.row hm hr;have akN:=(jt hol).1;have abZ:=(jt hol).2;have aqj:off+len*size<=sg.length:=akN;have hln:len*size+n*size=(len+n)*size:=(aBZ _ _ _).symm
       split at h
       ·
         rename_i hg;have hg:grow=0:=by simpa using hg
         cases h;obtain⟨f1,f2⟩:=c3 hg;subst f1;subst f2
         have hvo:eu ρ (olds++tt) ((c.toList.drop df).take (len*size)++vs):=by
          refine eu.app ?_ g1;rw[show olds=(sg.drop df).take (len*size)from abZ]
          have ee:(c.toList.drop df).take (len*size)=((c.toList.take sg.length).drop df).take (len*size):=by
           rw[aCH,aCh,aBH (by omega)]
          rw[ee];exact(e4.drop df).take _
         have hlen:((c.toList.drop df).take (len*size)++vs).length=(len+n)*size:=by
          rw[aAY,aBh,aBo,aCx,g2];omega
         have jv:=lB (P:=P) (w:=w) (e:=e) (size:=size) (n:=n) (need:=len+n) (sLen:=len) (sCap:=eZ) (zeros:=zeros) (base:=some ⟨r,df,none⟩) (s:= .slice (some ⟨r,df,none⟩) len eZ) (x:=x') (olds:=(c.toList.drop df).take (len*size)) rfl (by omega) d3' Yz hi hz g3
          (fun w1 Oy=>dS P w1 r df (len*size) c tg (lo,fw) (by rw[Oy];exact e1) (by omega))
         obtain⟨ρ',k1,k2⟩:=bf.grown (e:=e) (sCap:=eZ) hw hvo hlen hsz d1;refine⟨_,_,ρ',by rw[g4,jv],k1, ?_⟩;have:(((c.toList.drop df).take (len*size)).toArray++vs.toArray)=((c.toList.drop df).take (len*size)++vs).toArray:=by simp
         rw[this];exact k2
       ·split at h
        ·
          rename_i hg0 hg;have hg0:grow≠0:=by simpa using hg0
          simp only[aBp,aBB,aBy]at hg;obtain⟨rfl,rfl,rfl,jS,FF⟩:=hg;cases h;obtain⟨f1,f2⟩:=c4 (by omega);have ho:df=0:=c1 (by omega);subst ho
          have hvo:eu ρ (olds++tt) (c.toList.take (len*grow)++vs):=by
           refine eu.app ?_ g1;rw[show olds=(sg.drop 0).take (len*grow)from abZ,aBx]
           have ee:c.toList.take (len*grow)=(c.toList.take sg.length).take (len*grow):=by
            rw[aCh,aBH (by omega)]
           rw[ee];exact e4.take _
          have hlen:(c.toList.take (len*grow)++vs).length=(len+n)*grow:=by
           rw[aAY,aBh,aCx,g2];omega
          by_cases tE:len+n<=eZ
          ·have Lc:(len+n)*grow<=sz:=aCq (aBM _ tE) (by omega)
           have OM:∀v∈vs,v.oneCell'=true:=fun v Dm=>by
            obtain⟨j,hj,rfl⟩:=aBT Dm;have:j<tt.length:=g1.len▸hj;exact mN (g1.at' j tt[j] _ (by simp) (by simp)) (mM tt jS _ (aBq _))
           have hst:=gz P r (0+len*grow) tg lo fw vs 0 c w e1 e5 (by rw[g2];omega) OM;have kh:=setRow_heap w r c (c.toList.take (0+len*grow+0)++vs++c.toList.drop (0+len*grow+0+vs.length)).toArray tg (lo,fw) e1
           have tJ:(c.toList.take (0+len*grow+0)++vs++c.toList.drop (0+len*grow+0+vs.length)).toArray.size=sz:=by
            simp only[aDm,aAY,aBh,aBo,aCx];omega
           have gT:∀b x,ρ b=some x->b≠st.next:=fun b x hx e=>by have:=hw.fresh b x hx;rw[e]at this;omega
           have OW:ρ.le (ρ.set st.next (r,sz)):=fun q _ hq=>by rw[Ren.dp _ _ _ _ (gT q _ hq)];exact hq
           have Fm:(olds++tt).length=(len+n)*grow:=by rw[hvo.len,hlen]
           have QW:=BR.cells (ρ:=ρ) (olds++tt) tg true (c.toList.take (0+len*grow+0)++vs++c.toList.drop (0+len*grow+0+vs.length)).toArray lo fw (by rw[tJ,Fm];exact Lc)
            (by
             rw[Fm,show(c.toList.take (0+len*grow+0)++vs++c.toList.drop (0+len*grow+0+vs.length)).toArray.toList=c.toList.take (0+len*grow+0)++vs++c.toList.drop (0+len*grow+0+vs.length)from rfl];rw[aCm (by simpa using hlen)]
             simpa using hvo) (by rw[tJ];rw[e2]at e5;exact e5) (fun h=>by cases h)
           rw[tJ]at QW;have ha:=bf.move hw hm hr kh (QW.mono OW) (fun k hk=>mK w r _ k hk) (oq w r _) rfl rfl;refine⟨_,_,_,by rw[g4,lA tE (g3 w rfl) (by rw[jV];exact hst)], ?_,ha⟩;exact .nj _ _ 0 _ _ eZ grow r sz (Ren.eA _ _ _) (by omega) (aAU _) tE (fun _=>rfl) (by omega)
          ·have jv:=lB (P:=P) (w:=w) (e:=tg) (size:=grow) (n:=n) (need:=len+n) (sLen:=len) (sCap:=eZ) (zeros:=zeros) (base:=some ⟨r,0,none⟩) (s:= .slice (some ⟨r,0,none⟩) len eZ) (x:=x') (olds:=c.toList.take (len*grow)) rfl (by omega) d3' Yz hi hz g3
            (fun w1 Oy=>by
             have:=dS P w1 r 0 (len*grow) c tg (lo,fw) (by rw[Oy];exact e1) (by omega);rw[aBx]at this;exact this)
           have hd:=bf.drop hw b;obtain⟨ρ',k1,k2⟩:=bf.grown (st:=st.drop b) (e:=tg) (sCap:=eZ) hd.wr hvo hlen hsz d1;refine⟨_,_,ρ',by rw[g4,jv],k1, ?_⟩;have:((c.toList.take (len*grow)).toArray++vs.toArray)=(c.toList.take (len*grow)++vs).toArray:=by simp
           rw[this];exact hd.trans k2
        ·cases h
      ·cases h
     ·cases h
    ·cases h
 ·cases h
end
def EX (x:CV):Option Nat:=match x with| .ae=>some 0| .slice _ _ len _ _=>some len| .str l=>some l.length|_=>none
def cellsOf (str:Bool)(size n:Nat)(x:CV)(st:St):Option (List CV):=
 bC str (match x with| .str l=>if n<=l.length then some ((l.take n).map bN)else none|_=>none) (dH size n x st)
def AQ (s:List CV)(off:Nat)(t:List CV)(lim:Nat):Option (List CV):=
 if off<=s.length/\s.length<=off+t.length/\off+t.length<=lim then some (s.take off++t)else none
def gC (str:Bool)(size:Nat)(d s:CV)(st:St):OR:=
 match d,EX s with
 | .ae,some _=>(match cellsOf str size 0 s st with|some _=>ya .i64 st 0|none=> .bad)
 | .slice b off len cap grow,some m=>(fun n=>
  (match cellsOf str size n s st with
  |some t=>bC (Nat.beq n 0) (ya .i64 st 0)
   (bC (Bool.and (aX t) (Bool.or (Nat.beq grow 0) (Nat.ble 1 cap)))
    (match st.mem.get b with
    |some (.cells s ty g)=>Option.rec (Option.rec .bad (fun s'=>ya .i64 ⟨st.mem.put b (some (.cells s' ty g)),st.next⟩ n) (AQ s off t (off+cap*grow))) (fun s'=>ya .i64 ⟨st.mem.put b (some (.cells s' ty g)),st.next⟩ n) (dR s off t)
    |_=> .bad) .bad)
  |none=> .bad)) (min m len)
 |_,_=> .bad
section
variable {P:Program} {ρ:Ren} {st st':St} {w:World} {v:CV}
theorem bf.grow {b:Nat}{s t s':List CV}{ty:TypeId}{g:Bool}{off lim r sz:Nat}{vs:List Value}(h:WR ρ st w)
 (h1:st.mem.get b=some (.cells s ty g)) (h2:ρ b=some (r,sz)) (hw:AQ s off t lim=some s') (acw:lim<=sz) (hv:eu ρ t vs) (ho:aX t=true):
 ∃w',(storeCells ⟨r,off,none⟩ vs).run P w= .ok () w'/\bf ρ st w ρ (st.set b (.cells s' ty g)) w':=by
 obtain⟨c,lo,hi,e1,e2,e3,e4,e5⟩:=h.row h1 h2;unfold AQ at hw
 split at hw
 ·rename_i hh;obtain⟨a1,TA,a3'⟩:=hh;cases hw;have hlen:vs.length=t.length:=by rw[<-hv.len]
  have jS:∀v∈vs,v.oneCell'=true:=fun v hm=>by
   obtain⟨i,fw,rfl⟩:=aBT hm;have:i<t.length:=hv.len▸fw;exact mN (hv.at' i t[i] _ (by simp) (by simp)) (mM t ho _ (aBq _))
  have jv:=gz P r off ty lo hi vs 0 c w e1 e5 (by omega) jS;refine⟨_,jv, ?_⟩
  have tD:(s.take off++t).length=off+t.length:=by
   rw[aAY,aBh];omega
  have kh:=setRow_heap w r c (c.toList.take (off+0)++vs++c.toList.drop (off+0+vs.length)).toArray ty (lo,hi) e1
  have tJ:(c.toList.take (off+0)++vs++c.toList.drop (off+0+vs.length)).toArray.size=sz:=by
   simp only[aDm,aAY,aBh,aBo,aCx];omega
  refine bf.set h h1 h2 kh ?_ (fun k hk=>mK w r _ k hk) (oq w r _) rfl rfl;have hb:=BR.cells (ρ:=ρ) (s.take off++t) ty g (c.toList.take (off+0)++vs++c.toList.drop (off+0+vs.length)).toArray lo hi (by rw[tJ,tD];omega) ?_ (by rw[tJ];rw[e2]at e5;exact e5) (h.VS h1 h2 e1)
  ·rw[tJ]at hb;exact hb
  ·rw[tD]
   have e:(c.toList.take (off+0)++vs++c.toList.drop (off+0+vs.length)).toArray.toList.take (off+t.length)=(c.toList.take s.length).take off++vs:=by
    simp only[aBJ];rw[aCm (by simp only[aAY,aBh,aCx];omega),aCh,aBH a1]
   rw[e];exact(e4.take off).app hv
 ·cases hw
theorem tL {str:Bool}{size n:Nat}{x:CV}{x':Value}{t:List CV}(h:cellsOf str size n x st=some t)(hn:∀m,EX x=some m->n<=m)(hw:WR ρ st w)(hx:VR ρ x x')(hs:str=true->size=1):
 ∃vs,eu ρ t vs/\vs.length=n*size/\(Builtin.firstCells size n x').run P w= .ok vs.toArray w:=by
 unfold cellsOf at h;rw[aM]at h
 split at h
 ·rename_i OC;have hs:=hs OC;subst hs
  split at h
  ·rename_i l
   split at h
   ·rename_i hle;cases h;cases hx;refine⟨((l.take n).map fun y:UInt8=>Value.int .u8 (y.toNat:Int)),eu.bytes ρ _,by simp;omega, ?_⟩
    ·simp only[Builtin.firstCells,Sem.run_pure]
     congr 1
     apply Array.ext';rw[uK];simp[fI]
   ·cases h
  ·cases h
 ·obtain⟨vs,g1,g2,g3⟩:=lu (P:=P) h (fun e he gT=>by subst he;have:=hn 0 rfl;omega) hw hx;exact⟨vs,g1,g2,g3 w rfl⟩
theorem wU {str:Bool}{size:Nat}{dT sT ty e:TypeId}{i:TypeInfo}{d s:CV}{d' s':Value}(h:gC str size d s st= .ok v st')(hw:WR ρ st w)(hd:VR ρ d d')(hs:VR ρ s s')
 (hu:P.underlying dT=some (.slice e)) (hi:P.info? e=some i) (hsz:i.size=size) (h1:str=true->size=1):bI P (Builtin.copy_ #[dT,sT] ty #[d',s']) ρ st w v st':=by
 have mE:(Go.sizeOf e).run P w= .ok size w:=by simp[Go.sizeOf,typeInfo,hi,hsz]
 have hlen:∀m,EX s=some m->(Builtin.lenOf s').run P w= .ok m w:=fun m hm=>by
  unfold EX at hm
  split at hm
  ·cases hm;cases hs;rfl
  ·cases hm;obtain⟨r,sz,df,eZ,rfl,_⟩:=hs.eF;rfl
  ·cases hm;cases hs;simp[Builtin.lenOf]
  ·cases hm
 unfold gC at h
 split at h
 ·rename_i m hm
  split at h
  ·rename_i t ht;cases h;cases hd;obtain⟨vs,g1,g2,g3⟩:=tL (P:=P) ht (fun _ _=>aDD _) hw hs h1;refine bI.still hw ?_ (.int _ _);simp[Builtin.copy_,aBd hu,hlen m hm,mE,g3,goInt]
  ·cases h
 ·rename_i b off len cap grow m hm;obtain⟨r,sz,df,eZ,rfl,hr,c1,c2,c3,c4⟩:=hd.eF;dsimp only at h
  split at h
  ·rename_i t ht;obtain⟨vs,g1,g2,g3⟩:=tL (P:=P) ht (fun m' Dm=>by rw[hm]at Dm;cases Dm;exact Nat.min_le_left _ _) hw hs h1;simp only[aM,aBB,aBp,aBS,aBy]at h;have Ia:Nat.min m len=min m len:=rfl
   split at h
   ·rename_i h0;cases h;have hv:vs=[]:=by apply aBn.1;rw[g2,h0,aDE]
    subst hv;refine bI.still hw ?_ (.int _ _);rw[h0]at g3;simp[Builtin.copy_,aBd hu,hlen m hm,Ia,h0,mE,g3,goInt,storeCells]
   ·rename_i h0
    split at h
    ·rename_i hg
     have ho:df=off:=by
      rcases hg.2 with hg|hg
      ·exact(c3 hg).2
      ·exact c1 (by omega)
     subst ho
     split at h
     ·rename_i sg tg gg tF;cases uA:dR sg df t with
      |none=>
       rw[uA]at h;dsimp only at h;cases hx:AQ sg df t (df+cap*grow)with
       |none=>rw[hx]at h;cases h
       |some s2=>
        rw[hx]at h;cases h
        by_cases hg0:grow=0
        ·subst hg0;unfold AQ at hx
         split at hx
         ·rename_i hh;exfalso;obtain⟨a1',TA,a3'⟩:=hh;unfold dR at uA;rw[aBb (by omega)]at uA;cases uA
         ·cases hx
        ·obtain⟨f1,f2⟩:=c4 (by omega)
         have acw:df+cap*grow<=sz:=by
          show df+cap*grow<=sz;have:=aBM grow c2;omega
         obtain⟨w',k1,k2⟩:=bf.grow (P:=P) hw tF hr hx acw g1 hg.1;refine⟨_,w',ρ, ?_, .int .i64 _,k2⟩;simp[Builtin.copy_,aBd hu,hlen m hm,Ia,mE,g3,k1,goInt]
      |some s2=>
       rw[uA]at h;cases h;obtain⟨w',k1,k2⟩:=bf.write (P:=P) hw tF hr uA g1 hg.1;refine⟨_,w',ρ, ?_, .int .i64 _,k2⟩;simp[Builtin.copy_,aBd hu,hlen m hm,Ia,mE,g3,k1,goInt]
     ·cases h
    ·cases h
  ·cases h
 ·cases h
def rm (z:List CV)(x:CV)(st:St):OR:=
 match x with
 | .ae=> .ok .undef st
 | .slice b off len cap grow=>bC (Nat.beq len 0) (.ok .undef st)
  (bC (Bool.or (Nat.beq grow 0) (Nat.ble 1 cap))
   (match st.mem.get b with
   |some (.cells s ty g)=>(fun t=>bC (aX t) (Option.rec .bad (fun s'=> .ok .undef ⟨st.mem.put b (some (.cells s' ty g)),st.next⟩) (dR s off t)) .bad) (cO len z)
   |_=> .bad) .bad)
 |_=> .bad
theorem CJ {t ty e:TypeId}{i:TypeInfo}{z:List CV}{z':Value}{x:CV}{x':Value}(h:rm z x st= .ok v st')(hw:WR ρ st w)(hx:VR ρ x x')
 (hu:P.underlying t=some (.slice e)) (hi:P.info? e=some i) (hz:i.zero=some z') (vT:∀ρ,eu ρ z z'.cells.toList):bI P (Builtin.clear_ #[t] ty #[x']) ρ st w v st':=by
 have Zl:VR ρ .undef (.tuple #[]):= .undef;have QF:(zeroValue e).run P w= .ok z' w:=by simp[zeroValue,typeInfo,hi,hz]
 unfold rm at h
 split at h
 ·cases h;cases hx;exact bI.still hw (by simp[Builtin.clear_,aBd hu]) Zl
 ·rename_i b off len cap grow;obtain⟨r,sz,df,eZ,rfl,hr,c1,c2,c3,c4⟩:=hx.eF;simp only[aM,aBB,aBS,aBy]at h
  split at h
  ·rename_i h0;subst h0;cases h;exact bI.still hw (by simp[Builtin.clear_,aBd hu]) Zl
  ·rename_i h0
   split at h
   ·rename_i hg
    have ho:df=off:=by
     rcases hg with hg|hg
     ·exact(c3 hg).2
     ·exact c1 (by omega)
    subst ho
    split at h
    ·rename_i sg tg gg hm
     split at h
     ·rename_i jS;cases uA:dR sg df (cO len z)with
      |none=>rw[uA]at h;cases h
      |some s2=>
       rw[uA]at h;cases h
       have hv:eu ρ (cO len z) (Builtin.zeroCells z'.cells len).toList:=by
        rw[Builtin.zeroCells,aCz,aDt,oX];exact(vT ρ).flatten len
       obtain⟨w',k1,k2⟩:=bf.write (P:=P) hw hm hr uA hv jS;refine⟨_,w',ρ, ?_, .undef,k2⟩;obtain⟨ajy,rfl⟩:∃k,len=k+1:=⟨len-1,by omega⟩;simp[Builtin.clear_,aBd hu,QF,k1]
     ·cases h
    ·cases h
   ·cases h
 ·cases h
def Bm (mx:Bool)(x y:CV)(st:St):OR:=
 match x,y with
 | .int k a, .int j b=>bC (decide (k=j)) (.ok (.int k (if mx then (if a<b then b else a)else (if b<a then b else a))) st) .bad
 |_,_=> .bad
theorem Bl {mx:Bool}{x y:CV}{x' y':Value}{ats:Array TypeId}{ty:TypeId}(h:Bm mx x y st= .ok v st')(hw:WR ρ st w)(hx:VR ρ x x')(hy:VR ρ y y'):
 bI P (bif mx then Builtin.max_ ats ty #[x',y']else Builtin.min_ ats ty #[x',y']) ρ st w v st':=by
 unfold Bm at h
 split at h
 ·rename_i k a j b;rw[aM]at h
  split at h
  ·rename_i hk;rw[E6]at hk;subst hk;cases h;cases hx;cases hy;refine bI.still hw ?_ (.int _ _);cases mx
   ·simp only[cond_false,Builtin.min_,List.foldlM_cons,List.foldlM_nil,Builtin.min2,bind_pure,Sem.run_pure]
    rfl
   ·simp only[cond_true,Builtin.max_,List.foldlM_cons,List.foldlM_nil,Builtin.max2,bind_pure,Sem.run_pure]
    rfl
  ·cases h
 ·cases h
def Bc (x y:CV):Bool:=
 match x,y with
 | .bool a, .bool b=>a==b
 | .int j a, .int k b=>decide (j=k)&&decide (a=b)
 | .str a, .str b=>a==b
 |_,_=>false
def Bd:List CV->List CV->Bool
 |[],[]=>true
 |v::r,u::t=>Bc v u&&Bd r t
 |_,_=>false
def wQ (x y:CV):Bool:=match x,y with| .agg s, .agg t=>Bd s t|x,y=>Bc x y
theorem wO {x y:CV}{x' y':Value}(h:Bc x y=true)(hx:VR ρ x x')(hy:VR ρ y y')(n:Nat):x'=y'/\Instr.sameBits n x' y'=true:=by
 unfold Bc at h
 split at h
 ·cases hx;cases hy;rw[beq_iff_eq]at h;subst h;exact⟨rfl,by simp[Instr.sameBits]⟩
 ·simp only[aBp,aCp]at h;cases hx;cases hy;obtain⟨rfl,rfl⟩:=h;exact⟨rfl,by simp[Instr.sameBits]⟩
 ·cases hx;cases hy;rw[beq_iff_eq]at h;subst h;exact⟨rfl,by simp[Instr.sameBits,beq_toListBytes]⟩
 ·cases h
theorem Eo (n:Nat):∀(s t:List CV) (l m:List Value),Bd s t=true->eu ρ s l->eu ρ t m->l=m/\(l.zip m).all (fun (x,y)=>Instr.sameBits n x y)=true:=by
 intro s
 induction s with
 |nil=>
  intro t l m h h1 h2;cases t with
  |cons _ _=>simp[Bd]at h
  |nil=>
   have a:=aBn.1 h1.len.symm;have b:=aBn.1 h2.len.symm;subst a;subst b;exact⟨rfl,rfl⟩
 |cons v r ih=>
  intro t l m h h1 h2;cases t with
  |nil=>simp[Bd]at h
  |cons u r'=>
   simp only[Bd,aBp]at h;obtain⟨v',l',rfl,a1,a2⟩:=eu.inv (l:=r) h1;obtain⟨u',m',rfl,b1,b2⟩:=eu.inv (l:=r') h2;obtain⟨rfl,s1⟩:=wO h.1 a1 b1 n;obtain⟨rfl,s2⟩:=ih r' l' m' h.2 a2 b2;exact⟨rfl,by simp only[List.zip_cons_cons,List.all_cons,s1,s2,Bool.and_true]⟩
theorem wP {x y:CV}{x' y':Value}(h:wQ x y=true)(hx:VR ρ x x')(hy:VR ρ y y'):x'=y'/\Instr.sameBits 10000 x' y'=true:=by
 unfold wQ at h
 split at h
 ·rename_i s t
  cases hx with|agg _ l hl hh=>cases hy with|agg _ m hm hh2=>
   obtain⟨rfl,h2⟩:=Eo (ρ:=ρ) 9999 s t l m h ⟨hl,hh⟩ ⟨hm,hh2⟩;refine⟨rfl, ?_⟩;show Instr.sameBits (9999+1) _ _=true;simp only[Instr.sameBits,beq_self_eq_true,Bool.true_and];exact h2
 ·exact wO h hx hy 10000
end
abbrev eE:=CV×CV×Nat
def kV (d:jL)(k:CV)(es:List eE):Nat->Option (Option (Nat×CV)):=
 List.rec (motive:=fun _=>Nat->Option (Option (Nat×CV))) (fun _=>some none)
  (fun e _ ih i=>Option.rec none (fun b=>bC b (some (some (i,e.2.1))) (ih (Nat.succ i))) (mh d k e.1)) es
def abc (d:jL):Bool:=match d with| .bool| .int| .str| .bytes _=>true| .struct _| .array .. =>true|_=>false
def tC (d:jL)(k:CV):Bool:=Bool.and (abc d) (Option.rec false (fun b=>b) (mh d k k))
section
variable {P:Program} {ρ:Ren} {st st':St} {w:World} {v:CV}
def hE:Nat->jL->Bool
 |0,_=>false
 |_+1, .bool=>true
 |_+1, .int=>true
 |_+1, .str=>true
 |_+1, .bytes _=>true
 |n+1, .struct fs=>JR n fs
 |n+1, .array _ _ _ e=>hE n e
 |_+1,_=>false
where JR:Nat->Vs->Bool
 |0,_=>false
 |_+1, .nil=>true
 |n+1, .cons _ _ _ d r=>hE n d&&JR n r
theorem wA {d:jL}{t:TypeId}{k:CV}{k':Value}(hf:DM P w ρ d t 10000)(hk:VR ρ k k'):∀(es:List eE) (es':List MapEntry) (j:Nat) (r:Option (Nat×CV)),es.length=es'.length->
 (∀(i:Nat) (e:eE) (e':MapEntry),es[i]?=some e->es'[i]?=some e'->VR ρ e.1 e'.key/\VR ρ e.2.1 e'.val/\e.2.2=e'.born)->kV d k es j=some r->
 ∃r',(Instr.findAsking t k' es' j).run P w= .ok r' w/\(match r,r' with
  |none,none=>True
  |some (i,u),some (i',u')=>i=i'/\VR ρ u u'/\j<=i/\∃e e',es[i-j]?=some e/\es'[i-j]?=some e'/\e.2.1=u/\e'.val=u'
  |_,_=>False):=by
 intro es
 induction es with
 |nil=>
  intro es' j r hl h hc;have:es'=[]:=by apply aBn.1;simpa using hl.symm
  subst this;cases hc;exact⟨none,by simp[Instr.findAsking],trivial⟩
 |cons e es ih=>
  intro es' j r hl h hc;cases es' with
  |nil=>simp at hl
  |cons e' es'=>
   obtain⟨a1,a2,a3⟩:=h 0 e e' rfl rfl;have e0:kV d k (e::es) j=Option.rec none (fun b=>bC b (some (some (j,e.2.1))) (kV d k es (j+1))) (mh d k e.1):=rfl;rw[e0]at hc;cases hq:mh d k e.1 with
   |none=>rw[hq]at hc;cases hc
   |some b=>
    rw[hq]at hc;have hr:(Op.equal t k' e'.key).run P w= .ok b w:=hf k e.1 k' e'.key b hq hk a1;cases b with
    |true=>
     cases hc;exact⟨some (j,e'.val),by simp[Instr.findAsking,hr],rfl,a2,aAU _,e,e',by simp,by simp,rfl,rfl⟩
    |false=>
     obtain⟨r',r1,r2⟩:=ih es' (j+1) r (by simpa using hl) (fun i x x' hx AJ=>h (i+1) x x' (by simpa using hx) (by simpa using AJ)) hc;refine⟨r',by simp[Instr.findAsking,hr,r1], ?_⟩;cases r with
     |none=>cases r' with
      |none=>trivial
      |some _=>exact r2
     |some p=>cases r' with
      |none=>exact r2
      |some p'=>
       obtain⟨i,u⟩:=p;obtain⟨i',u'⟩:=p';obtain⟨b1,b2,b3,x,x',b4,b5,b6,b7⟩:=r2;refine⟨b1,b2,by omega,x,x', ?_, ?_,b6,b7⟩
       ·rw[show i-j=(i-(j+1))+1 by omega];simpa using b4
       ·rw[show i-j=(i-(j+1))+1 by omega];simpa using b5
theorem tw {t:TypeId}{u:TypeDesc}{a b:Value}{q:Bool}(hu:P.underlying t=some u)(h:Instr.sameNow u a b=some q):(Op.equal t a b).run P w= .ok q w:=by
 unfold Instr.sameNow at h
 split at h
 ·split at h
  ·rename_i hk;cases h;subst hk;exact run_equalIn_int w 9999 t _ _ _ _ hu
  ·cases h
 ·cases h;rename_i x y;rw[beq_toListBytes];exact run_equalIn_string w 9999 t x y hu
 ·cases h;exact run_equalIn_bool' w 9999 t _ _ hu
 ·cases h
theorem zD {t:TypeId}{u:TypeDesc}{k':Value}(hu:P.underlying t=some u):∀(es':List MapEntry) (j:Nat) (r:Option (Nat×Value)),Instr.findNow u k' es' j=some r->(Instr.findAsking t k' es' j).run P w= .ok r w:=by
 intro es'
 induction es' with
 |nil=>intro j r h;cases h;simp[Instr.findAsking]
 |cons e es' ih=>
  intro j r h;simp only[Instr.findNow]at h
  split at h
  ·rename_i hs;cases h;simp[Instr.findAsking,tw hu hs]
  ·rename_i hs;simp[Instr.findAsking,tw hu hs,ih _ _ h]
  ·cases h
theorem FX {t:TypeId}{u:TypeDesc}{k':Value}{es':List MapEntry}{r:Option (Nat×Value)}(hu:P.underlying t=some u)(h:(Instr.findAsking t k' es' 0).run P w= .ok r w):(Instr.findKey t k' es').run P w= .ok r w:=by
 simp only[Instr.findKey,Sem.run_bind,aBd hu,Result.andThen_ok];cases hn:Instr.findNow u k' es' 0 with
 |none=>exact h
 |some r'=>
  have:=zD (P:=P) (w:=w) hu es' 0 r' hn;rw[this]at h;cases h;rfl
theorem lG {d:jL}{t:TypeId}{f:Nat}{k:CV}{k':Value}{es:List eE}{es':List MapEntry}{r:Option (Nat×CV)}(hd:fO P f t=some d)(hf:f<10000)(hk:VR ρ k k')(hl:es.length=es'.length)
 (h:∀(i:Nat) (e:eE) (e':MapEntry),es[i]?=some e->es'[i]?=some e'->VR ρ e.1 e'.key/\VR ρ e.2.1 e'.val/\e.2.2=e'.born) (hc:kV d k es 0=some r):
 ∃r',(Instr.findKey t k' es').run P w= .ok r' w/\(match r,r' with
  |none,none=>True
  |some (i,u),some (i',u')=>i=i'/\VR ρ u u'/\∃e e',es[i]?=some e/\es'[i]?=some e'/\e.2.1=u/\e'.val=u'
  |_,_=>False):=by
 obtain⟨r',h1,h2⟩:=wA (P:=P) (w:=w) (PM f t d hd 10000 hf) hk es es' 0 r hl h hc
 have hu:∃u,P.underlying t=some u:=by
  cases f with
  |zero=>cases hd
  |succ f=>
   simp only[fO]at hd;cases hu:P.underlying t with
   |none=>rw[hu]at hd;cases hd
   |some u=>exact⟨u,rfl⟩
 obtain⟨u,hu⟩:=hu;refine⟨r',FX hu h1, ?_⟩;cases r with
 |none=>cases r'<;>exact h2
 |some p=>cases r' with
  |none=>exact h2
  |some p'=>
   obtain⟨i,u⟩:=p;obtain⟨i',u'⟩:=p';obtain⟨b1,b2,b3,x,x',b4,b5,b6,b7⟩:=h2;exact⟨b1,b2,x,x',by simpa using b4,by simpa using b5,b6,b7⟩
def TH (P:Program)(w:World)(ρ:Ren)(d:jL)(t:TypeId)(n:Nat):Prop:=
 ∀(e:Bool) (x:CV) (x':Value),mh d x x=some true->VR ρ x x'->(Instr.checkKey e n t x').run P w= .ok () w
theorem vO {a b:Option Bool}(h:andThen a b=some true):a=some true/\b=some true:=by
 cases a with
 |none=>cases h
 |some q=>cases q with
  |false=>cases h
  |true=>exact⟨rfl,h⟩
theorem LI {len size:Nat}{agg:Bool}{e:jL}{s:List CV}:∀(off:Nat),Nat.rec (motive:=fun _=>Nat->Option Bool) (fun _=>some true)
        (fun _ ih off=>Option.rec none (fun a=>Option.rec none (fun b=>andThen (mh e a b) (ih (Nat.add off size))) (iH agg off size s)) (iH agg off size s)) len off=some true->
 ∀j,j<len->∃x,iH agg (off+j*size) size s=some x/\mh e x x=some true:=by
 induction len with
 |zero=>intro off _ j hj;omega
 |succ len ih=>
  intro off h j hj;simp only at h;cases hx:iH agg off size s with
  |none=>rw[hx]at h;cases h
  |some x=>
   rw[hx]at h;obtain⟨a1,a2⟩:=vO h;cases j with
   |zero=>exact⟨x,by simpa using hx,a1⟩
   |succ j=>
    obtain⟨y,b1,b2⟩:=ih (off+size) a2 j (by omega);exact⟨y,by rw[<-b1];congr 1;rw[Nat.succ_mul];omega,b2⟩
theorem LH {desc:TypeId->Option jL}{s:List CV}:∀(fs:List Field) (r:Vs),oH P desc fs=some r->AU r s s=some true->
 ∀f∈fs,f.name≠ "_" /\∃i u d x,P.info? f.type=some i/\P.underlying f.type=some u/\desc f.type=some d/\iH (ib u) f.offset i.size s=some x/\mh d x x=some true:=by
 intro fs
 induction fs with
 |nil=>intro r _ _ f hf;cases hf
 |cons g fs ih=>
  intro r h hb f hf;simp only[oH]at h
  split at h
  ·rename_i i u d r' gT hi hu hd hr;cases h;simp only[AU]at hb;cases hx:iH (ib u) g.offset i.size s with
   |none=>rw[hx]at hb;cases hb
   |some x=>
    rw[hx]at hb;obtain⟨a1,a2⟩:=vO hb;rcases aAX.1 hf with rfl|hf
    ·exact⟨by simpa using gT,i,u,d,x,hi,hu,hd,hx,a1⟩
    ·exact ih r' hr a2 f hf
  ·cases h
theorem Se:∀(f:Nat) (t:TypeId) (d:jL),fO P f t=some d->∀m,hE m d=true->∀n,f<n->TH P w ρ d t n:=by
 intro f
 induction f with
 |zero=>intro t d h;cases h
 |succ f ih=>
  intro t d h m hm n hn e x x' hx hv;obtain⟨n,rfl⟩:∃k,n=k+1:=⟨n-1,by omega⟩;simp only[fO]at h
  split at h
  ·rename_i hu;simp[Instr.checkKey,aBd hu]
  ·rename_i k hu;simp[Instr.checkKey,aBd hu]
  ·rename_i hu;simp[Instr.checkKey,aBd hu]
  ·rename_i hu;simp[Instr.checkKey,aBd hu]
  ·cases h;cases m<;>simp[hE]at hm
  ·rename_i hu;simp[Instr.checkKey,aBd hu]
  ·rename_i hu;simp[Instr.checkKey,aBd hu]
  ·rename_i hu;simp[Instr.checkKey,aBd hu]
  ·rename_i fs hu;rw[aM]at h
   split at h
   ·cases h
   ·split at h
    ·rename_i l hl;cases h;simp only[mh]at hx
     split at hx
     ·rename_i s1;cases hv with
      |agg _ lv hlv hh=>
       cases m with
       |zero=>cases hm
       |succ m=>
        have fP:=LH (P:=P) fs.toList l hl hx;simp only[Instr.checkKey,Sem.run_bind,aBd hu,Result.andThen_ok];rw[<-Array.forIn_toList]
        have JG:∀(q:Nat) (r:Vs) (fl:List Field),oH P (fO P f) fl=some r->hE.JR q r=true->∀g∈fl,∀d',fO P f g.type=some d'->∃q',hE q' d'=true:=by
         intro q
         induction q with
         |zero=>intro r fl _ hq;cases hq
         |succ q ihq=>
          intro r fl hr hq g hg d' DR;cases fl with
          |nil=>cases hg
          |cons g0 fl=>
           simp only[oH]at hr
           split at hr
           ·rename_i i0 u0 d0 r0 avv UN WJ hd0 pB;cases hr;simp only[hE.JR,aBp]at hq;rcases aAX.1 hg with rfl|hg
            ·rw[hd0]at DR;cases DR;exact⟨q,hq.1⟩
            ·exact ihq r0 fl pB hq.2 g hg d' DR
           ·cases hr
        have hg:∀g∈fs.toList,g.name≠ "_" /\∃y',(part g.type lv.toArray g.offset).run P w= .ok y' w/\(Instr.checkKey e n g.type y').run P w= .ok () w:=by
         intro g hgm;obtain⟨h1,i,u,d',y,h2,h3,h4,h5,h6⟩:=fP g hgm;obtain⟨y',p1,p2⟩:=ir (P:=P) (w:=w) h5 ⟨hlv,hh⟩ h2 rfl h3 rfl;obtain⟨q',hq'⟩:=JG m l fs.toList hl hm g hgm d' h4;exact⟨h1,y',p1,ih g.type d' h4 q' hq' n (by omega) e y y' h6 p2⟩
        generalize fs.toList=ll at hg;refine Eq.trans (congrArg (fun r:Result PUnit=>r.andThen _) (?_:_=Result.ok PUnit.unit w)) rfl
        induction ll with
        |nil=>rfl
        |cons g ll ihl=>
         obtain⟨h1,y',p1,p2⟩:=hg g (by simp);rw[List.forIn_cons];simp only[ne_eq,h1,not_false_eq_true,aBr,Sem.run_bind,p1,p2,Result.andThen_ok,Sem.run_pure];exact ihl (fun g' hg'=>hg g' (by simp[hg']))
     ·cases hx
    ·cases h
  ·rename_i len el hu
   split at h
   ·rename_i i hi L8;rw[aM]at h
    split at h
    ·rename_i h1;rw[aBB]at h1;cases h;simp only[mh]at hx
     split at hx
     ·rename_i n1 sl;cases hub:GG sl with
      |none=>rw[hub]at hx;cases hx
      |some a=>
      rw[hub]at hx;dsimp only at hx;rw[aM]at hx
      split at hx
      ·rename_i hq;simp only[aBp,aCp]at hq;obtain⟨rfl,_⟩:=hq;have e1:=uI hub;subst e1;rw[hv.sQ];have hs:(Go.sizeOf el).run P w= .ok 1 w:=by simp[Go.sizeOf,typeInfo,hi,h1]
       simp only[Instr.checkKey,Sem.run_bind,aBd hu,Result.andThen_ok,Std.Legacy.Range.forIn_eq_forIn_range',Std.Legacy.Range.size,Nat.sub_zero,Nat.add_one_sub_one,Nat.div_one];obtain⟨n',rfl⟩:∃k,n=k+1:=⟨n-1,by omega⟩;refine Eq.trans (congrArg (fun r:Result PUnit=>r.andThen _) (?_:_=Result.ok PUnit.unit w)) rfl;have hl:∀j∈List.range' 0 a.length 1,j<a.length:=fun j hj=>by simpa using (List.mem_range'_1.1 hj).2
       generalize List.range' 0 a.length 1=ll at hl
       induction ll with
       |nil=>rfl
       |cons j ll ihl=>
        have hj:=hl j (by simp)
        have hp:(part el (a.map Extern.Stop.cell).toArray (j*1)).run P w= .ok (Extern.Stop.cell (a[j]'(by simpa using hj))) w:=by
         simp[part,isAgg,aBd L8,hj]
        rw[List.forIn_cons];simp only[Sem.run_bind,hs,hp,Result.andThen_ok,Instr.checkKey,aBd L8,Sem.run_pure];exact ihl (fun j' hj'=>hl j' (by simp[hj']))
      ·cases hx
     ·cases hx
    ·cases h
   ·rename_i i u gT hi L8
    split at h
    ·rename_i d' hd;cases h;simp only[mh]at hx
     split at hx
     ·rename_i s1;cases hv with
      |agg _ lv hlv hh=>
       cases m with
       |zero=>cases hm
       |succ m=>
        have Dm:hE m d'=true:=hm;have hs:(Go.sizeOf el).run P w= .ok i.size w:=by simp[Go.sizeOf,typeInfo,hi]
        have fP:=LI (s:=s1) 0 hx;simp only[Instr.checkKey,Sem.run_bind,aBd hu,Result.andThen_ok,Std.Legacy.Range.forIn_eq_forIn_range',Std.Legacy.Range.size,Nat.sub_zero,Nat.add_one_sub_one,Nat.div_one];refine Eq.trans (congrArg (fun r:Result PUnit=>r.andThen _) (?_:_=Result.ok PUnit.unit w)) rfl;have hl:∀j∈List.range' 0 len 1,j<len:=fun j hj=>by simpa using (List.mem_range'_1.1 hj).2
        generalize List.range' 0 len 1=ll at hl
        induction ll with
        |nil=>rfl
        |cons j ll ihl=>
         have hj:=hl j (by simp);obtain⟨y,b1,b2⟩:=fP j hj;rw[aAT]at b1;obtain⟨y',p1,p2⟩:=ir (P:=P) (w:=w) b1 ⟨hlv,hh⟩ hi rfl L8 rfl;have:=ih el d' hd m Dm n (by omega) e y y' b2 p2;rw[List.forIn_cons];simp only[Sem.run_bind,hs,p1,this,Result.andThen_ok,Sem.run_pure];exact ihl (fun j' hj'=>hl j' (by simp[hj']))
     ·cases hx
    ·cases h
   ·cases h
  ·cases h
end
def zF (x:CV)(st:St):Option (List eE):=
 match x with
 | .fN=>some []
 | .map b=>(match st.mem.get b with|some (.map es _)=>some es|_=>none)
 |_=>none
def qi (x:CV)(st:St):Option (List eE):=
 match x with
 | .map b=>(match st.mem.get b with|some (.lmap es)=>some es|_=>none)
 |_=>none
def Da (a:Int)(v:CV):Bool:=match v with| .int .i64 n=>ZY a n|_=>false
def vm (a:Int)(es:List eE):Option CV:=List.rec (motive:=fun _=>Option CV) none (fun e _ ih=>bC (Da a e.1) (some e.2.1) ih) es
def qg (a:Int)(x:CV)(es:List eE):List eE:=List.rec (motive:=fun _=>List eE) [] (fun e _ ih=>bC (Da a e.1) ((e.1,x,e.2.2)::ih) (e::ih)) es
def HQ (d:jL)(k:CV):Option Int:=match d,k with| .int, .int .i64 a=>some a|_,_=>none
def uS (d:jL)(z:CV)(ok:Bool)(es:List eE)(k:CV)(st:St):OR:=
 match HQ d k with
 |some a=>(match vm a es with
  |some u=>bC ok (.ok (.tuple [u, .bool true]) st) (.ok u st)
  |none=>bC ok (.ok (.tuple [z, .bool false]) st) (.ok z st))
 |none=> .bad
def iA (d:jL)(z:CV)(ok:Bool)(x k:CV)(st:St):OR:=
 bC (tC d k) (match qi x st with
  |some es=>uS d z ok es k st
  |none=>(match zF x st with
  |some es=>(match kV d k es 0 with
   |some (some (_,u))=>bC ok (.ok (.tuple [u, .bool true]) st) (.ok u st)
   |some none=>bC ok (.ok (.tuple [z, .bool false]) st) (.ok z st)
   |none=> .bad)
  |none=> .bad)) .bad
def wV (es:List eE)(i:Nat)(e:eE):List eE:=
 List.rec (motive:=fun _=>Nat->List eE) (fun _=>[]) (fun x r ih i=>Nat.rec (e::r) (fun j _=>x::ih j) i) es i
def BN (es:List eE)(i:Nat):Option eE:=List.rec (motive:=fun _=>Nat->Option eE) (fun _=>none) (fun x _ ih i=>Nat.rec (some x) (fun j _=>ih j) i) es i
def Ga (es:List eE)(i:Nat):List eE:=
 List.rec (motive:=fun _=>Nat->List eE) (fun _=>[]) (fun x r ih i=>Nat.rec r (fun j _=>x::ih j) i) es i
def yM (d:jL)(b:Nat)(es:List eE)(k x:CV)(st:St):OR:=
 match HQ d k with
 |some a=>(match vm a es with
  |some _=> .ok .undef ⟨st.mem.put b (some (.lmap (qg a x es))),st.next⟩
  |none=> .ok .undef ⟨st.mem.put b (some (.lmap (es++[(k,x,0)]))),st.next⟩)
 |none=> .bad
def eC (d:jL)(m k x:CV)(st:St):OR:=
 bC (tC d k) (match m with
  | .map b=>(match st.mem.get b with
    |some (.lmap es)=>yM d b es k x st
    |some (.map es clock)=>(match kV d k es 0 with
     |some (some (i,_))=>(match BN es i with
      |some (k0,_,born)=>bC (wQ k0 k) (.ok .undef ⟨st.mem.put b (some (.map (wV es i (k,x,born)) clock)),st.next⟩) .bad
      |none=> .bad)
     |some none=>nS (Nat.succ clock) fun c=> .ok .undef ⟨st.mem.put b (some (.map (es++[(k,x,clock)]) c)),st.next⟩
     |none=> .bad)
    |_=> .bad)
  |_=> .bad) .bad
def fC (d:jL)(z:CV)(m k:CV)(st:St):OR:=
 bC (tC d k) (match m with
  | .map b=>(match st.mem.get b with
    |some (.map es clock)=>(match kV d k es 0 with
     |some (some (i,u))=>(match BN es i with
      |some (k0,_,born)=>bC (wQ k0 k) (.ok (.tuple [u, .int .i64 (.ofNat born)]) ⟨st.mem.put b (some (.map (wV es i (k,u,born)) clock)),st.next⟩) .bad
      |none=> .bad)
     |some none=>nS (Nat.succ clock) fun c=> .ok (.tuple [z, .int .i64 (.ofNat clock)]) ⟨st.mem.put b (some (.map (es++[(k,z,clock)]) c)),st.next⟩
     |none=> .bad)
    |_=> .bad)
  |_=> .bad) .bad
def rU (born:Nat)(es:List eE):Nat->Option (Nat×eE):=
 List.rec (motive:=fun _=>Nat->Option (Nat×eE)) (fun _=>none) (fun x _ ih i=>bC (Nat.beq x.2.2 born) (some (i,x)) (ih (Nat.succ i))) es
def dP (m s x:CV)(st:St):OR:=
 match m,s with
 | .map b, .int _ (.ofNat born)=>(match st.mem.get b with
   |some (.map es clock)=>(match rU born es 0 with
    |some (i,(k,_,bn))=> .ok .undef ⟨st.mem.put b (some (.map (wV es i (k,x,bn)) clock)),st.next⟩
    |none=> .bad)
   |_=> .bad)
 |_,_=> .bad
def oB (d:jL)(m k:CV)(st:St):OR:=
 bC (tC d k) (match m with
  | .fN=> .ok .undef st
  | .map b=>(match st.mem.get b with
    |some (.map es clock)=>(match kV d k es 0 with
     |some (some (i,_))=> .ok .undef ⟨st.mem.put b (some (.map (Ga es i) clock)),st.next⟩
     |some none=> .ok .undef st
     |none=> .bad)
    |_=> .bad)
  |_=> .bad) .bad
def jE (r:Option CV)(st:St):OR:=
 match r with
 |none|some (.int _ _)=>nS (st.next+1) fun n=> .ok (.map st.next) ⟨st.mem.put st.next (some (.map [] 0)),n⟩
 |_=> .bad
section
variable {P:Program} {ρ:Ren} {st st':St} {w:World} {v:CV}
def qy (ρ:Ren)(es:List eE)(es':List MapEntry):Prop:=
 es.length=es'.length/\∀(i:Nat) (e:eE) (e':MapEntry),es[i]?=some e->es'[i]?=some e'->VR ρ e.1 e'.key/\VR ρ e.2.1 e'.val/\e.2.2=e'.born
theorem qy.nil:qy ρ [] []:=⟨rfl,fun i e e' h=>by simp at h⟩
theorem qy.cons {e:eE}{e':MapEntry}{es:List eE}{es':List MapEntry}(h:VR ρ e.1 e'.key/\VR ρ e.2.1 e'.val/\e.2.2=e'.born)(t:qy ρ es es'):qy ρ (e::es) (e'::es'):=
 ⟨by simp[t.1],fun i x x' a b=>by
  cases i with
  |zero=>simp at a b;subst a;subst b;exact h
  |succ i=>exact t.2 i x x' (by simpa using a) (by simpa using b)⟩
theorem qy.inv {e:eE}{es:List eE}{es':List MapEntry}(h:qy ρ (e::es) es'):∃e' t',es'=e'::t'/\(VR ρ e.1 e'.key/\VR ρ e.2.1 e'.val/\e.2.2=e'.born)/\qy ρ es t':=by
 cases es' with
 |nil=>have:=h.1;simp at this
 |cons e' t'=>exact⟨e',t',rfl,h.2 0 e e' rfl rfl,by have:=h.1;simpa using this,fun i x x' a b=>h.2 (i+1) x x' (by simpa using a) (by simpa using b)⟩
theorem qy.app {es fs:List eE}{es' fs':List MapEntry}(h:qy ρ es es')(t:qy ρ fs fs'):qy ρ (es++fs) (es'++fs'):=by
 induction es generalizing es' with
 |nil=>have:es'=[]:=by have:=h.1;simpa using this.symm
       subst this;exact t
 |cons e es ih=>obtain⟨e',t',rfl,h1,h2⟩:=h.inv;exact qy.cons h1 (ih h2)
theorem qy.mod {f:MapEntry->MapEntry}{e:eE}:∀{es:List eE} {es':List MapEntry} (i:Nat),qy ρ es es'->(∀e',es'[i]?=some e'->VR ρ e.1 (f e').key/\VR ρ e.2.1 (f e').val/\e.2.2=(f e').born)->qy ρ (wV es i e) (es'.modify i f):=by
 intro es
 induction es with
 |nil=>
  intro es' i h _;have:es'=[]:=by have:=h.1;simpa using this.symm
  subst this;rw[List.modify_nil];exact h
 |cons x es ih=>
  intro es' i h hf;obtain⟨x',t',rfl,h1,h2⟩:=h.inv;cases i with
  |zero=>
   show qy ρ (e::es) _;rw[List.modify_zero_cons];exact qy.cons (hf x' rfl) h2
  |succ i=>
   show qy ρ (x::wV es i e) _;rw[List.modify_succ_cons];exact qy.cons h1 (ih i h2 (fun e' he=>hf e' (by simpa using he)))
theorem qy.del:∀{es:List eE} {es':List MapEntry} (i:Nat),qy ρ es es'->qy ρ (Ga es i) (es'.eraseIdx i):=by
 intro es
 induction es with
 |nil=>
  intro es' i h;have:es'=[]:=by have:=h.1;simpa using this.symm
  subst this;rw[List.eraseIdx_nil];exact h
 |cons x es ih=>
  intro es' i h;obtain⟨x',t',rfl,h1,h2⟩:=h.inv;cases i with
  |zero=>exact h2
  |succ i=>
   show qy ρ (x::Ga es i) _;rw[List.eraseIdx_cons_succ];exact qy.cons h1 (ih i h2)
theorem F6:∀(es:List eE) (i:Nat),BN es i=es[i]?:=by
 intro es
 induction es with
 |nil=>intro i;rfl
 |cons x es ih=>intro i;cases i with
  |zero=>rfl
  |succ i=>show BN es i=_;rw[ih];simp
theorem lZ {d:jL}{t:TypeId}{f m:Nat}{k:CV}{k':Value}(h:tC d k=true)(hd:fO P f t=some d)(hf:f<10000)(hm:hE m d=true)(hk:VR ρ k k')(e:Bool):(Instr.checkKey e 10000 t k').run P w= .ok () w:=by
 unfold tC at h;simp only[aBp]at h
 have:mh d k k=some true:=by
  cases hc:mh d k k with
  |none=>rw[hc]at h;cases h.2
  |some b=>rw[hc]at h;rw[show b=true from h.2]
 exact Se f t d hd m hm 10000 hf e k k' this hk
theorem eu.two {a b:CV}{a' b':Value}(ha:VR ρ a a')(hb:VR ρ b b'):eu ρ [a,b] [a',b']:=eu.cons ha (eu.cons hb (eu.nil ρ))
theorem oE {a:Int}{v:CV}:Da a v=true↔v= .int .i64 a:=by
 unfold Da
 split
 ·rw[xK];constructor
  ·intro h;rw[h]
  ·intro h;cases h;rfl
 ·rename_i h;constructor
  ·intro hh;cases hh
  ·intro hh;subst hh;exact(h _ rfl).elim
theorem Bu (a:Int)(e:eE)(es:List eE):vm a (e::es)=bC (Da a e.1) (some e.2.1) (vm a es):=rfl
theorem KO (a:Int)(x:CV)(e:eE)(es:List eE):qg a x (e::es)=bC (Da a e.1) ((e.1,x,e.2.2)::qg a x es) (e::qg a x es):=rfl
theorem ny (a:Int)(x:CV)(es:List eE):qg a x es=es.map fun e=>if Da a e.1=true then (e.1,x,e.2.2)else e:=by
 induction es with
 |nil=>rfl
 |cons e es ih=>
  rw[KO,aBA,<-ih,aM]
  split<;>rfl
theorem wm {a:Int}:∀{es:List eE} {u:CV},vm a es=some u->∃e∈es,e.1= .int .i64 a/\e.2.1=u:=by
 intro es
 induction es with
 |nil=>intro u h;cases h
 |cons e es ih=>
  intro u h;rw[Bu,aM]at h
  split at h
  ·rename_i hh;cases h;exact⟨e,aBW ..,oE.1 hh,rfl⟩
  ·obtain⟨e',h1,h2⟩:=ih h;exact⟨e',aCd _ h1,h2⟩
theorem sE {a:Int}:∀{es:List eE},vm a es=none->∀e∈es,e.1≠ .int .i64 a:=by
 intro es
 induction es with
 |nil=>intro _ e he;cases he
 |cons e es ih=>
  intro h x hx;rw[Bu,aM]at h
  split at h
  ·cases h
  ·rename_i hh;rcases aAX.1 hx with rfl|hx
   ·exact fun hh'=>hh (oE.2 hh')
   ·exact ih h x hx
theorem KJ {es:List eE}(hn:(es.map (·.1)).Nodup){e f:eE}(he:e∈es)(hf:f∈es)(h:e.1=f.1):e=f:=by
 induction es with
 |nil=>cases he
 |cons x es ih=>
  rw[aBA,aBi]at hn;rcases aAX.1 he with Ik|Ik
  ·rcases aAX.1 hf with QQ|QQ
   ·rw[Ik,QQ]
   ·exact absurd (by rw[<-Ik,h];exact aCb (f:=(·.1)) QQ) hn.1
  ·rcases aAX.1 hf with QQ|QQ
   ·exact absurd (by rw[<-QQ,<-h];exact aCb (f:=(·.1)) Ik) hn.1
   ·exact ih hn.2 Ik QQ
theorem wY {t:TypeId}{a:Int}{k':Value}{f:Nat}{l:List eE}{es':List MapEntry}(hd:fO P f t=some .int)(hf:f<10000)(hk:VR ρ (.int .i64 a) k')(hi:∀e∈l,∃n:Int,e.1= .int .i64 n)(hl:l.length=es'.length)
 (h:∀(i:Nat) (e:eE) (e':MapEntry),l[i]?=some e->es'[i]?=some e'->VR ρ e.1 e'.key/\VR ρ e.2.1 e'.val):
 ∃r',(Instr.findKey t k' es').run P w= .ok r' w/\(match r' with
  |none=>∀e∈l,e.1≠ .int .i64 a
  |some (j,u')=>∃e e',l[j]?=some e/\es'[j]?=some e'/\e.1= .int .i64 a/\e'.val=u'):=by
 have key:∀(l:List eE) (i:Nat),(∀e∈l,∃n:Int,e.1= .int .i64 n)->
  (∃j e,l[j]?=some e/\e.1= .int .i64 a/\kV .int (.int .i64 a) l i=some (some (i+j,e.2.1)))\/((∀e∈l,e.1≠ .int .i64 a)/\kV .int (.int .i64 a) l i=some none):=by
  intro l
  induction l with
  |nil=>intro i _;exact .inr ⟨fun e he=>(by cases he),rfl⟩
  |cons e l ih=>
   intro i hi;obtain⟨n,hn⟩:=hi e (aBW ..);have e0:kV .int (.int .i64 a) (e::l) i=Option.rec none (fun b=>bC b (some (some (i,e.2.1))) (kV .int (.int .i64 a) l (Nat.succ i))) (mh .int (.int .i64 a) e.1):=rfl;rw[e0,hn];have e1:mh .int (.int .i64 a) (.int .i64 n)=some (ZY a n):=rfl;rw[e1];dsimp only;rw[aM]
   by_cases hz:ZY a n=true
   ·rw[aBb hz];have:=(xK a n).1 hz;subst this;exact .inl ⟨0,e,rfl,hn,rfl⟩
   ·rw[aAZ hz];rcases ih (i+1) (fun e he=>hi e (aCd _ he))with⟨j,e',h1,h2,h3⟩|⟨h1,h2⟩
    ·exact .inl ⟨j+1,e',by simpa using h1,h2,by rw[show i+(j+1)=i+1+j by omega];exact h3⟩
    ·refine .inr ⟨fun x hx=> ?_,h2⟩;rcases aAX.1 hx with rfl|hx
     ·rw[hn];intro hh;cases hh;exact hz ((xK _ _).2 rfl)
     ·exact h1 x hx
 have hlz:∀(i:Nat) (e:eE) (e':MapEntry),(List.zipWith (fun (e:eE) (e':MapEntry)=>((e.1,e.2.1,e'.born):eE)) l es')[i]?=some e->es'[i]?=some e'->∃e0,l[i]?=some e0/\e=(e0.1,e0.2.1,e'.born):=by
  intro i e e' h1 h2;rw[List.getElem?_zipWith]at h1;cases h3:l[i]? with
  |none=>rw[h3]at h1;simp at h1
  |some e0=>rw[h3,h2]at h1;simp at h1;exact⟨e0,rfl,h1.symm⟩
 have hzi:∀e∈List.zipWith (fun (e:eE) (e':MapEntry)=>((e.1,e.2.1,e'.born):eE)) l es',∃n:Int,e.1= .int .i64 n:=by
  intro e he;obtain⟨i,fw,rfl⟩:=aBT he;have hlt:i<es'.length:=by simp at fw;omega
  obtain⟨e0,g1,g2⟩:=hlz i _ es'[i] (aAV fw) (aAV hlt);rw[g2];exact hi e0 (aBO g1)
 have hlen:(List.zipWith (fun (e:eE) (e':MapEntry)=>((e.1,e.2.1,e'.born):eE)) l es').length=es'.length:=by simp[hl]
 have UD:∀(i:Nat) (e:eE) (e':MapEntry),(List.zipWith (fun (e:eE) (e':MapEntry)=>((e.1,e.2.1,e'.born):eE)) l es')[i]?=some e->es'[i]?=some e'->VR ρ e.1 e'.key/\VR ρ e.2.1 e'.val/\e.2.2=e'.born:=by
  intro i e e' h1 h2;obtain⟨e0,g1,g2⟩:=hlz i e e' h1 h2;obtain⟨g3,g4⟩:=h i e0 e' g1 h2;rw[g2];exact⟨g3,g4,rfl⟩
 rcases key _ 0 hzi with⟨j,e,h1,h2,h3⟩|⟨h1,h2⟩
 ·obtain⟨r',f1,f2⟩:=lG (P:=P) (w:=w) hd hf hk hlen UD h3;cases r' with
  |none=>exact f2.elim
  |some p=>
   obtain⟨j',u'⟩:=p;obtain⟨rfl,g2,e1,e',g3,g4,g5,g6⟩:=f2;rw[aAT]at g3 g4 f1;obtain⟨e0,k1,k2⟩:=hlz j e1 e' g3 g4;rw[h1]at g3;cases g3;refine⟨_,f1,e0,e',k1,g4, ?_,g6⟩;rw[k2]at h2;exact h2
 ·obtain⟨r',f1,f2⟩:=lG (P:=P) (w:=w) hd hf hk hlen UD h2;cases r' with
  |some p=>exact f2.elim
  |none=>
   refine⟨_,f1,fun e he=> ?_⟩;obtain⟨i,fw,rfl⟩:=aBT he;have hlt:i<es'.length:=by omega
   have hm:(List.zipWith (fun (e:eE) (e':MapEntry)=>((e.1,e.2.1,e'.born):eE)) l es')[i]?=some (l[i].1,l[i].2.1,es'[i].born):=by
    rw[List.getElem?_zipWith,aAV fw,aAV hlt]
   exact h1 (l[i].1,l[i].2.1,es'[i].born) (aBO hm)
theorem AB {d:jL}{z:CV}{ok:Bool}{t kt et:TypeId}{f m:Nat}{i:TypeInfo}{z':Value}{x k:CV}{x' k':Value}(h:iA d z ok x k st= .ok v st')(hw:WR ρ st w)(hx:VR ρ x x')(hk:VR ρ k k')
 (hu:P.underlying t=some (.map kt et)) (hd:fO P f kt=some d) (hf:f<10000) (hm:hE m d=true) (hi:P.info? et=some i) (hz:i.zero=some z') (vT:VR ρ z z'):bI P (Instr.lookup t x' k' ok) ρ st w v st':=by
 unfold iA at h;rw[aM]at h
 split at h
 ·rename_i FB;have rG:=fun e=>lZ (w:=w) FB hd hf hm hk e
  by_cases QO:∃es,qi x st=some es
  ·obtain⟨es,QO⟩:=QO;rw[QO]at h;dsimp only at h;have QF:(zeroValue et).run P w= .ok z' w:=by simp[zeroValue,typeInfo,hi,hz]
   unfold qi at QO
   split at QO
   ·rename_i b
    split at QO
    ·rename_i Ys tF;cases QO;cases hx with
     |map _ r0 sz pB=>
      obtain⟨l,clock,es',h1,h2,h3,h4,h5,h6,h7⟩:=hw.lmap tF pB;unfold uS at h
      split at h
      ·rename_i a ha;unfold HQ at ha
       split at ha
       ·cases ha;obtain⟨r',f1,f2⟩:=wY (P:=P) (w:=w) hd hf hk (fun e he=>h3 e (h2.mem_iff.1 he)) h6 h7
        have run:∀u' q,(match r' with|some (_,u)=>(.ok (u,true) w:Result (Value×Bool))|none=> .ok (z',false) w)= .ok (u',q) w->
         (Instr.lookup t (.map (some r0)) k' ok).run P w= .ok (if ok then .tuple #[u', .bool q]else u') w:=by
         intro u' q hq;simp only[Instr.lookup,Sem.run_bind,aBd hu,Result.andThen_ok,Sem.run_pure,dA h1,rG,f1];cases r' with
         |none=>cases hq;simp[QF]
         |some p=>cases hq;simp
        cases hg:vm a es with
        |some u=>
         rw[hg]at h;obtain⟨e,he,Ik,Md⟩:=wm hg;cases r' with
         |none=>exact absurd Ik (f2 e (h2.mem_iff.2 he))
         |some p=>
          obtain⟨j,u'⟩:=p;obtain⟨e1,e',g1,g2,g3,g4⟩:=f2;have JE:e1=e:=KJ h4 (h2.mem_iff.1 (aBO g1)) he (by rw[g3,Ik]);subst JE;have hv:=(h7 j _ _ g1 g2).2;rw[Md,g4]at hv;have hr:=run u' true rfl;cases ok with
          |false=>cases h;exact bI.still hw hr hv
          |true=>cases h;exact bI.still hw hr (VR.tuple' (eu.two hv (.bool true)))
        |none=>
         rw[hg]at h;cases r' with
         |some p=>
          obtain⟨j,u'⟩:=p;obtain⟨e1,e',g1,g2,g3,g4⟩:=f2;exact absurd g3 (sE hg e1 (h2.mem_iff.1 (aBO g1)))
         |none=>
          have hr:=run z' false rfl;cases ok with
          |false=>cases h;exact bI.still hw hr vT
          |true=>cases h;exact bI.still hw hr (VR.tuple' (eu.two vT (.bool false)))
       ·cases ha
      ·cases h
    ·cases QO
   ·cases QO
  have alm:qi x st=none:=by
   cases hh:qi x st with
   |none=>rfl
   |some es=>exact absurd ⟨es,hh⟩ QO
  rw[alm]at h;dsimp only at h;cases he:zF x st with
  |none=>rw[he]at h;cases h
  |some es=>
   rw[he]at h;dsimp only at h
   have key:∃es':List MapEntry,qy ρ es es'/\∀(r:Option (Nat×Value)),(Instr.findKey kt k' es').run P w= .ok r w->∀u' q,(match r with|some (_,u)=>(.ok (u,true) w:Result (Value×Bool))|none=> .ok (z',false) w)= .ok (u',q) w->
    (Instr.lookup t x' k' ok).run P w= .ok (if ok then .tuple #[u', .bool q]else u') w:=by
    have QF:(zeroValue et).run P w= .ok z' w:=by simp[zeroValue,typeInfo,hi,hz]
    unfold zF at he
    split at he
    ·cases he;cases hx;refine⟨[],qy.nil,fun r hr u' q hq=> ?_⟩;simp only[Instr.lookup,Sem.run_bind,aBd hu,Result.andThen_ok,Sem.run_pure,rG,hr];cases r with
     |none=>cases hq;simp[QF]
     |some p=>cases hq;simp
    ·rename_i b
     split at he
     ·rename_i Ys clock tF;cases he;cases hx with
      |map _ r0 sz pB=>
       obtain⟨es',h1,h2,h3⟩:=hw.map tF pB;refine⟨es',⟨h2,h3⟩,fun r hr u' q hq=> ?_⟩;simp only[Instr.lookup,Sem.run_bind,aBd hu,Result.andThen_ok,Sem.run_pure,dA h1,rG,hr];cases r with
       |none=>cases hq;simp[QF]
       |some p=>cases hq;simp
     ·cases he
    ·cases he
   obtain⟨es',e1,e2⟩:=key;cases hc:kV d k es 0 with
   |none=>rw[hc]at h;cases h
   |some r=>
    rw[hc]at h;obtain⟨r',f1,f2⟩:=lG (P:=P) (w:=w) hd hf hk e1.1 e1.2 hc;cases r with
    |none=>
     cases r' with
     |some _=>exact f2.elim
     |none=>
      have:=e2 none f1 z' false rfl;cases ok with
      |false=>cases h;exact bI.still hw this vT
      |true=>cases h;exact bI.still hw this (VR.tuple' (eu.two vT (.bool false)))
    |some p=>
     obtain⟨j,u⟩:=p;cases r' with
     |none=>exact f2.elim
     |some p'=>
      obtain⟨j',u'⟩:=p';obtain⟨_,g2,_⟩:=f2;have:=e2 _ f1 u' true rfl;cases ok with
      |false=>cases h;exact bI.still hw this g2
      |true=>cases h;exact bI.still hw this (VR.tuple' (eu.two g2 (.bool true)))
 ·cases h
theorem bf.wk {b:Nat}{es es2:List eE}{clock clock2 r sz:Nat}{es2':List MapEntry}(hw:WR ρ st w)(hm:st.mem.get b=some (.map es clock))(hr:ρ b=some (r,sz))(he:qy ρ es2 es2'):
 bf ρ st w ρ (st.set b (.map es2 clock2)) {w with heap:=w.heap.setIfInBounds r (.map es2'.toArray clock2)}:=by
 obtain⟨es',h1,_⟩:=hw.map hm hr;have hlt:=(aBI.1 h1).1;exact bf.set hw hm hr (by simp[hlt]) (.map es2 clock2 es2' he.1 he.2 sz) (fun k hk=>by simp[aBY (aBU hk)]) (by simp) rfl rfl
theorem fg {r clock:Nat}{es:Array MapEntry}{o:Obj}(h:w.heap[r]?=some (.map es clock)):(setObj r o).run P w= .ok () {w with heap:=w.heap.setIfInBounds r o}:=by
 simp only[setObj,Sem.run,h]
theorem bf.Je {b:Nat}{es es2 l2:List eE}{clock2 r sz:Nat}{es2':List MapEntry}(hw:WR ρ st w)(hm:st.mem.get b=some (.lmap es))(hr:ρ b=some (r,sz))(hp:l2.Perm es2)(hi:∀e∈es2,∃n:Int,e.1= .int .i64 n)(hn:(es2.map (·.1)).Nodup)
 (hs:Go.MapKept.Stamped es2'.toArray clock2) (hl:l2.length=es2'.length) (h:∀(i:Nat) (e:eE) (e':MapEntry),l2[i]?=some e->es2'[i]?=some e'->VR ρ e.1 e'.key/\VR ρ e.2.1 e'.val):
 bf ρ st w ρ (st.set b (.lmap es2)) {w with heap:=w.heap.setIfInBounds r (.map es2'.toArray clock2)}:=by
 obtain⟨_,_,es',h1,_⟩:=hw.lmap hm hr;have hlt:=(aBI.1 h1).1;exact bf.set hw hm hr (by simp[hlt]) (.lmap es2 l2 clock2 es2' hp hi hn hs hl h sz) (fun k hk=>by simp[aBY (aBU hk)]) (by simp) rfl rfl
theorem uk {n:Int}{v':Value}(h:VR ρ (.int .i64 n) v'):v'= .int .i64 n:=by cases h;rfl
theorem Bk {d:jL}{b:Nat}{es:List eE}{t kt et:TypeId}{f r0 sz:Nat}{k y:CV}{k' y':Value}(h:yM d b es k y st= .ok v st')(hw:WR ρ st w)(tF:st.mem.get b=some (.lmap es))(pB:ρ b=some (r0,sz))(hk:VR ρ k k')(hy:VR ρ y y')
 (hu:P.underlying t=some (.map kt et)) (hd:fO P f kt=some d) (hf:f<10000) (rG:∀e,(Instr.checkKey e 10000 kt k').run P w= .ok () w):v= .undef/\∃(es2':List MapEntry) (clock2:Nat),(Instr.mapUpdate t (.map (some r0)) k' y').run P w= .ok () {w with heap:=w.heap.setIfInBounds r0 (.map es2'.toArray clock2)}/\bf ρ st w ρ st' {w with heap:=w.heap.setIfInBounds r0 (.map es2'.toArray clock2)}:=by
 obtain⟨l,clock,es',h1,h2,h3,h4,h5,h6,h7⟩:=hw.lmap tF pB;obtain⟨s1,s2,s3⟩:=h5;unfold yM at h
 split at h
 ·rename_i a ha;unfold HQ at ha
  split at ha
  ·cases ha;obtain⟨r',f1,f2⟩:=wY (P:=P) (w:=w) hd hf hk (fun e he=>h3 e (h2.mem_iff.1 he)) h6 h7;have FA:=uk hk;subst FA;cases hg:vm a es with
   |none=>
    rw[hg]at h;cases h;cases r' with
    |some p=>
     obtain⟨j,u'⟩:=p;obtain⟨e1,e',g1,g2,g3,g4⟩:=f2;exact absurd g3 (sE hg e1 (h2.mem_iff.1 (aBO g1)))
    |none=>
     have kh:∀e'∈es',e'.key≠ .int .i64 a:=by
      intro e' SR hh;obtain⟨i,hi,rfl⟩:=aBT SR;have hlt:i<l.length:=by omega
      have hv:=(h7 i l[i] _ (aAV hlt) (aAV hi)).1;obtain⟨n,hn⟩:=h3 _ (h2.mem_iff.1 (aBq hlt));rw[hn,hh]at hv;cases hv;exact f2 _ (aBq hlt) hn
     refine⟨rfl,es'++[{key:=Value.int IntKind.i64 a,val:=y',born:=clock}],clock+1, ?_, ?_⟩
     ·simp only[Instr.mapUpdate,Sem.run_bind,aBd hu,Result.andThen_ok,dA h1,rG,f1,fg h1];simp
     refine bf.Je (es2:=es++[(CV.int IntKind.i64 a,y,0)]) (l2:=l++[(CV.int IntKind.i64 a,y,0)]) (clock2:=clock+1) (es2':=es'++[{key:=Value.int IntKind.i64 a,val:=y',born:=clock}]) hw tF pB (h2.append_right _) ?_ ?_ ⟨?_, ?_, ?_⟩ (by simp[h6]) ?_
     ·intro e he;rcases aBe.1 he with he|he
      ·exact h3 e he
      ·rw[aCg.1 he];exact⟨a,rfl⟩
     ·rw[aCj,aBP];refine⟨h4,by simp, ?_⟩;intro x hx y hy hxy;obtain⟨e,he,rfl⟩:=aBv.1 hx;simp at hy;subst hy;exact sE hg e he hxy
     ·intro x hx;rw[aBe]at hx;rcases hx with hx|hx
      ·have:=s1 x hx;omega
      ·rw[aCg.1 hx];exact Nat.lt_succ_self _
     ·rw[aCj,aBP];refine⟨s2,by simp, ?_⟩;intro x hx y hy hxy;obtain⟨e,he,rfl⟩:=aBv.1 hx;simp at hy;subst hy;have:=s1 e he;omega
     ·rw[aCj,aBP];refine⟨s3,by simp, ?_⟩;intro x hx y hy hxy;obtain⟨e,he,rfl⟩:=aBv.1 hx;simp at hy;subst hy;exact kh e he hxy
     ·intro i e e' a1 a2;rcases aCn i l.length with hlt|nY
      ·rw[aCv hlt]at a1;rw[aCv (by omega)]at a2;exact h7 i e e' a1 a2
      ·rw[aCi nY]at a1;rw[aCi (by omega),<-h6]at a2;generalize i-l.length=q at a1 a2;cases q with
       |zero=>simp at a1 a2;subst a1;subst a2;exact⟨hk,hy⟩
       |succ q=>simp at a1
   |some u=>
    rw[hg]at h;cases h;obtain⟨e,he,Ik,Md⟩:=wm hg;cases r' with
    |none=>exact absurd Ik (f2 e (h2.mem_iff.2 he))
    |some p=>
     obtain⟨j,u'⟩:=p;obtain⟨e1,e',g1,g2,g3,g4⟩:=f2
     have Fx:e'.key= .int .i64 a:=by
      have hv:=(h7 j _ _ g1 g2).1;rw[g3]at hv;exact uk hv
     have QM:∀(l:List eE),(qg a y l).map (·.1)=l.map (·.1):=by
      intro l;rw[ny,aDo];apply List.map_congr_left;intro x _;show(if Da a x.1=true then (x.1,y,x.2.2)else x).1=x.1
      split<;>rfl
     have OX:((es'.modify j fun e=>{e with key:= .int .i64 a,val:=y'}).map (·.key))=es'.map (·.key):=by
      apply aCY;intro i;rw[aBN,aBN,List.getElem?_modify]
      by_cases Ih:j=i
      ·subst Ih;rw[g2];simp[Fx]
      ·simp[Ih]
     have Pa:((es'.modify j fun e=>{e with key:= .int .i64 a,val:=y'}).map (·.born))=es'.map (·.born):=by
      apply aCY;intro i;rw[aBN,aBN,List.getElem?_modify]
      by_cases Ih:j=i
      ·subst Ih;rw[g2];simp
      ·simp[Ih]
     refine⟨rfl,es'.modify j fun e=>{e with key:= .int .i64 a,val:=y'},clock, ?_, ?_⟩
     ·have hsb:Instr.sameBits 10000 (.int .i64 a) (.int .i64 a)=true:=by simp[Instr.sameBits]
      simp only[Instr.mapUpdate,Sem.run_bind,aBd hu,Result.andThen_ok,dA h1,rG,f1,Instr.keyThatStays,aCk,g2,aCf,aCl,Fx,hsb,aBr,Sem.run_pure,fg h1];simp
     refine bf.Je (l2:=qg a y l) (clock2:=clock) (es2':=es'.modify j fun e=>{e with key:= .int .i64 a,val:=y'}) hw tF pB (by rw[ny,ny];exact h2.map _) ?_ (by rw[QM];exact h4) ⟨?_, ?_, ?_⟩ (by rw[ny];simp[h6]) ?_
     ·intro x hx;rw[ny,aBv]at hx;obtain⟨x0,Sk,rfl⟩:=hx;obtain⟨n,hn⟩:=h3 x0 Sk
      split
      ·exact⟨n,hn⟩
      ·exact⟨n,hn⟩
     ·intro x hx;have:x.born∈(es'.modify j fun e=>{e with key:= .int .i64 a,val:=y'}).map (·.born):=aCb hx;rw[Pa,aBv]at this;obtain⟨x0,Sk,e0⟩:=this;rw[<-e0];exact s1 x0 Sk
     ·show((es'.modify j fun e=>{e with key:= .int .i64 a,val:=y'}).map (·.born)).Nodup;rw[Pa];exact s2
     ·show((es'.modify j fun e=>{e with key:= .int .i64 a,val:=y'}).map (·.key)).Nodup;rw[OX];exact s3
     ·intro i x x' a1 a2;rw[ny,aBN]at a1;rw[List.getElem?_modify]at a2
      by_cases Ih:j=i
      ·subst Ih;rw[g1]at a1;rw[g2]at a2;simp at a1 a2;subst a2;rw[aBb (oE.2 g3)]at a1;subst a1;exact⟨by rw[g3];exact hk,hy⟩
      ·cases hli:l[i]? with
       |none=>rw[hli]at a1;simp at a1
       |some x0=>
        rw[hli]at a1;have TA:es'[i]?=some x':=by simpa[Ih]using a2
        obtain⟨b1,b2⟩:=h7 i x0 x' hli TA
        have gT:¬Da a x0.1=true:=by
         intro hh;have Sk:=oE.1 hh;rw[Sk]at b1;have JC:=uk b1;have Xt:=(aBg.1 g2).1;have Ic:=(aBg.1 TA).1;have iL:=aDj.1 s3
         have e1:(es'.map (·.key))[j]'(by simpa using Xt)= .int .i64 a:=by
          have:=(aBg.1 g2).2;rw[List.getElem_map,this,Fx]
         have e2:(es'.map (·.key))[i]'(by simpa using Ic)= .int .i64 a:=by
          have:=(aBg.1 TA).2;rw[List.getElem_map,this,JC]
         rcases aCn j i with zq|zq
         ·exact iL j i (by simpa using Xt) (by simpa using Ic) zq (by exact e1.trans e2.symm)
         ·exact iL i j (by simpa using Ic) (by simpa using Xt) (by omega) (by exact e2.trans e1.symm)
        simp only[aCf,aCs]at a1;rw[aAZ gT]at a1;subst a1;exact⟨b1,b2⟩
  ·cases ha
 ·cases h
theorem EH {d:jL}{b:Nat}{es:List eE}{t kt et:TypeId}{f r0 sz:Nat}{k y:CV}{k' y':Value}(h:yM d b es k y st= .ok v st')(hw:WR ρ st w)(tF:st.mem.get b=some (.lmap es))(pB:ρ b=some (r0,sz))(hk:VR ρ k k')(hy:VR ρ y y')
 (hu:P.underlying t=some (.map kt et)) (hd:fO P f kt=some d) (hf:f<10000) (rG:∀e,(Instr.checkKey e 10000 kt k').run P w= .ok () w):B0 P (Instr.mapUpdate t (.map (some r0)) k' y') ρ st w v st':=by
 obtain⟨h1,es2,clock2,h2,h3⟩:=Bk h hw tF pB hk hy hu hd hf rG;exact⟨_,ρ,h2,h1,h3⟩
theorem pj {d:jL}{t kt et:TypeId}{f m:Nat}{x k y:CV}{x' k' y':Value}(h:eC d x k y st= .ok v st')(hw:WR ρ st w)(hx:VR ρ x x')(hk:VR ρ k k')(hy:VR ρ y y')
 (hu:P.underlying t=some (.map kt et)) (hd:fO P f kt=some d) (hf:f<10000) (hm:hE m d=true):B0 P (Instr.mapUpdate t x' k' y') ρ st w v st':=by
 unfold eC at h;rw[aM]at h
 split at h
 ·rename_i FB;have rG:=fun e=>lZ (w:=w) FB hd hf hm hk e
  split at h
  ·rename_i b
   split at h
   ·rename_i es tF;cases hx with
    |map _ r0 sz pB=>exact EH h hw tF pB hk hy hu hd hf rG
   ·rename_i es clock tF;cases hx with
    |map _ r0 sz pB=>
     obtain⟨es',h1,h2,h3⟩:=hw.map tF pB;cases hc:kV d k es 0 with
     |none=>rw[hc]at h;cases h
     |some r=>
      rw[hc]at h;obtain⟨r',f1,f2⟩:=lG (P:=P) (w:=w) hd hf hk h2 h3 hc;cases r with
      |none=>
       cases r' with
       |some _=>exact f2.elim
       |none=>
        dsimp only at h;rw[dE]at h;cases h;refine⟨_,ρ, ?_,rfl,bf.wk (clock2:=clock+1) hw tF pB (qy.app ⟨h2,h3⟩ (qy.cons (e:=(k,y,clock)) (e':={key:=k',val:=y',born:=clock}) ⟨hk,hy,rfl⟩ qy.nil))⟩;simp only[Instr.mapUpdate,Sem.run_bind,aBd hu,Result.andThen_ok,dA h1,rG,f1,fg h1];simp
      |some p=>
       obtain⟨j,u⟩:=p;cases r' with
       |none=>exact f2.elim
       |some p'=>
        obtain⟨j',u'⟩:=p';obtain⟨rfl,g2,e,e',g3,g4,g5,g6⟩:=f2;dsimp only at h;rw[F6,g3]at h;obtain⟨k0,u0,born⟩:=e;dsimp only at h;rw[aM]at h
        split at h
        ·rename_i hs;cases h;obtain⟨a1,a2,a3⟩:=h3 j _ _ g3 g4;obtain⟨s1,s2⟩:=wP hs a1 hk
         refine⟨_,ρ, ?_,rfl,bf.wk (clock2:=clock) hw tF pB (qy.mod (e:=(k,y,born)) (f:=fun e=>{e with key:=k',val:=y'}) j ⟨h2,h3⟩ (fun e2 Md=>by
          rw[g4]at Md;cases Md;exact⟨hk,hy,a3⟩))⟩
         simp only[Instr.mapUpdate,Sem.run_bind,aBd hu,Result.andThen_ok,dA h1,rG,f1,Instr.keyThatStays,aCk,g4,aCf,aCl,s2,aBr,Sem.run_pure,fg h1];simp
        ·cases h
   ·cases h
  ·cases h
 ·cases h
theorem xD {d:jL}{z:CV}{t kt et:TypeId}{f m:Nat}{i:TypeInfo}{z':Value}{x k:CV}{x' k':Value}(h:fC d z x k st= .ok v st')(hw:WR ρ st w)(hx:VR ρ x x')(hk:VR ρ k k')
 (hu:P.underlying t=some (.map kt et)) (hd:fO P f kt=some d) (hf:f<10000) (hm:hE m d=true) (hi:P.info? et=some i) (hz:i.zero=some z') (vT:VR ρ z z'):bI P (Instr.mapEntry t x' k') ρ st w v st':=by
 have QF:(zeroValue et).run P w= .ok z' w:=by simp[zeroValue,typeInfo,hi,hz]
 unfold fC at h;rw[aM]at h
 split at h
 ·rename_i FB;have rG:=fun e=>lZ (w:=w) FB hd hf hm hk e
  split at h
  ·rename_i b
   split at h
   ·rename_i es clock tF;cases hx with
    |map _ r0 sz pB=>
     obtain⟨es',h1,h2,h3⟩:=hw.map tF pB;cases hc:kV d k es 0 with
     |none=>rw[hc]at h;cases h
     |some r=>
      rw[hc]at h;obtain⟨r',f1,f2⟩:=lG (P:=P) (w:=w) hd hf hk h2 h3 hc;cases r with
      |none=>
       cases r' with
       |some _=>exact f2.elim
       |none=>
        dsimp only at h;rw[dE]at h;cases h;refine⟨.tuple #[z',goInt clock],_,ρ, ?_,VR.tuple' (eu.two vT (.int .i64 _)),bf.wk (clock2:=clock+1) hw tF pB (qy.app ⟨h2,h3⟩ (qy.cons (e:=(k,z,clock)) (e':={key:=k',val:=z',born:=clock}) ⟨hk,vT,rfl⟩ qy.nil))⟩;simp only[Instr.mapEntry,Sem.run_bind,aBd hu,Result.andThen_ok,dA h1,rG,f1,QF,fg h1,Sem.run_pure];simp
      |some p=>
       obtain⟨j,u⟩:=p;cases r' with
       |none=>exact f2.elim
       |some p'=>
        obtain⟨j',u'⟩:=p';obtain⟨rfl,g2,e,e',g3,g4,g5,g6⟩:=f2;dsimp only at h;rw[F6,g3]at h;obtain⟨k0,u0,born⟩:=e;dsimp only at h;rw[aM]at h
        split at h
        ·rename_i hs;cases h;obtain⟨a1,a2,a3⟩:=h3 j _ _ g3 g4;obtain⟨s1,s2⟩:=wP hs a1 hk;have a3':born=e'.born:=a3
         refine⟨.tuple #[u',goInt e'.born],_,ρ, ?_,VR.tuple' (eu.two g2 (by rw[a3'];exact .int .i64 _)),bf.wk (clock2:=clock) hw tF pB (qy.mod (e:=(k,u,born)) (f:=fun e=>{e with key:=k'}) j ⟨h2,h3⟩ (fun e2 Md=>by
          rw[g4]at Md;cases Md;exact⟨hk,by rw[g6];exact g2,a3⟩))⟩
         simp only[Instr.mapEntry,Sem.run_bind,aBd hu,Result.andThen_ok,dA h1,rG,f1,Instr.keyThatStays,aCk,g4,aCf,aCl,s2,aBr,Sem.run_pure,fg h1];simp
        ·cases h
   ·cases h
  ·cases h
 ·cases h
theorem DF {born:Nat}:∀{es:List eE} {es':List MapEntry} {j i:Nat} {e:eE},qy ρ es es'->rU born es j=some (i,e)->
 j<=i/\es[i-j]?=some e/\es'.findIdx? (fun e=>(e.born:Int)==(born:Int))=some (i-j):=by
 intro es
 induction es with
 |nil=>intro es' j i e _ h;cases h
 |cons x es ih=>
  intro es' j i e h hb;obtain⟨x',t',rfl,h1,h2⟩:=h.inv;have e0:rU born (x::es) j=bC (Nat.beq x.2.2 born) (some (j,x)) (rU born es (j+1)):=rfl;simp only[e0,aM,aBB]at hb
  split at hb
  ·rename_i hq;cases hb;refine⟨aAU _,by simp, ?_⟩;rw[List.findIdx?_cons];have:((x'.born:Int)==(born:Int))=true:=by rw[beq_iff_eq,<-h1.2.2,hq]
   simp[this]
  ·rename_i hq;obtain⟨a1,a2,a3⟩:=ih h2 hb;refine⟨by omega,by rw[show i-j=(i-(j+1))+1 by omega];simpa using a2, ?_⟩;rw[List.findIdx?_cons]
   have:((x'.born:Int)==(born:Int))=false:=by
    rw[beq_eq_false_iff_ne,<-h1.2.2];exact fun e=>hq (by exact_mod_cast e)
   simp only[this,aAR,aBf,a3,aCf]
   congr 1;omega
theorem uU {t:TypeId}{x s y:CV}{x' s' y':Value}(h:dP x s y st= .ok v st')(hw:WR ρ st w)(hx:VR ρ x x')(hs:VR ρ s s')(hy:VR ρ y y'):B0 P (Instr.entryStore t x' s' y') ρ st w v st':=by
 unfold dP at h
 split at h
 ·rename_i b k born
  split at h
  ·rename_i es clock tF;cases hs;cases hx with
   |map _ r0 sz pB=>
    obtain⟨es',h1,h2,h3⟩:=hw.map tF pB
    split at h
    ·rename_i j k0 u0 bn hb;cases h;obtain⟨a1,a2,a3⟩:=DF (ρ:=ρ) (es':=es') ⟨h2,h3⟩ hb;rw[Nat.sub_zero]at a2 a3
     refine⟨_,ρ, ?_,rfl,bf.wk (clock2:=clock) hw tF pB (qy.mod (e:=(k0,y,bn)) (f:=fun e=>{e with val:=y'}) j ⟨h2,h3⟩ (fun e2 Md=>by
      obtain⟨b1,b2,b3⟩:=h3 j _ _ a2 Md;exact⟨b1,hy,b3⟩))⟩
     simp only[Instr.entryStore,Sem.run_bind,dA h1,Result.andThen_ok,asInt,asIntOf,Sem.run_pure]
     have:es'.toArray.findIdx? (fun e=>(e.born:Int)==Int.ofNat born)=some j:=by
      rw[<-a3];simp
     rw[this];simp only[fg h1];simp
    ·cases h
  ·cases h
 ·cases h
theorem Nm {r:Nat}{o:Obj}{w:World}(h:w.heap[r]?=some o):({w with heap:=w.heap.setIfInBounds r o}:World)=w:=by
 have:w.heap.setIfInBounds r o=w.heap:=by
  apply Array.ext_getElem?;intro i
  by_cases e:r=i
  ·subst e;have:=(aBI.1 h).1;rw[h];simp[this]
  ·rw[aBY e]
 rw[this]
theorem AG {d:jL}{t kt et ty:TypeId}{f m:Nat}{x k:CV}{x' k':Value}{ats:Array TypeId}(nR:ats[0]?=some t)(h:oB d x k st= .ok v st')(hw:WR ρ st w)(hx:VR ρ x x')(hk:VR ρ k k')
 (hu:P.underlying t=some (.map kt et)) (hd:fO P f kt=some d) (hf:f<10000) (hm:hE m d=true):bI P (Builtin.delete_ ats ty #[x',k']) ρ st w v st':=by
 have Zl:VR ρ .undef (.tuple #[]):= .undef;unfold oB at h;rw[aM]at h
 split at h
 ·rename_i FB;have rG:=fun e=>lZ (w:=w) FB hd hf hm hk e
  split at h
  ·cases h;cases hx;exact bI.still hw (by simp[Builtin.delete_,nR,aBd hu,rG]) Zl
  ·rename_i b
   split at h
   ·rename_i es clock tF;cases hx with
    |map _ r0 sz pB=>
     obtain⟨es',h1,h2,h3⟩:=hw.map tF pB;cases hc:kV d k es 0 with
     |none=>rw[hc]at h;cases h
     |some r=>
      rw[hc]at h;obtain⟨r',f1,f2⟩:=lG (P:=P) (w:=w) hd hf hk h2 h3 hc;cases r with
      |none=>
       cases r' with
       |some _=>exact f2.elim
       |none=>
        cases h;refine bI.still hw ?_ Zl;simp only[Builtin.delete_,nR,aCk,aAQ,aAS,Sem.run_bind,aBd hu,Result.andThen_ok,dA h1,rG,f1,fg h1,Sem.run_pure];rw[Nm h1]
      |some p=>
       obtain⟨j,u⟩:=p;cases r' with
       |none=>exact f2.elim
       |some p'=>
        obtain⟨j',u'⟩:=p';obtain⟨rfl,g2,e,e',g3,g4,g5,g6⟩:=f2;cases h;refine⟨.tuple #[],_,ρ, ?_, .undef,bf.wk (clock2:=clock) hw tF pB (qy.del j ⟨h2,h3⟩)⟩;simp only[Builtin.delete_,nR,aCk,aAQ,aAS,Sem.run_bind,aBd hu,Result.andThen_ok,dA h1,rG,f1,fg h1,Sem.run_pure]
        congr 3
        congr 1
        apply Array.ext';simp
   ·cases h
  ·cases h
 ·cases h
theorem CD {t kt et:TypeId}{r:Option CV}{r':Option Value}(h:jE r st= .ok v st')(hw:WR ρ st w)(hr:Qv ρ r r')(hu:P.underlying t=some (.map kt et)):bI P (Instr.makeMap t r') ρ st w v st':=by
 have key:∀n,OR.ok (.map st.next) ⟨st.mem.put st.next (some (.map [] 0)),(st.next+1)⟩=OR.ok v st'->n=w.heap.size->(Instr.makeMap t r').run P w= .ok (.map (some w.heap.size)) {w with heap:=w.heap.push (.map #[] 0)}->bI P (Instr.makeMap t r') ρ st w v st':=by
  intro n h _ jv;cases h;have ha:=bf.new hw (BR.map (ρ:=ρ.set st.next (w.heap.size,0)) [] 0 [] rfl (fun i e e' h=>by simp at h) 0);exact⟨_,_,_,jv, .map _ _ _ ha.2,ha.1⟩
 unfold jE at h
 split at h
 ·rw[dE]at h;cases r' with
  |some _=>exact hr.elim
  |none=>exact key _ h rfl (by simp[Instr.makeMap])
 ·rw[dE]at h;cases r' with
  |none=>exact hr.elim
  |some x'=>
   have Ak:VR ρ _ x':=hr;cases Ak;exact key _ h rfl (by simp[Instr.makeMap,aBd hu,asInt,asIntOf])
 ·cases h
end
abbrev tn:=Nat×Nat×CV
def fY (parts:List tn):List CV->Option (List CV):=
 List.rec (motive:=fun _=>List CV->Option (List CV)) (fun s=>some s)
  (fun p _ ih s=>bC (Nat.beq p.2.2.cK.length p.2.1&& !p.2.2.isAny) (Option.rec none (fun s'=>ih s') (dR s p.1 p.2.2.cK)) none) parts
theorem Lv (off:Nat):∀(l:List Value) (k:Nat) (cells:Array Value),off+k+l.length<=cells.size->
 ((l.zipIdx k).foldl (fun cs (p:Value×Nat)=>cs.setIfInBounds (off+p.2) p.1) cells).toList=cells.toList.take (off+k)++l++cells.toList.drop (off+k+l.length):=by
 intro l
 induction l with
 |nil=>intro k cells _;simp
 |cons v l ih=>
  intro k cells h;rw[List.zipIdx_cons,List.foldl_cons,ih (k+1) _ (by simp at h⊢;omega)];have e:=list_seg_step cells.toList (off+k) v l (by simp at h⊢;omega);simp only[Array.toList_setIfInBounds];rw[<-Nat.add_assoc,e];simp
section
variable {P:Program} {ρ:Ren} {st st':St} {w:World} {v:CV}
inductive qv (ρ:Ren)(place:Nat->Option (Nat×Nat)):List tn->List (Nat×Value)->Prop where
 |nil:qv ρ place [] []
 |cons (i off size:Nat) (x:CV) (x':Value) (l:List tn) (l':List (Nat×Value)) (hp:place i=some (off,size)) (hx:VR ρ x x') (t:qv ρ place l l'):
  qv ρ place ((off,size,x)::l) ((i,x')::l')
theorem qp {place:Nat->Option (Nat×Nat)}{parts:List tn}{parts':List (Nat×Value)}(h:qv ρ place parts parts'):∀{s s':List CV} {cells:Array Value},fY parts s=some s'->eu ρ s cells.toList->
 ∃kj,Instr.fill place cells parts'=some kj/\eu ρ s' kj.toList:=by
 induction h with
 |nil=>intro s s' cells h hv;cases h;exact⟨cells,rfl,hv⟩
 |cons i off size x x' l l' hp hx t ih=>
  intro s s' cells h hv;have e0:fY ((off,size,x)::l) s=bC (Nat.beq x.cK.length size&& !x.isAny) (Option.rec none (fun s'=>fY l s') (dR s off x.cK)) none:=rfl;simp only[e0,aM,aBp,aBB,aDA]at h
  split at h
  ·rename_i hsz0;obtain⟨hsz,hna⟩:=hsz0;cases hw:dR s off x.cK with
   |none=>rw[hw]at h;cases h
   |some s2=>
    rw[hw]at h;obtain⟨w1,w2⟩:=wW hw;have hxs:=hx.cK hna;have hlen:x'.cells.size=size:=by have:=hxs.len;rw[hsz]at this;simpa using this.symm
    have tJ:cells.size=s.length:=by have:=hv.len;simpa using this.symm
    have Lc:off+x'.cells.size<=cells.size:=by omega
    let P9:=x'.cells.zipIdx.foldl (fun cs (p:Value×Nat)=>cs.setIfInBounds (off+p.2) p.1) cells
    have QV:P9.toList=cells.toList.take off++(x'.cells.toList++cells.toList.drop (off+x'.cells.size)):=by
     have:=Lv off x'.cells.toList 0 cells (by simpa using Lc);show(Array.foldl _ cells x'.cells.zipIdx).toList=_;rw[<-Array.foldl_toList,Array.toList_zipIdx,this];simp
    obtain⟨kj,f1,f2⟩:=ih (cells:=P9) h (by
     rw[w2,QV];have e1:x.cK.length=x'.cells.size:=by rw[hsz,hlen]
     rw[e1];exact(hv.take off).app (hxs.app (hv.drop _)))
    refine⟨kj, ?_,f2⟩;simp only[Instr.fill,hp];rw[aAZ (by simp[hlen];omega)];exact f1
  ·cases h
def bJ (z:List CV)(parts:List tn)(st:St):OR:=Option.rec .bad (fun s=> .ok (.agg s) st) (fY parts z)
def bT (e len:Nat)(z:List CV)(parts:List tn)(st:St):OR:=
 Option.rec .bad (fun s=> .ok (.slice st.next 0 len len 0) ⟨st.mem.put st.next (some (.cells s e false)),st.next+1⟩) (fY parts z)
theorem Aw {β γ:Type}(l:List β)(f:β->Sem γ)(g:β->γ)(h:∀x∈l,(f x).run P w= .ok (g x) w):(l.mapM f).run P w= .ok (l.map g) w:=by
 induction l with
 |nil=>simp
 |cons a l ih=>simp[List.mapM_cons,h a (by simp),ih (fun x hx=>h x (by simp[hx]))]
theorem yA {β γ:Type}(l:Array β)(f:β->Sem γ)(g:β->γ)(h:∀x∈l.toList,(f x).run P w= .ok (g x) w):(l.mapM f).run P w= .ok (l.map g) w:=by
 rw[Array.mapM_eq_mapM_toList,Sem.run_map,Aw l.toList f g h];simp only[Result.andThen_ok]
 congr 1
 apply Array.ext';simp
def Cz (P:Program)(fs:Array Field)(i:Nat):Option (Nat×Nat):=(fs[i]?).map fun f=>(f.offset,P.cellsOf f.type)
def mm (size:Nat)(i:Nat):Option (Nat×Nat):=some (i*size,size)
theorem AH {t:TypeId}{fs:Array Field}{i:TypeInfo}{z:List CV}{z':Value}{parts:List tn}{parts':Array (Nat×Value)}(h:bJ z parts st= .ok v st')(hw:WR ρ st w)(hu:P.underlying t=some (.struct fs))(hi:P.info? t=some i)
 (hz:i.zero=some z') (vT:∀ρ,eu ρ z z'.cells.toList) (hp:qv ρ (Cz P fs) parts parts'.toList) (acO:∀f∈fs.toList,∃j,P.info? f.type=some j):bI P (Instr.build t parts') ρ st w v st':=by
 unfold bJ at h;cases hf:fY parts z with
 |none=>rw[hf]at h;cases h
 |some s=>
  rw[hf]at h;dsimp only at h;cases h;obtain⟨kj,f1,f2⟩:=qp hp hf (vT ρ);refine bI.still hw (v':= .agg kj) ?_ (by have:=VR.DK f2;simpa using this)
  have hm:=yA (P:=P) (w:=w) fs (fun f=>do pure (f.offset,<-Go.sizeOf f.type)) (fun f=>(f.offset,P.cellsOf f.type)) (fun f hf=>by
   obtain⟨j,hj⟩:=acO f hf;simp[Go.sizeOf,typeInfo,hj,Program.cellsOf])
  have HX:(fun i=>(fs.map fun f=>(f.offset,P.cellsOf f.type))[i]?)=Cz P fs:=by
   funext i;simp[Cz]
  simp only[Instr.build,zeroValue,typeInfo,Sem.run_bind,run_program,Result.andThen_ok,hi,hz,Sem.run_pure,aBd hu];rw[hm];simp only[Result.andThen_ok];rw[HX,f1]
  rfl
theorem CK {t e:TypeId}{n:Nat}{i j:TypeInfo}{z:List CV}{z':Value}{parts:List tn}{parts':Array (Nat×Value)}(h:bJ z parts st= .ok v st')(hw:WR ρ st w)(hu:P.underlying t=some (.array n e))(hi:P.info? t=some i)
 (hz:i.zero=some z') (vT:∀ρ,eu ρ z z'.cells.toList) (hj:P.info? e=some j) (hp:qv ρ (mm j.size) parts parts'.toList):bI P (Instr.build t parts') ρ st w v st':=by
 unfold bJ at h;cases hf:fY parts z with
 |none=>rw[hf]at h;cases h
 |some s=>
  rw[hf]at h;dsimp only at h;cases h;obtain⟨kj,f1,f2⟩:=qp hp hf (vT ρ);refine bI.still hw (v':= .agg kj) ?_ (by have:=VR.DK f2;simpa using this);have HX:(fun i=>some (i*j.size,j.size))=mm j.size:=rfl;simp only[Instr.build,zeroValue,Go.sizeOf,typeInfo,Sem.run_bind,run_program,Result.andThen_ok,hi,hj,hz,Sem.run_pure,aBd hu];rw[HX,f1]
  rfl
theorem uW {t e:TypeId}{len:Nat}{i:TypeInfo}{z:List CV}{z':Value}{parts:List tn}{parts':Array (Nat×Value)}(h:bT e len (cO len z) parts st= .ok v st')(hw:WR ρ st w)(hu:P.underlying t=some (.slice e))(hi:P.info? e=some i)
 (hz:i.zero=some z') (hsz:z'.cells.size=i.size) (vT:∀ρ,eu ρ z z'.cells.toList) (hp:qv ρ (mm i.size) parts parts'.toList) (hlen:len*i.size<=16777216):bI P (Instr.buildSlice t len parts') ρ st w v st':=by
 unfold bT at h;cases hf:fY parts (cO len z)with
 |none=>rw[hf]at h;cases h
 |some s=>
  rw[hf]at h;dsimp only at h;cases h
  have gw:(List.replicate len z'.cells.toList).flatten=((Array.range (len*i.size)).map (z'.cells[·%z'.cells.size]!)).toList:=by
   rw[<-hsz,aCz,aDt];exact(oX z'.cells len).symm
  have hvz:eu ρ (cO len z) ((Array.range (len*i.size)).map (z'.cells[·%z'.cells.size]!)).toList:=by
   rw[<-gw];exact(vT ρ).flatten len
  obtain⟨kj,f1,f2⟩:=qp hp hf hvz;obtain⟨ρ',h1,h2,h3⟩:=bf.newRow (P:=P) (t:=e) (s:=s) (l:=kj.toList) hw (fun ρ' hle=>f2.mono hle) false;rw[aCw]at h1 h3;refine⟨.slice (some ⟨w.heap.size,0,none⟩) len len,_,ρ', ?_, .slice _ _ _ _ _ _ h2,h3⟩;have HX:(fun k=>some (k*i.size,i.size))=mm i.size:=rfl;have hn:¬(len*i.size>2^24):=by show¬(len*i.size>16777216);omega
  simp only[Instr.buildSlice,Sem.run_bind,aBd hu,Result.andThen_ok,Go.sizeOf,typeInfo,run_program,hi,Sem.run_pure,aAZ hn]
  by_cases h0:len*i.size=0
  ·have Zj:((Array.range (len*i.size)).map (z'.cells[·%z'.cells.size]!))=((Array.range (len*i.size)).map ((#[]:Array Value)[·%(#[]:Array Value).size]!)):=by
    rw[h0,Array.range_zero'];simp
   rw[Zj]at f1;rw[aBb h0]
   show Sem.run P (do
    let some cells:=Instr.fill (mm i.size) ((Array.range (len*i.size)).map ((#[]:Array Value)[·%(#[]:Array Value).size]!)) parts'.toList|stuck "buildSlice: a part of the wrong size"
    pure (Value.slice (some (<-newRow e cells)) len len)) w=_
   rw[f1];simp only[Sem.run_bind,h1,Result.andThen_ok,Sem.run_pure]
  ·rw[aAZ h0];simp only[zeroValue,typeInfo,Sem.run_bind,run_program,Result.andThen_ok,hi,hz,Sem.run_pure];rw[HX,f1];simp only[Sem.run_bind,h1,Result.andThen_ok,Sem.run_pure]
def qD (fn:Fn)(f c:List CV)(st:St):OR:= .ok (.func fn f c) st
theorem EM {fn:Fn}{f c:List CV}{f' c':Array Value}(h:qD fn f c st= .ok v st')(hw:WR ρ st w)(hf:eu ρ f f'.toList)(hc:eu ρ c c'.toList):bI P (Instr.makeFunc fn f' c') ρ st w v st':=by
 cases h;refine bI.still hw rfl ?_;have:=VR.func (ρ:=ρ) fn f c f'.toList c'.toList hf.len hc.len hf.at' hc.at'
 simpa using this
end
