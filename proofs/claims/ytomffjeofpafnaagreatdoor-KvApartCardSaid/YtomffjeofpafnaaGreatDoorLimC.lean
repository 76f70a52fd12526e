import Derived.Test.YtomffjeofpafnaaGreatDoorLimB
namespace Lim
open Go
noncomputable section
set_option linter.defProp false
section
variable {e n need sLen sCap:Nat}{zeros:Bool}{iE:Sem (Array Value)}{s x:Value}{i:TypeInfo}{z':Value}{vs:List Value}
def St.drop (st:St)(b:Nat):St:=⟨st.m.put b none,st.nx⟩
def bT (e size bytes:Nat)(s:CV)(src:Option (Nat×List CV))(st:St):OR:=
 match s,src with
 | .ae,some (n,t)=>bH (Nat.beq n 0) (.ok .ae st)
  (bH (Bool.and (Nat.ble 1 size) (Bool.and (Nat.ble (Nat.mul n bytes) 140737488355328) (Nat.ble n 140737488355328)))
   (.ok (.slice st.nx 0 n n size) ⟨st.m.put st.nx (some (.cells t e true)),st.nx+1⟩) .bad)
 | .slice b off len cap grow,some (n,t)=>
   bH (Nat.beq n 0) (bH (Nat.ble len cap) (.ok (.slice b off len cap grow) st) .bad)
    (oJ (Nat.add len n) λneed=>
     bH (Nat.ble need cap)
      (match st.m.g b with
      |some (.cells s ty g)=>bH (bj t) (Option.rec .bad (λs'=>.ok (.slice b off need cap grow) ⟨st.m.put b (some (.cells s' ty g)),st.nx⟩) (dY s (off+len*size) t)) .bad
      |_=>.bad)
      (bH (Bool.and (Nat.ble 1 size) (Bool.and (Nat.ble (Nat.mul need bytes) 140737488355328) (Nat.ble need 140737488355328)))
       (match st.m.g b with
       |some (.cells s ty _)=>
        (match gV s off (len*size)with
        |some olds=>(λnx l=>
         bH (Nat.beq grow 0) (.ok (.slice st.nx 0 need need size) ⟨st.m.put st.nx (some (.cells l e true)),nx⟩)
          (bH (Bool.and (Nat.beq off 0) (Bool.and (Nat.beq grow size) (Bool.and (Nat.beq ty e) (Bool.and (bj t) (Nat.ble 1 cap)))))
           (.ok (.slice st.nx 0 need need size) ⟨(st.m.put b none).put st.nx (some (.cells l e true)),nx⟩) .bad)) (st.nx+1) (olds++t)
        |none=>.bad)
       |_=>.bad) .bad))
 |_,_=>.bad
section
variable {P:Program} {ρ:Ren} {st st':St} {w:World} {v:CV}
def br.drop (h:WR ρ st w)(b:Nat):br ρ st w ρ (st.drop b) w:=by
 have iL:∀q blk,(st.drop b).m.g q=some blk->st.m.g q=some blk:=λq blk hq=>by
  by_cases e:q=b
  .subst e;simp only[St.drop,PT.dn]at hq;cases hq
  .simpa only[St.drop,PT.dv _ _ _ _ e]using hq
 exact⟨⟨λq blk r sz hq=>h.at' q blk r sz (iL q blk hq),λq q' blk fq r s s' h1 h2=>h.inj q q' blk fq r s s' (iL q blk h1) (iL q' fq h2),h.fresh⟩,
  λ_ _ h=>h,λ_ _ h=>h,aEQ _,λq blk _ sz h1 h2=>.inl ⟨q,blk,sz,iL q blk h1,h2⟩,λ_ _ _=>rfl,aEQ _,rfl,rfl⟩
def l5 {size:Nat}{base:Option Addr}{olds:List Value}(hn:need=sLen+n)(Br:sCap<need)
 (h63:need<=140737488355328) (hb:need*i.bytes<=140737488355328) (hi:P.info? e=some i) (hz:i.zero=some z') (ha:∀w1:World,w1.heap=w.heap->iE.run P w1=.ok vs.toArray w1)
 (ho:∀w1:World,w1.heap=w.heap->(Builtin.firstCells size sLen s).run P w1=.ok olds.toArray w1):
 (mz e size zeros n iE base sLen sCap s x).run P w=
  .ok (.slice (some ⟨w.heap.size,0,none⟩) need (grownCap w need sCap e))
   {w with drawn:=w.drawn+1,heap:=w.heap.push (.cells (olds.toArray++vs.toArray++Builtin.zeroCells z'.cells (grownCap w need sCap e-need)) e)}:=by
 subst hn;have h1:¬(sLen+n<=sCap):=qE
 have ZY:IntKind.i64.max=9223372036854775807:=u7
 have h2:¬(((sLen+n:Nat):Int)>IntKind.i64.max):=by rw[ZY];omega
 have h3:¬(Builtin.nextslicecap (sLen+n) sCap*i.bytes>2^48):=by
  have:=growslice_fits (bytes:=i.bytes) Br hb;exact λh=>absurd (aFg h this) u7
 have h4:=ha {w with drawn:=w.drawn+1} rfl;have h5:=ho {w with drawn:=w.drawn+1} rfl;simp only[mz,Sem.run_ite,aET h1,Sem.run_bind,typeInfo,run_program,Result.andThen_ok,hi,Sem.run_pure,h2,false_and,aFa,aET h3,run_choose,Question.forced,aEM,run_askRoom,h4,h5,zeroValue,hz,newRow,run_newObj]
 rfl
def NB (z':Value)(k:Nat):(Builtin.zeroCells z'.cells k).size=k*z'.cells.size:=by simp[Builtin.zeroCells]
def Hr (w:World)(need UG:Nat)(e:TypeId):need<=grownCap w need UG e:=by show need<=need+_;omega
def br.grown {size:Nat}{l:List CV}(hw:WR ρ st w)(hl:eK ρ (row l) vs)(hlen:vs.length=need*size)(hsz:z'.cells.size=size)(h1:1<=size):
 ∃ρ',VR ρ' (.slice st.nx 0 need need size) (.slice (some ⟨w.heap.size,0,none⟩) need (grownCap w need sCap e))/\
  br ρ st w ρ' ⟨st.m.put st.nx (some (.cells l e true)),(st.nx+1)⟩ {w with drawn:=w.drawn+1,heap:=w.heap.push (.cells (vs.toArray++Builtin.zeroCells z'.cells (grownCap w need sCap e-need)) e)}:=by
 have Hk:=Hr w need sCap e;have ij:∀b x,ρ b=some x->b≠st.nx:=λb x hx e=>aaC
 have Ha:l.length=vs.length:=by rw[hl.len]
 have ng:(vs.toArray++Builtin.zeroCells z'.cells (grownCap w need sCap e-need)).size=grownCap w need sCap e*size:=by
  rw[Array.size_append,NB,hsz,aHh,hlen,<-aFW];congr 1;omega
 have hb:=BR.cells (ρ:=ρ) l e true (vs.toArray++Builtin.zeroCells z'.cells (grownCap w need sCap e-need)) 0 0 (by
  rw[ng,Ha,hlen];exact aFH _ Hk) (by
  rw[Ha,Array.toList_append,aGj uG];exact hl) qE (by intros;omega)
 have hle:ρ.le (ρ.set st.nx (w.heap.size,grownCap w need sCap e*size)):=λb _ hr=>aaD
 have ha:=br.new (hw.EK (w':={w with drawn:=w.drawn+1}) rfl) (sz:=grownCap w need sCap e*size) ((ng▸hb).mono hle);refine⟨_,.nU _ 0 0 need need (grownCap w need sCap e) size _ _ ha.2 h1 (aEQ _) Hk (λ_=>rfl) qE,(br.draw hw (w.drawn+1)).trans ha.1⟩
def l4 {size:Nat}{a:Addr}{w':World}(hle:sLen+n<=sCap)
 (ha:iE.run P w=.ok vs.toArray w) (hs:(storeCells (a.add (sLen*size)) vs).run P w=.ok () w'):
 (mz e size zeros n iE (some a) sLen sCap s x).run P w=.ok (.slice (some a) (sLen+n) sCap) w':=by
 simp only[mz,aEW hle,Sem.run_bind,ha,Result.andThen_ok,hs,Sem.run_pure]
def BM {k:Ia}{t u ty size bytes:Nat}{z:List CV}{s x:CV}{s' x':Value}(h:bT e size bytes s (de k size z x st) st=.ok v st')(hw:WR ρ st w)(hs:VR ρ s s')(hx:VR ρ x x')
 (hf:DI P k u size) (hu:P.underlying t=some (.slice e)) (hi:P.info? e=some i) (hz:i.zero=some z') (ZD:i.size=size) (hsz:z'.cells.size=size) (xp:∀ρ,eK ρ z z'.cells.toList) (hb:i.bytes=bytes) (CX:k=.zeros->bytes<=256):
 bK P (Builtin.append_ #[t,u] ty #[s',x']) ρ st w v st':=by
 unfold bT at h
 split at h
 ·
   rename_i n tt BP;obtain⟨vs,zeros,iE,g1,g2,g3,g4⟩:=Cn (P:=P) (w:=w) (ty:=ty) BP hw hx hf hu hi hz ZD hsz xp (λhk=>by rw[hb];exact CX hk);cases hs;simp only[aP,aFl,aFw,aFs]at h
   split at h
   .rename_i hn;subst hn;cases h;refine bK.still hw ?_ .ae;rw[g4];simp only[mz,aFC,aEQ,aFm,Sem.run_bind,g3 w rfl,Result.andThen_ok,Sem.run_pure]
   .rename_i hn
    split at h
    .rename_i hc;cases h;obtain⟨c1,c2,c3⟩:=hc;have c2':n*i.bytes<=140737488355328:=by rw[hb];exact c2
     have jZ:=l5 (P:=P) (w:=w) (e:=e) (size:=size) (n:=n) (need:=n) (sLen:=0) (sCap:=0) (zeros:=zeros) (base:=none) (s:=.slice none 0 0) (x:=x') (olds:=[]) qE qE c3 c2' hi hz g3 (λw1 _=>acD);obtain⟨ρ',k1,k2⟩:=br.grown (e:=e) (sCap:=0) hw g1 g2 hsz c1;refine⟨_,_,ρ',by rw[g4,jZ],k1,?_⟩
     simpa using k2
    .cases h
 .rename_i b off len cap grow n tt BP;obtain⟨vs,zeros,iE,g1,g2,g3,g4⟩:=Cn (P:=P) (w:=w) (ty:=ty) BP hw hx hf hu hi hz ZD hsz xp (λhk=>by rw[hb];exact CX hk);obtain⟨r,sz,dE,fy,rfl,hr,c1,c2,c3,c4⟩:=hs.eW;have hvt:tt.length=n*size:=by rw[g1.len,g2]
  simp only[aP,aFw,dI]at h
  split at h
  ·
    rename_i hn;subst hn
    split at h
    .rename_i hle;rw[aFs]at hle;cases h;have hv:vs=[]:=by apply aFi.1;rw[g2];omega
     subst hv;refine bK.still hw ?_ hs;rw[g4,l4 qE (g3 w rfl) rfl];rfl
    .cases h
  .rename_i hn
   split at h
   ·
     rename_i hle;rw[aFs]at hle;have Z4:len+n<=cap:=hle;have ho:=c1 qE;subst ho
     split at h
     .rename_i sg tg gg hm
      split at h
      .rename_i kz;cases wL:dY sg (dE+len*size) tt with
       |none=>rw[wL]at h;cases h
       |some s2=>
        rw[wL]at h;cases h;obtain⟨w',k1,k2⟩:=br.write (P:=P) hw hm hr wL g1 kz;refine⟨_,w',ρ,by rw[g4,l4 qE (g3 w rfl) (by rw[kF];exact k1)],?_,k2⟩;show VR ρ (.slice b dE (len+n) cap grow) _
        by_cases hg:grow=0
        .obtain⟨e1,_⟩:=c3 hg;subst hg;subst e1;exact .slice _ _ _ _ r sz hr
        .obtain⟨d1,d2⟩:=c4 qE;exact .nU _ _ dE _ _ fy grow r sz hr qE Z4 c2 (λ_=>rfl) d1
      .cases h
     .cases h
   .rename_i hle;rw[aFs]at hle;have Z4:¬len+n<=cap:=hle
    split at h
    .rename_i hc;simp only[aFl,aFs]at hc;obtain⟨d1,d2,d3⟩:=hc;have d2':(len+n)*i.bytes<=140737488355328:=by rw[hb];exact d2
     have d3':len+n<=140737488355328:=d3
     split at h
     .rename_i sg tg gg hm
      split at h
      .rename_i olds hol;obtain⟨c,lo,fk,e1,e2,e3,e4,e5⟩:=hw.row hm hr;have aoi:=(jY hol).1;have afo:=(jY hol).2;have atU:=aoi;have hln:len*size+n*size=(len+n)*size:=(aFW _ _ _).symm
       split at h
       ·
         rename_i hg;have hg:grow=0:=by simpa using hg
         cases h;obtain⟨f1,f2⟩:=c3 hg;subst f1;subst f2
         have hvo:eK ρ (olds++tt) ((c.toList.drop dE).take (len*size)++vs):=by
          refine eK.app ?_ g1;rw[show olds=(sg.drop dE).take (len*size)from afo]
          have ee:(c.toList.drop dE).take (len*size)=((c.toList.take sg.length).drop dE).take (len*size):=by
           rw[aGD,aGf,aFG qE]
          rw[ee];exact(e4.drop dE).take _
         have hlen:((c.toList.drop dE).take (len*size)++vs).length=(len+n)*size:=by
          rw[aEU,aFc,aFn,aGI,g2];omega
         have jZ:=l5 (P:=P) (w:=w) (e:=e) (size:=size) (n:=n) (need:=len+n) (sLen:=len) (sCap:=fy) (zeros:=zeros) (base:=some ⟨r,dE,none⟩) (s:=.slice (some ⟨r,dE,none⟩) len fy) (x:=x') (olds:=(c.toList.drop dE).take (len*size)) rfl qE d3' d2' hi hz g3
          (λw1 QN=>eh P w1 r dE (len*size) c tg (lo,fk) acZ qE)
         obtain⟨ρ',k1,k2⟩:=br.grown (e:=e) (sCap:=fy) hw hvo hlen hsz d1;refine⟨_,_,ρ',by rw[g4,jZ],k1,?_⟩;have:(((c.toList.drop dE).take (len*size)).toArray++vs.toArray)=((c.toList.drop dE).take (len*size)++vs).toArray:=uG
         rw[this];exact k2
       .split at h
        ·
          rename_i hg0 hg;have hg0:grow≠0:=by simpa using hg0
          simp only[aFl,aFw,aFs]at hg;obtain⟨rfl,rfl,rfl,kz,Hk⟩:=hg;cases h;obtain⟨f1,f2⟩:=c4 qE;have ho:dE=0:=c1 qE;subst ho
          have hvo:eK ρ (olds++tt) (c.toList.take (len*grow)++vs):=by
           refine eK.app ?_ g1;rw[show olds=(sg.drop 0).take (len*grow)from afo,aFr]
           have ee:c.toList.take (len*grow)=(c.toList.take sg.length).take (len*grow):=by
            rw[aGf,aFG qE]
           rw[ee];exact e4.take _
          have hlen:(c.toList.take (len*grow)++vs).length=(len+n)*grow:=by
           rw[aEU,aFc,aGI,g2];omega
          by_cases uP:len+n<=fy
          .have Ns:(len+n)*grow<=sz:=aGb (aFH _ uP) qE
           have Q0:∀v∈vs,v.oneCell'=true:=λv AK=>by
            obtain⟨j,hj,rfl⟩:=aFP AK;have:=g1.len▸hj;exact nw (g1.at' j tt[j] _ uG uG) (nv tt kz _ (aFj _))
           have hst:=gI P r (0+len*grow) tg lo fk vs 0 c w e1 e5 (by rw[g2];omega) Q0;have jg:=setRow_heap w r c (c.toList.take (0+len*grow+0)++vs++c.toList.drop (0+len*grow+0+vs.length)).toArray tg (lo,fk) e1
           have hcs:(c.toList.take (0+len*grow+0)++vs++c.toList.drop (0+len*grow+0+vs.length)).toArray.size=sz:=by
            simp only[aHh,aEU,aFc,aFn,aGI];omega
           have ij:∀b x,ρ b=some x->b≠st.nx:=λb x hx e=>aaC
           have Rk:ρ.le (ρ.set st.nx (r,sz)):=λq _ hq=>by rw[Ren.dA _ _ _ _ (ij q _ hq)];exact hq
           have Ha:(olds++tt).length=(len+n)*grow:=by rw[hvo.len,hlen]
           have TF:=BR.cells (ρ:=ρ) (olds++tt) tg true (c.toList.take (0+len*grow+0)++vs++c.toList.drop (0+len*grow+0+vs.length)).toArray lo fk (by rw[hcs,Ha];exact Ns)
            (by
             rw[Ha,show(c.toList.take (0+len*grow+0)++vs++c.toList.drop (0+len*grow+0+vs.length)).toArray.toList=c.toList.take (0+len*grow+0)++vs++c.toList.drop (0+len*grow+0+vs.length)from rfl];rw[aGj (by simpa using hlen)]
             simpa using hvo) ach (λh=>by cases h)
           rw[hcs]at TF;have ha:=br.move hw hm hr jg (TF.mono Rk) (λk hk=>nt w r _ k hk) (oW w r _) rfl rfl;refine⟨_,_,_,by rw[g4,l4 uP (g3 w rfl) (by rw[kF];exact hst)],?_,ha⟩;exact .nU _ _ 0 _ _ fy grow r sz (Ren.eN _ _ _) qE (aEQ _) uP (λ_=>rfl) qE
          .have jZ:=l5 (P:=P) (w:=w) (e:=tg) (size:=grow) (n:=n) (need:=len+n) (sLen:=len) (sCap:=fy) (zeros:=zeros) (base:=some ⟨r,0,none⟩) (s:=.slice (some ⟨r,0,none⟩) len fy) (x:=x') (olds:=c.toList.take (len*grow)) rfl qE d3' d2' hi hz g3
            (λw1 QN=>by
             have:=eh P w1 r 0 (len*grow) c tg (lo,fk) acZ qE;rw[aFr]at this;exact this)
           have hd:=br.drop hw b;obtain⟨ρ',k1,k2⟩:=br.grown (st:=st.drop b) (e:=tg) (sCap:=fy) hd.wr hvo hlen hsz d1;refine⟨_,_,ρ',by rw[g4,jZ],k1,?_⟩;have:((c.toList.take (len*grow)).toArray++vs.toArray)=(c.toList.take (len*grow)++vs).toArray:=uG
           rw[this];exact hd.trans k2
        .cases h
      .cases h
     .cases h
    .cases h
 .cases h
end
end
section
variable {t:List CV}{ty:TypeId}{x:CV}{x':Value}{e:TypeId}{i:TypeInfo}{y:CV}{y':Value}
def GH (x:CV):Option Nat:=match x with| .ae=>some 0| .slice _ _ len _ _=>some len| .str l=>some l.length|_=>none
def cellsOf (str:Bool)(size n:Nat)(x:CV)(st:St):Option (List CV):=
 bH str (match x with| .str l=>if n<=l.length then some ((l.take n).map bQ)else none|_=>none) (dN size n x st)
def B0 (s:List CV)(off:Nat)(t:List CV)(lim:Nat):Option (List CV):=
 if off<=s.length/\s.length<=off+t.length/\off+t.length<=lim then some (s.take off++t)else none
def gJ (str:Bool)(size:Nat)(d s:CV)(st:St):OR:=
 match d,GH s with
 | .ae,some _=>(match cellsOf str size 0 s st with|some _=>yQ .i64 st 0|none=>.bad)
 | .slice b off len cap grow,some m=>(λn=>
  (match cellsOf str size n s st with
  |some t=>bH (Nat.beq n 0) (yQ .i64 st 0)
   (bH (Bool.and (bj t) (Bool.or (Nat.beq grow 0) (Nat.ble 1 cap)))
    (match st.m.g b with
    |some (.cells s ty g)=>Option.rec (Option.rec .bad (λs'=>yQ .i64 ⟨st.m.put b (some (.cells s' ty g)),st.nx⟩ n) (B0 s off t (off+cap*grow))) (λs'=>yQ .i64 ⟨st.m.put b (some (.cells s' ty g)),st.nx⟩ n) (dY s off t)
    |_=>.bad) .bad)
  |none=>.bad)) (min m len)
 |_,_=>.bad
section
variable {P:Program} {ρ:Ren} {st st':St} {w:World} {v:CV}
def br.grow {b:Nat}{s s':List CV}{g:Bool}{off lim r sz:Nat}{vs:List Value}(h:WR ρ st w)
 (h1:st.m.g b=some (.cells s ty g)) (h2:ρ b=some (r,sz)) (hw:B0 s off t lim=some s') (afF:lim<=sz) (hv:eK ρ t vs) (ho:bj t=true):
 ∃w',(storeCells ⟨r,off,none⟩ vs).run P w=.ok () w'/\br ρ st w ρ (st.set b (.cells s' ty g)) w':=by
 obtain⟨c,lo,hi,e1,e2,e3,e4,e5⟩:=h.row h1 h2;unfold B0 at hw
 split at hw
 .rename_i hh;obtain⟨a1,Wb,a3'⟩:=hh;cases hw;have hlen:vs.length=t.length:=by rw[<-hv.len]
  have kz:∀v∈vs,v.oneCell'=true:=λv hm=>by
   obtain⟨i,fk,rfl⟩:=aFP hm;have:=hv.len▸fk;exact nw (hv.at' i t[i] _ uG uG) (nv t ho _ (aFj _))
  have jZ:=gI P r off ty lo hi vs 0 c w e1 e5 qE kz;refine⟨_,jZ,?_⟩
  have vG:(s.take off++t).length=off+t.length:=by
   rw[aEU,aFc];omega
  have jg:=setRow_heap w r c (c.toList.take (off+0)++vs++c.toList.drop (off+0+vs.length)).toArray ty (lo,hi) e1
  have hcs:(c.toList.take (off+0)++vs++c.toList.drop (off+0+vs.length)).toArray.size=sz:=by
   simp only[aHh,aEU,aFc,aFn,aGI];omega
  refine br.set h h1 h2 jg ?_ (λk hk=>nt w r _ k hk) (oW w r _) rfl rfl;have hb:=BR.cells (ρ:=ρ) (s.take off++t) ty g (c.toList.take (off+0)++vs++c.toList.drop (off+0+vs.length)).toArray lo hi (by rw[hcs,vG];omega) ?_ ach (h.YD h1 h2 e1)
  .rw[hcs]at hb;exact hb
  .rw[vG]
   have e:(c.toList.take (off+0)++vs++c.toList.drop (off+0+vs.length)).toArray.toList.take (off+t.length)=(c.toList.take s.length).take off++vs:=by
    simp only[aFC];rw[aGj (by simp only[aEU,aFc,aGI];omega),aGf,aFG a1]
   rw[e];exact(e4.take off).app hv
 .cases hw
def uU {str:Bool}{size n:Nat}(h:cellsOf str size n x st=some t)(hn:∀m,GH x=some m->n<=m)(hw:WR ρ st w)(hx:VR ρ x x')(hs:str=true->size=1):
 ∃vs,eK ρ t vs/\vs.length=n*size/\(Builtin.firstCells size n x').run P w=.ok vs.toArray w:=by
 unfold cellsOf at h;rw[aP]at h
 split at h
 .rename_i U7;have hs:=hs U7;subst hs
  split at h
  .rename_i l
   split at h
   .rename_i hle;cases h;cases hx;refine⟨((l.take n).map λy:UInt8=>Value.int .u8 (y.toNat:Int)),eK.bytes ρ _,vR,?_⟩
    .simp only[Builtin.firstCells,Sem.run_pure]
     congr 1
     apply Array.ext';rw[vY];simp[strB]
   .cases h
  .cases h
 .obtain⟨vs,g1,g2,g3⟩:=lY (P:=P) h (λe he ij=>by subst he;have:=hn 0 rfl;omega) hw hx;exact⟨vs,g1,g2,g3 w rfl⟩
def yk {str:Bool}{size:Nat}{dT sT:TypeId}{d s:CV}{d' s':Value}(h:gJ str size d s st=.ok v st')(hw:WR ρ st w)(hd:VR ρ d d')(hs:VR ρ s s')
 (hu:P.underlying dT=some (.slice e)) (hi:P.info? e=some i) (hsz:i.size=size) (h1:str=true->size=1):bK P (Builtin.copy_ #[dT,sT] ty #[d',s']) ρ st w v st':=by
 have ng:(Go.sizeOf e).run P w=.ok size w:=by simp[Go.sizeOf,typeInfo,hi,hsz]
 have hlen:∀m,GH s=some m->(Builtin.lenOf s').run P w=.ok m w:=λm hm=>by
  unfold GH at hm
  split at hm
  .cases hm;cases hs;rfl
  .cases hm;obtain⟨r,sz,dE,fy,rfl,_⟩:=hs.eW;rfl
  .cases hm;cases hs;simp[Builtin.lenOf]
  .cases hm
 unfold gJ at h
 split at h
 .rename_i m hm
  split at h
  .rename_i t ht;cases h;cases hd;obtain⟨vs,g1,g2,g3⟩:=uU (P:=P) ht (λ_ _=>aHt _) hw hs h1;refine bK.still hw ?_ (.int _ _);simp[Builtin.copy_,aEZ hu,hlen m hm,ng,g3,goInt]
  .cases h
 .rename_i b off len cap grow m hm;obtain⟨r,sz,dE,fy,rfl,hr,c1,c2,c3,c4⟩:=hd.eW;dsimp only at h
  split at h
  .rename_i t ht;obtain⟨vs,g1,g2,g3⟩:=uU (P:=P) ht (λm' AK=>by rw[hm]at AK;cases AK;exact Nat.min_le_left _ _) hw hs h1;simp only[aP,aFw,aFl,aFO,aFs]at h;have JU:Nat.min m len=min m len:=rfl
   split at h
   .rename_i h0;cases h;have hv:vs=[]:=by apply aFi.1;rw[g2,h0,Nat.zero_mul]
    subst hv;refine bK.still hw ?_ (.int _ _);rw[h0]at g3;simp[Builtin.copy_,aEZ hu,hlen m hm,JU,h0,ng,g3,goInt,storeCells]
   .rename_i h0
    split at h
    .rename_i hg
     have ho:dE=off:=by
      rcases hg.2 with hg|hg
      .exact(c3 hg).2
      .exact c1 qE
     subst ho
     split at h
     .rename_i sg tg gg uQ;cases wL:dY sg dE t with
      |none=>
       rw[wL]at h;dsimp only at h;cases hx:B0 sg dE t (dE+cap*grow)with
       |none=>rw[hx]at h;cases h
       |some s2=>
        rw[hx]at h;cases h
        by_cases hg0:grow=0
        .subst hg0;unfold B0 at hx
         split at hx
         .rename_i hh;exfalso;obtain⟨a1',Wb,a3'⟩:=hh;unfold dY at wL;rw[aEW qE]at wL;cases wL
         .cases hx
        .obtain⟨f1,f2⟩:=c4 qE
         have afF:dE+cap*grow<=sz:=by
          show dE+cap*grow<=sz;have:=aFH grow c2;omega
         obtain⟨w',k1,k2⟩:=br.grow (P:=P) hw uQ hr hx afF g1 hg.1;refine⟨_,w',ρ,?_,.int .i64 _,k2⟩;simp[Builtin.copy_,aEZ hu,hlen m hm,JU,ng,g3,k1,goInt]
      |some s2=>
       rw[wL]at h;cases h;obtain⟨w',k1,k2⟩:=br.write (P:=P) hw uQ hr wL g1 hg.1;refine⟨_,w',ρ,?_,.int .i64 _,k2⟩;simp[Builtin.copy_,aEZ hu,hlen m hm,JU,ng,g3,k1,goInt]
     .cases h
    .cases h
  .cases h
 .cases h
def sH (z:List CV)(x:CV)(st:St):OR:=
 match x with
 | .ae=>.ok .undef st
 | .slice b off len cap grow=>bH (Nat.beq len 0) (.ok .undef st)
  (bH (Bool.or (Nat.beq grow 0) (Nat.ble 1 cap))
   (match st.m.g b with
   |some (.cells s ty g)=>(λt=>bH (bj t) (Option.rec .bad (λs'=>.ok .undef ⟨st.m.put b (some (.cells s' ty g)),st.nx⟩) (dY s off t)) .bad) (cM len z)
   |_=>.bad) .bad)
 |_=>.bad
def Ed {t:TypeId}{z:List CV}{z':Value}(h:sH z x st=.ok v st')(hw:WR ρ st w)(hx:VR ρ x x')
 (hu:P.underlying t=some (.slice e)) (hi:P.info? e=some i) (hz:i.zero=some z') (xp:∀ρ,eK ρ z z'.cells.toList):bK P (Builtin.clear_ #[t] ty #[x']) ρ st w v st':=by
 have hun:VR ρ .undef (.tuple #[]):=.undef;have Tq:(zeroValue e).run P w=.ok z' w:=Yn
 unfold sH at h
 split at h
 .cases h;cases hx;exact bK.still hw (by simp[Builtin.clear_,aEZ hu]) hun
 .rename_i b off len cap grow;obtain⟨r,sz,dE,fy,rfl,hr,c1,c2,c3,c4⟩:=hx.eW;simp only[aP,aFw,aFO,aFs]at h
  split at h
  .rename_i h0;subst h0;cases h;exact bK.still hw (by simp[Builtin.clear_,aEZ hu]) hun
  .rename_i h0
   split at h
   .rename_i hg
    have ho:dE=off:=by
     rcases hg with hg|hg
     .exact(c3 hg).2
     .exact c1 qE
    subst ho
    split at h
    .rename_i sg tg gg hm
     split at h
     .rename_i kz;cases wL:dY sg dE (cM len z)with
      |none=>rw[wL]at h;cases h
      |some s2=>
       rw[wL]at h;cases h
       have hv:eK ρ (cM len z) (Builtin.zeroCells z'.cells len).toList:=by
        rw[Builtin.zeroCells,aGw,aHq,pT];exact(xp ρ).flatten len
       obtain⟨w',k1,k2⟩:=br.write (P:=P) hw hm hr wL hv kz;refine⟨_,w',ρ,?_,.undef,k2⟩;obtain⟨amM,rfl⟩:∃k,len=k+1:=⟨len-1,qE⟩;simp[Builtin.clear_,aEZ hu,Tq,k1]
     .cases h
    .cases h
   .cases h
 .cases h
def Cz (mx:Bool)(x y:CV)(st:St):OR:=
 match x,y with
 | .int k a,.int j b=>bH (decide (k=j)) (.ok (.int k (if mx then (if a<b then b else a)else (if b<a then b else a))) st) .bad
 |_,_=>.bad
def Cy {mx:Bool}{ats:Array TypeId}(h:Cz mx x y st=.ok v st')(hw:WR ρ st w)(hx:VR ρ x x')(hy:VR ρ y y'):
 bK P (bif mx then Builtin.max_ ats ty #[x',y']else Builtin.min_ ats ty #[x',y']) ρ st w v st':=by
 unfold Cz at h
 split at h
 .rename_i k a j b;rw[aP]at h
  split at h
  .rename_i hk;rw[GP]at hk;subst hk;cases h;cases hx;cases hy;refine bK.still hw ?_ (.int _ _);cases mx
   .simp only[cond_false,Builtin.min_,List.foldlM_cons,List.foldlM_nil,Builtin.min2,bind_pure,Sem.run_pure]
    rfl
   .simp only[cond_true,Builtin.max_,List.foldlM_cons,List.foldlM_nil,Builtin.max2,bind_pure,Sem.run_pure]
    rfl
  .cases h
 .cases h
def zM (x y:CV):Bool:=
 match x,y with
 | .bool a,.bool b=>a==b
 | .int j a,.int k b=>decide (j=k)&&decide (a=b)
 | .str a,.str b=>a==b
 |_,_=>false
def zN:List CV->List CV->Bool
 |[],[]=>true
 |v::r,u::t=>zM v u&&zN r t
 |_,_=>false
def uJ (x y:CV):Bool:=match x,y with| .agg s,.agg t=>zN s t|x,y=>zM x y
def ye (h:zM x y=true)(hx:VR ρ x x')(hy:VR ρ y y')(n:Nat):x'=y'/\Instr.sameBits n x' y'=true:=by
 unfold zM at h
 split at h
 .cases hx;cases hy;rw[beq_iff_eq]at h;subst h;exact⟨rfl,by simp[Instr.sameBits]⟩
 .simp only[aFl,aGa]at h;cases hx;cases hy;obtain⟨rfl,rfl⟩:=h;exact⟨rfl,by simp[Instr.sameBits]⟩
 .cases hx;cases hy;rw[beq_iff_eq]at h;subst h;exact⟨rfl,by simp[Instr.sameBits,beq_toListBytes]⟩
 .cases h
def FX (n:Nat):∀(s t:List CV) (l m:List Value),zN s t=true->eK ρ s l->eK ρ t m->l=m/\(l.zip m).all (λ(x,y)=>Instr.sameBits n x y)=true:=by
 intro s
 induction s with
 |nil=>
  intro t l m h h1 h2;cases t with
  |cons _ _=>simp[zN]at h
  |nil=>
   have a:=aFi.1 h1.len.symm;have b:=aFi.1 h2.len.symm;subst a;subst b;exact⟨rfl,rfl⟩
 |cons v r ih=>
  intro t l m h h1 h2;cases t with
  |nil=>simp[zN]at h
  |cons u r'=>
   simp only[zN,aFl]at h;obtain⟨v',l',rfl,a1,a2⟩:=eK.inv (l:=r) h1;obtain⟨u',m',rfl,b1,b2⟩:=eK.inv (l:=r') h2;obtain⟨rfl,s1⟩:=ye h.1 a1 b1 n;obtain⟨rfl,s2⟩:=ih r' l' m' h.2 a2 b2;exact⟨rfl,by simp only[List.zip_cons_cons,List.all_cons,s1,s2,Bool.and_true]⟩
def yf (h:uJ x y=true)(hx:VR ρ x x')(hy:VR ρ y y'):x'=y'/\Instr.sameBits 10000 x' y'=true:=by
 unfold uJ at h
 split at h
 .rename_i s t
  cases hx with|agg _ l hl hh=>cases hy with|agg _ m hm hh2=>
   obtain⟨rfl,h2⟩:=FX (ρ:=ρ) 9999 s t l m h ⟨hl,hh⟩ ⟨hm,hh2⟩;refine⟨rfl,?_⟩;show Instr.sameBits (9999+1) _ _=true;simp only[Instr.sameBits,beq_self_eq_true,aHz];exact h2
 .exact ye h hx hy 10000
end
end
section
variable {d:kj}{t:TypeId}{k:CV}{k':Value}{u:TypeDesc}{es':List MapEntry}{s:List CV}
abbrev eS:=CV×CV×Nat
def jP (d:kj)(k:CV)(es:List eS):Nat->Option (Option (Nat×CV)):=
 List.rec (motive:=λ_=>Nat->Option (Option (Nat×CV))) (λ_=>some none)
  (λe _ ih i=>Option.rec none (λb=>bH b (some (some (i,e.2.1))) (ih (Nat.succ i))) (lO d k e.1)) es
def Y5 (d:kj):Bool:=match d with| .bool| .int| .str| .bytes _=>true| .struct _| .array .. =>true|_=>false
def rL (d:kj)(k:CV):Bool:=Bool.and (Y5 d) (Option.rec false (λb=>b) (lO d k k))
section
variable {P:Program} {ρ:Ren} {st st':St} {w:World} {v:CV}
def iw:Nat->kj->Bool
 |0,_=>false
 |_+1,.bool=>true
 |_+1,.int=>true
 |_+1,.str=>true
 |_+1,.bytes _=>true
 |n+1,.struct fs=>L7 n fs
 |n+1,.array _ _ _ e=>iw n e
 |_+1,_=>false
where L7:Nat->Ye->Bool
 |0,_=>false
 |_+1,.nil=>true
 |n+1,.cons _ _ _ d r=>iw n d&&L7 n r
def xO (hf:E8 P w ρ d t 10000)(hk:VR ρ k k'):∀(es:List eS) (es':List MapEntry) (j:Nat) (r:Option (Nat×CV)),es.length=es'.length->
 (∀(i:Nat) (e:eS) (e':MapEntry),es[i]?=some e->es'[i]?=some e'->VR ρ e.1 e'.key/\VR ρ e.2.1 e'.val/\e.2.2=e'.born)->jP d k es j=some r->
 ∃r',(Instr.findAsking t k' es' j).run P w=.ok r' w/\(match r,r' with
  |none,none=>True
  |some (i,u),some (i',u')=>i=i'/\VR ρ u u'/\j<=i/\∃e e',es[i-j]?=some e/\es'[i-j]?=some e'/\e.2.1=u/\e'.val=u'
  |_,_=>False):=by
 intro es
 induction es with
 |nil=>
  intro es' j r hl h hc;have:es'=[]:=by apply aFi.1;simpa using hl.symm
  subst this;cases hc;exact⟨none,by simp[Instr.findAsking],aer⟩
 |cons e es ih=>
  intro es' j r hl h hc;cases es' with
  |nil=>simp at hl
  |cons e' es'=>
   obtain⟨a1,a2,a3⟩:=h 0 e e' rfl rfl;have e0:jP d k (e::es) j=Option.rec none (λb=>bH b (some (some (j,e.2.1))) (jP d k es (j+1))) (lO d k e.1):=rfl;rw[e0]at hc;cases hq:lO d k e.1 with
   |none=>rw[hq]at hc;cases hc
   |some b=>
    rw[hq]at hc;have hr:(Op.equal t k' e'.key).run P w=.ok b w:=hf k e.1 k' e'.key b hq hk a1;cases b with
    |true=>
     cases hc;exact⟨some (j,e'.val),by simp[Instr.findAsking,hr],rfl,a2,aEQ _,e,e',uG,uG,rfl,rfl⟩
    |false=>
     obtain⟨r',r1,r2⟩:=ih es' (j+1) r adf (λi x x' hx BN=>h (i+1) x x' O5 (by simpa using BN)) hc;refine⟨r',by simp[Instr.findAsking,hr,r1],?_⟩;cases r with
     |none=>cases r' with
      |none=>trivial
      |some _=>exact r2
     |some p=>cases r' with
      |none=>exact r2
      |some p'=>
       obtain⟨i,u⟩:=p;obtain⟨i',u'⟩:=p';obtain⟨b1,b2,b3,x,x',b4,b5,b6,b7⟩:=r2;refine⟨b1,b2,qE,x,x',?_,?_,b6,b7⟩
       .rw[show i-j=(i-(j+1))+1 from qE];simpa using b4
       .rw[show i-j=(i-(j+1))+1 from qE];simpa using b5
def uI {a b:Value}{q:Bool}(hu:P.underlying t=some u)(h:Instr.sameNow u a b=some q):(Op.equal t a b).run P w=.ok q w:=by
 unfold Instr.sameNow at h
 split at h
 .split at h
  .rename_i hk;cases h;subst hk;exact run_equalIn_int w 9999 t _ _ _ _ hu
  .cases h
 .cases h;rename_i x y;rw[beq_toListBytes];exact run_equalIn_string w 9999 t x y hu
 .cases h;exact run_equalIn_bool' w 9999 t _ _ hu
 .cases h
def AX (hu:P.underlying t=some u):∀(es':List MapEntry) (j:Nat) (r:Option (Nat×Value)),Instr.findNow u k' es' j=some r->(Instr.findAsking t k' es' j).run P w=.ok r w:=by
 intro es'
 induction es' with
 |nil=>intro j r h;cases h;simp[Instr.findAsking]
 |cons e es' ih=>
  intro j r h;simp only[Instr.findNow]at h
  split at h
  .rename_i hs;cases h;simp[Instr.findAsking,uI hu hs]
  .rename_i hs;simp[Instr.findAsking,uI hu hs,ih _ _ h]
  .cases h
def Hw {r:Option (Nat×Value)}(hu:P.underlying t=some u)(h:(Instr.findAsking t k' es' 0).run P w=.ok r w):(Instr.findKey t k' es').run P w=.ok r w:=by
 simp only[Instr.findKey,Sem.run_bind,aEZ hu,Result.andThen_ok];cases hn:Instr.findNow u k' es' 0 with
 |none=>exact h
 |some r'=>
  have:=AX (P:=P) (w:=w) hu es' 0 r' hn;rw[this]at h;cases h;rfl
def mh {f:Nat}{es:List eS}{r:Option (Nat×CV)}(hd:fZ P f t=some d)(hf:f<10000)(hk:VR ρ k k')(hl:es.length=es'.length)
 (h:∀(i:Nat) (e:eS) (e':MapEntry),es[i]?=some e->es'[i]?=some e'->VR ρ e.1 e'.key/\VR ρ e.2.1 e'.val/\e.2.2=e'.born) (hc:jP d k es 0=some r):
 ∃r',(Instr.findKey t k' es').run P w=.ok r' w/\(match r,r' with
  |none,none=>True
  |some (i,u),some (i',u')=>i=i'/\VR ρ u u'/\∃e e',es[i]?=some e/\es'[i]?=some e'/\e.2.1=u/\e'.val=u'
  |_,_=>False):=by
 obtain⟨r',h1,h2⟩:=xO (P:=P) (w:=w) (Sh f t d hd 10000 hf) hk es es' 0 r hl h hc
 have hu:∃u,P.underlying t=some u:=by
  cases f with
  |zero=>cases hd
  |succ f=>
   simp only[fZ]at hd;cases hu:P.underlying t with
   |none=>rw[hu]at hd;cases hd
   |some u=>exact⟨u,rfl⟩
 obtain⟨u,hu⟩:=hu;refine⟨r',Hw hu h1,?_⟩;cases r with
 |none=>cases r'<;>exact h2
 |some p=>cases r' with
  |none=>exact h2
  |some p'=>
   obtain⟨i,u⟩:=p;obtain⟨i',u'⟩:=p';obtain⟨b1,b2,b3,x,x',b4,b5,b6,b7⟩:=h2;exact⟨b1,b2,x,x',by simpa using b4,by simpa using b5,b6,b7⟩
def Wg (P:Program)(w:World)(ρ:Ren)(d:kj)(t:TypeId)(n:Nat):Prop:=
 ∀(e:Bool) (x:CV) (x':Value),lO d x x=some true->VR ρ x x'->(Instr.checkKey e n t x').run P w=.ok () w
def xf {a b:Option Bool}(h:andThen a b=some true):a=some true/\b=some true:=by
 cases a with
 |none=>cases h
 |some q=>cases q with
  |false=>cases h
  |true=>exact⟨rfl,h⟩
def NW {len size:Nat}{agg:Bool}{e:kj}:∀(off:Nat),Nat.rec (motive:=λ_=>Nat->Option Bool) (λ_=>some true)
        (λ_ ih off=>Option.rec none (λa=>Option.rec none (λb=>andThen (lO e a b) (ih (Nat.add off size))) (iB agg off size s)) (iB agg off size s)) len off=some true->
 ∀j,j<len->∃x,iB agg (off+j*size) size s=some x/\lO e x x=some true:=by
 induction len with
 |zero=>intro off _ j hj;omega
 |succ len ih=>
  intro off h j hj;simp only at h;cases hx:iB agg off size s with
  |none=>rw[hx]at h;cases h
  |some x=>
   rw[hx]at h;obtain⟨a1,a2⟩:=xf h;cases j with
   |zero=>exact⟨x,O5,a1⟩
   |succ j=>
    obtain⟨y,b1,b2⟩:=ih (off+size) a2 j qE;exact⟨y,by rw[<-b1];congr 1;rw[Nat.succ_mul];omega,b2⟩
def NV {desc:TypeId->Option kj}:∀(fs:List Field) (r:Ye),py P desc fs=some r->yX r s s=some true->
 ∀f∈fs,f.name≠ "_" /\∃i u d x,P.info? f.type=some i/\P.underlying f.type=some u/\desc f.type=some d/\iB (iF u) f.offset i.size s=some x/\lO d x x=some true:=by
 intro fs
 induction fs with
 |nil=>intro r _ _ f hf;cases hf
 |cons g fs ih=>
  intro r h hb f hf;simp only[py]at h
  split at h
  .rename_i i u d r' ij hi hu hd hr;cases h;simp only[yX]at hb;cases hx:iB (iF u) g.offset i.size s with
   |none=>rw[hx]at hb;cases hb
   |some x=>
    rw[hx]at hb;obtain⟨a1,a2⟩:=xf hb;rcases aEP.1 hf with rfl|hf
    .exact⟨abR,i,u,d,x,hi,hu,hd,hx,a1⟩
    .exact ih r' hr a2 f hf
  .cases h
def UZ:∀(f:Nat) (t:TypeId) (d:kj),fZ P f t=some d->∀m,iw m d=true->∀n,f<n->Wg P w ρ d t n:=by
 intro f
 induction f with
 |zero=>intro t d h;cases h
 |succ f ih=>
  intro t d h m hm n hn e x x' hx hv;obtain⟨n,rfl⟩:∃k,n=k+1:=⟨n-1,qE⟩;simp only[fZ]at h
  split at h
  .rename_i hu;simp[Instr.checkKey,aEZ hu]
  .rename_i k hu;simp[Instr.checkKey,aEZ hu]
  .rename_i hu;simp[Instr.checkKey,aEZ hu]
  .rename_i hu;simp[Instr.checkKey,aEZ hu]
  .cases h;cases m<;>simp[iw]at hm
  .rename_i hu;simp[Instr.checkKey,aEZ hu]
  .rename_i hu;simp[Instr.checkKey,aEZ hu]
  .rename_i hu;simp[Instr.checkKey,aEZ hu]
  .rename_i fs hu;rw[aP]at h
   split at h
   .cases h
   .split at h
    .rename_i l hl;cases h;simp only[lO]at hx
     split at hx
     .rename_i s1;cases hv with
      |agg _ lv hlv hh=>
       cases m with
       |zero=>cases hm
       |succ m=>
        have eU:=NV (P:=P) fs.toList l hl hx;simp only[Instr.checkKey,Sem.run_bind,aEZ hu,Result.andThen_ok];rw[<-Array.forIn_toList]
        have LP:∀(q:Nat) (r:Ye) (fl:List Field),py P (fZ P f) fl=some r->iw.L7 q r=true->∀g∈fl,∀d',fZ P f g.type=some d'->∃q',iw q' d'=true:=by
         intro q
         induction q with
         |zero=>intro r fl _ hq;cases hq
         |succ q ihq=>
          intro r fl hr hq g hg d' Fh;cases fl with
          |nil=>cases hg
          |cons g0 fl=>
           simp only[py]at hr
           split at hr
           .rename_i i0 u0 d0 r0 azv Xy Zu hd0 rM;cases hr;simp only[iw.L7,aFl]at hq;rcases aEP.1 hg with rfl|hg
            .rw[hd0]at Fh;cases Fh;exact⟨q,hq.1⟩
            .exact ihq r0 fl rM hq.2 g hg d' Fh
           .cases hr
        have hg:∀g∈fs.toList,g.name≠ "_" /\∃y',(part g.type lv.toArray g.offset).run P w=.ok y' w/\(Instr.checkKey e n g.type y').run P w=.ok () w:=by
         intro g hgm;obtain⟨h1,i,u,d',y,h2,h3,h4,h5,h6⟩:=eU g hgm;obtain⟨y',p1,p2⟩:=iQ (P:=P) (w:=w) h5 ⟨hlv,hh⟩ h2 rfl h3 rfl;obtain⟨q',hq'⟩:=LP m l fs.toList hl hm g hgm d' h4;exact⟨h1,y',p1,ih g.type d' h4 q' hq' n qE e y y' h6 p2⟩
        generalize fs.toList=ll at hg;refine Eq.trans (congrArg (λr:Result PUnit=>r.andThen _) (?_:_=Result.ok PUnit.unit w)) rfl
        induction ll with
        |nil=>rfl
        |cons g ll ihl=>
         obtain⟨h1,y',p1,p2⟩:=hg g uG;rw[List.forIn_cons];simp only[ne_eq,h1,not_false_eq_true,aFm,Sem.run_bind,p1,p2,Result.andThen_ok,Sem.run_pure];exact ihl (λg' hg'=>hg g' (by simp[hg']))
     .cases hx
    .cases h
  .rename_i len el hu
   split at h
   .rename_i i hi Ot;rw[aP]at h
    split at h
    .rename_i h1;rw[aFw]at h1;cases h;simp only[lO]at hx
     split at hx
     .rename_i n1 sl;cases hub:Io sl with
      |none=>rw[hub]at hx;cases hx
      |some a=>
      rw[hub]at hx;dsimp only at hx;rw[aP]at hx
      split at hx
      .rename_i hq;simp only[aFl,aGa]at hq;obtain⟨rfl,_⟩:=hq;have e1:=vW hub;subst e1;rw[hv.tY];have hs:(Go.sizeOf el).run P w=.ok 1 w:=by simp[Go.sizeOf,typeInfo,hi,h1]
       simp only[Instr.checkKey,Sem.run_bind,aEZ hu,Result.andThen_ok,Std.Legacy.Range.forIn_eq_forIn_range',Std.Legacy.Range.size,Nat.sub_zero,Nat.add_one_sub_one,Nat.div_one];obtain⟨n',rfl⟩:∃k,n=k+1:=⟨n-1,qE⟩;refine Eq.trans (congrArg (λr:Result PUnit=>r.andThen _) (?_:_=Result.ok PUnit.unit w)) rfl;have hl:∀j∈List.range' 0 a.length 1,j<a.length:=λj hj=>acB
       generalize List.range' 0 a.length 1=ll at hl
       induction ll with
       |nil=>rfl
       |cons j ll ihl=>
        have hj:=hl j uG
        have hp:(part el (a.map Extern.Stop.cell).toArray (j*1)).run P w=.ok (Extern.Stop.cell (a[j]' acw)) w:=by
         simp[part,isAgg,aEZ Ot,hj]
        rw[List.forIn_cons];simp only[Sem.run_bind,hs,hp,Result.andThen_ok,Instr.checkKey,aEZ Ot,Sem.run_pure];exact ihl (λj' hj'=>hl j' (by simp[hj']))
      .cases hx
     .cases hx
    .cases h
   .rename_i i u ij hi Ot
    split at h
    .rename_i d' hd;cases h;simp only[lO]at hx
     split at hx
     .rename_i s1;cases hv with
      |agg _ lv hlv hh=>
       cases m with
       |zero=>cases hm
       |succ m=>
        have AK:iw m d'=true:=hm;have hs:(Go.sizeOf el).run P w=.ok i.size w:=ack
        have eU:=NW (s:=s1) 0 hx;simp only[Instr.checkKey,Sem.run_bind,aEZ hu,Result.andThen_ok,Std.Legacy.Range.forIn_eq_forIn_range',Std.Legacy.Range.size,Nat.sub_zero,Nat.add_one_sub_one,Nat.div_one];refine Eq.trans (congrArg (λr:Result PUnit=>r.andThen _) (?_:_=Result.ok PUnit.unit w)) rfl;have hl:∀j∈List.range' 0 len 1,j<len:=λj hj=>acB
        generalize List.range' 0 len 1=ll at hl
        induction ll with
        |nil=>rfl
        |cons j ll ihl=>
         have hj:=hl j uG;obtain⟨y,b1,b2⟩:=eU j hj;rw[aER]at b1;obtain⟨y',p1,p2⟩:=iQ (P:=P) (w:=w) b1 ⟨hlv,hh⟩ hi rfl Ot rfl;have:=ih el d' hd m AK n qE e y y' b2 p2;rw[List.forIn_cons];simp only[Sem.run_bind,hs,p1,this,Result.andThen_ok,Sem.run_pure];exact ihl (λj' hj'=>hl j' (by simp[hj']))
     .cases hx
    .cases h
   .cases h
  .cases h
end
end
section
variable {e:eS}{es:List eS}{es':List MapEntry}{f:Nat}{d:kj}{t:TypeId}{m:Nat}{k:CV}{k':Value}{a:Int}{z:CV}{kt et:TypeId}{i:TypeInfo}{z':Value}{x:CV}{x':Value}{es2:List eS}{clock clock2 r sz:Nat}{es2':List MapEntry}{o:Obj}{r0:Nat}{y:CV}{y':Value}
def vJ (x:CV)(st:St):Option (List eS):=
 match x with
 | .fY=>some []
 | .map b=>(match st.m.g b with|some (.map es _)=>some es|_=>none)
 |_=>none
def oo (x:CV)(st:St):Option (List eS):=
 match x with
 | .map b=>(match st.m.g b with|some (.lmap es)=>some es|_=>none)
 |_=>none
def Ev (a:Int)(v:CV):Bool:=match v with| .int .i64 n=>zeq a n|_=>false
def wF (a:Int)(es:List eS):Option CV:=List.rec (motive:=λ_=>Option CV) none (λe _ ih=>bH (Ev a e.1) (some e.2.1) ih) es
def rb (a:Int)(x:CV)(es:List eS):List eS:=List.rec (motive:=λ_=>List eS) [] (λe _ ih=>bH (Ev a e.1) ((e.1,x,e.2.2)::ih) (e::ih)) es
def JJ (d:kj)(k:CV):Option Int:=match d,k with| .int,.int .i64 a=>some a|_,_=>none
def wi (d:kj)(z:CV)(ok:Bool)(es:List eS)(k:CV)(st:St):OR:=
 match JJ d k with
 |some a=>(match wF a es with
  |some u=>bH ok (.ok (.tuple [u,.bool true]) st) (.ok u st)
  |none=>bH ok (.ok (.tuple [z,.bool false]) st) (.ok z st))
 |none=>.bad
def gN (d:kj)(z:CV)(ok:Bool)(x k:CV)(st:St):OR:=
 bH (rL d k) (match oo x st with
  |some es=>wi d z ok es k st
  |none=>(match vJ x st with
  |some es=>(match jP d k es 0 with
   |some (some (_,u))=>bH ok (.ok (.tuple [u,.bool true]) st) (.ok u st)
   |some none=>bH ok (.ok (.tuple [z,.bool false]) st) (.ok z st)
   |none=>.bad)
  |none=>.bad)) .bad
def yl (es:List eS)(i:Nat)(e:eS):List eS:=
 List.rec (motive:=λ_=>Nat->List eS) (λ_=>[]) (λx r ih i=>Nat.rec (e::r) (λj _=>x::ih j) i) es i
def Da (es:List eS)(i:Nat):Option eS:=List.rec (motive:=λ_=>Nat->Option eS) (λ_=>none) (λx _ ih i=>Nat.rec (some x) (λj _=>ih j) i) es i
def HE (es:List eS)(i:Nat):List eS:=
 List.rec (motive:=λ_=>Nat->List eS) (λ_=>[]) (λx r ih i=>Nat.rec r (λj _=>x::ih j) i) es i
def Ae (d:kj)(b:Nat)(es:List eS)(k x:CV)(st:St):OR:=
 match JJ d k with
 |some a=>(match wF a es with
  |some _=>.ok .undef ⟨st.m.put b (some (.lmap (rb a x es))),st.nx⟩
  |none=>.ok .undef ⟨st.m.put b (some (.lmap (es++[(k,x,0)]))),st.nx⟩)
 |none=>.bad
def dO (d:kj)(m k x:CV)(st:St):OR:=
 bH (rL d k) (match m with
  | .map b=>(match st.m.g b with
    |some (.lmap es)=>Ae d b es k x st
    |some (.map es clock)=>(match jP d k es 0 with
     |some (some (i,_))=>(match Da es i with
      |some (k0,_,born)=>bH (uJ k0 k) (.ok .undef ⟨st.m.put b (some (.map (yl es i (k,x,born)) clock)),st.nx⟩) .bad
      |none=>.bad)
     |some none=>oJ (Nat.succ clock) λc=>.ok .undef ⟨st.m.put b (some (.map (es++[(k,x,clock)]) c)),st.nx⟩
     |none=>.bad)
    |_=>.bad)
  |_=>.bad) .bad
def fN (d:kj)(z:CV)(m k:CV)(st:St):OR:=
 bH (rL d k) (match m with
  | .map b=>(match st.m.g b with
    |some (.map es clock)=>(match jP d k es 0 with
     |some (some (i,u))=>(match Da es i with
      |some (k0,_,born)=>bH (uJ k0 k) (.ok (.tuple [u,.int .i64 (.ofNat born)]) ⟨st.m.put b (some (.map (yl es i (k,u,born)) clock)),st.nx⟩) .bad
      |none=>.bad)
     |some none=>oJ (Nat.succ clock) λc=>.ok (.tuple [z,.int .i64 (.ofNat clock)]) ⟨st.m.put b (some (.map (es++[(k,z,clock)]) c)),st.nx⟩
     |none=>.bad)
    |_=>.bad)
  |_=>.bad) .bad
def tn (born:Nat)(es:List eS):Nat->Option (Nat×eS):=
 List.rec (motive:=λ_=>Nat->Option (Nat×eS)) (λ_=>none) (λx _ ih i=>bH (Nat.beq x.2.2 born) (some (i,x)) (ih (Nat.succ i))) es
def dX (m s x:CV)(st:St):OR:=
 match m,s with
 | .map b,.int _ (.ofNat born)=>(match st.m.g b with
   |some (.map es clock)=>(match tn born es 0 with
    |some (i,(k,_,bn))=>.ok .undef ⟨st.m.put b (some (.map (yl es i (k,x,bn)) clock)),st.nx⟩
    |none=>.bad)
   |_=>.bad)
 |_,_=>.bad
def pj (d:kj)(m k:CV)(st:St):OR:=
 bH (rL d k) (match m with
  | .fY=>.ok .undef st
  | .map b=>(match st.m.g b with
    |some (.map es clock)=>(match jP d k es 0 with
     |some (some (i,_))=>.ok .undef ⟨st.m.put b (some (.map (HE es i) clock)),st.nx⟩
     |some none=>.ok .undef st
     |none=>.bad)
    |_=>.bad)
  |_=>.bad) .bad
def jG (r:Option CV)(st:St):OR:=
 match r with
 |none|some (.int _ _)=>oJ (st.nx+1) λn=>.ok (.map st.nx) ⟨st.m.put st.nx (some (.map [] 0)),n⟩
 |_=>.bad
section
variable {P:Program} {ρ:Ren} {st st':St} {w:World} {v:CV}
def rC (ρ:Ren)(es:List eS)(es':List MapEntry):Prop:=
 es.length=es'.length/\∀(i:Nat) (e:eS) (e':MapEntry),es[i]?=some e->es'[i]?=some e'->VR ρ e.1 e'.key/\VR ρ e.2.1 e'.val/\e.2.2=e'.born
def rC.nil:rC ρ [] []:=⟨rfl,λi e e' h=>Pa⟩
def rC.cons {e':MapEntry}(h:VR ρ e.1 e'.key/\VR ρ e.2.1 e'.val/\e.2.2=e'.born)(t:rC ρ es es'):rC ρ (e::es) (e'::es'):=
 ⟨by simp[t.1],λi x x' a b=>by
  cases i with
  |zero=>simp at a b;subst a;subst b;exact h
  |succ i=>exact t.2 i x x' acH adZ⟩
def rC.inv (h:rC ρ (e::es) es'):∃e' t',es'=e'::t'/\(VR ρ e.1 e'.key/\VR ρ e.2.1 e'.val/\e.2.2=e'.born)/\rC ρ es t':=by
 cases es' with
 |nil=>have:=h.1;simp at this
 |cons e' t'=>exact⟨e',t',rfl,h.2 0 e e' rfl rfl,by have:=h.1;simpa using this,λi x x' a b=>h.2 (i+1) x x' acH adZ⟩
def rC.app {fs:List eS}{fs':List MapEntry}(h:rC ρ es es')(t:rC ρ fs fs'):rC ρ (es++fs) (es'++fs'):=by
 induction es generalizing es' with
 |nil=>have:es'=[]:=by have:=h.1;simpa using this.symm
       subst this;exact t
 |cons e es ih=>obtain⟨e',t',rfl,h1,h2⟩:=h.inv;exact rC.cons h1 (ih h2)
def rC.mod {f:MapEntry->MapEntry}:∀{es:List eS} {es':List MapEntry} (i:Nat),rC ρ es es'->(∀e',es'[i]?=some e'->VR ρ e.1 (f e').key/\VR ρ e.2.1 (f e').val/\e.2.2=(f e').born)->rC ρ (yl es i e) (es'.modify i f):=by
 intro es
 induction es with
 |nil=>
  intro es' i h _;have:es'=[]:=by have:=h.1;simpa using this.symm
  subst this;rw[List.modify_nil];exact h
 |cons x es ih=>
  intro es' i h hf;obtain⟨x',t',rfl,h1,h2⟩:=h.inv;cases i with
  |zero=>
   show rC ρ (e::es) _;rw[List.modify_zero_cons];exact rC.cons (hf x' rfl) h2
  |succ i=>
   show rC ρ (x::yl es i e) _;rw[List.modify_succ_cons];exact rC.cons h1 (ih i h2 (λe' he=>hf e' aaT))
def rC.del:∀{es:List eS} {es':List MapEntry} (i:Nat),rC ρ es es'->rC ρ (HE es i) (es'.eraseIdx i):=by
 intro es
 induction es with
 |nil=>
  intro es' i h;have:es'=[]:=by have:=h.1;simpa using this.symm
  subst this;rw[List.eraseIdx_nil];exact h
 |cons x es ih=>
  intro es' i h;obtain⟨x',t',rfl,h1,h2⟩:=h.inv;cases i with
  |zero=>exact h2
  |succ i=>
   show rC ρ (x::HE es i) _;rw[List.eraseIdx_cons_succ];exact rC.cons h1 (ih i h2)
def HA:∀(es:List eS) (i:Nat),Da es i=es[i]?:=by
 intro es
 induction es with
 |nil=>intro i;rfl
 |cons x es ih=>intro i;cases i with
  |zero=>rfl
  |succ i=>show Da es i=_;rw[ih];simp
def mI (h:rL d k=true)(hd:fZ P f t=some d)(hf:f<10000)(hm:iw m d=true)(hk:VR ρ k k')(e:Bool):(Instr.checkKey e 10000 t k').run P w=.ok () w:=by
 unfold rL at h;simp only[aFl]at h
 have:lO d k k=some true:=by
  cases hc:lO d k k with
  |none=>rw[hc]at h;cases h.2
  |some b=>rw[hc]at h;rw[show b=true from h.2]
 exact UZ f t d hd m hm 10000 hf e k k' this hk
def eK.two {a b:CV}{a' b':Value}(ha:VR ρ a a')(hb:VR ρ b b'):eK ρ [a,b] [a',b']:=eK.cons ha (eK.cons hb (eK.nil ρ))
def pw {v:CV}:Ev a v=true↔v=.int .i64 a:=by
 unfold Ev
 split
 .rw[zb];constructor
  .intro h;rw[h]
  .intro h;cases h;rfl
 .rename_i h;constructor
  .intro hh;cases hh
  .intro hh;subst hh;exact(h _ rfl).elim
def CG (a:Int)(e:eS)(es:List eS):wF a (e::es)=bH (Ev a e.1) (some e.2.1) (wF a es):=rfl
def M6 (a:Int)(x:CV)(e:eS)(es:List eS):rb a x (e::es)=bH (Ev a e.1) ((e.1,x,e.2.2)::rb a x es) (e::rb a x es):=rfl
def om (a:Int)(x:CV)(es:List eS):rb a x es=es.map λe=>if Ev a e.1=true then (e.1,x,e.2.2)else e:=by
 induction es with
 |nil=>rfl
 |cons e es ih=>
  rw[M6,aFv,<-ih,aP]
  split<;>rfl
def xH :∀{es:List eS} {u:CV},wF a es=some u->∃e∈es,e.1=.int .i64 a/\e.2.1=u:=by
 intro es
 induction es with
 |nil=>intro u h;cases h
 |cons e es ih=>
  intro u h;rw[CG,aP]at h
  split at h
  .rename_i hh;cases h;exact⟨e,aFT ..,pw.1 hh,rfl⟩
  .obtain⟨e',h1,h2⟩:=ih h;exact⟨e',aFE _ h1,h2⟩
def tL :∀{es:List eS},wF a es=none->∀e∈es,e.1≠ .int .i64 a:=by
 intro es
 induction es with
 |nil=>intro _ e he;cases he
 |cons e es ih=>
  intro h x hx;rw[CG,aP]at h
  split at h
  .cases h
  .rename_i hh;rcases aEP.1 hx with rfl|hx
   .exact λhh'=>hh (pw.2 hh')
   .exact ih h x hx
def MY (hn:(es.map (·.1)).Nodup){f:eS}(he:e∈es)(hf:f∈es)(h:e.1=f.1):e=f:=by
 induction es with
 |nil=>cases he
 |cons x es ih=>
  rw[aFv,aFd]at hn;rcases aEP.1 he with J7|J7
  .rcases aEP.1 hf with hf1|hf1
   .rw[J7,hf1]
   .exact absurd (by rw[<-J7,h];exact aFX (f:=(·.1)) hf1) hn.1
  .rcases aEP.1 hf with hf1|hf1
   .exact absurd (by rw[<-hf1,<-h];exact aFX (f:=(·.1)) J7) hn.1
   .exact ih hn.2 J7 hf1
def yo {l:List eS}(hd:fZ P f t=some .int)(hf:f<10000)(hk:VR ρ (.int .i64 a) k')(hi:∀e∈l,∃n:Int,e.1=.int .i64 n)(hl:l.length=es'.length)
 (h:∀(i:Nat) (e:eS) (e':MapEntry),l[i]?=some e->es'[i]?=some e'->VR ρ e.1 e'.key/\VR ρ e.2.1 e'.val):
 ∃r',(Instr.findKey t k' es').run P w=.ok r' w/\(match r' with
  |none=>∀e∈l,e.1≠ .int .i64 a
  |some (j,u')=>∃e e',l[j]?=some e/\es'[j]?=some e'/\e.1=.int .i64 a/\e'.val=u'):=by
 have key:∀(l:List eS) (i:Nat),(∀e∈l,∃n:Int,e.1=.int .i64 n)->
  (∃j e,l[j]?=some e/\e.1=.int .i64 a/\jP .int (.int .i64 a) l i=some (some (i+j,e.2.1)))\/((∀e∈l,e.1≠ .int .i64 a)/\jP .int (.int .i64 a) l i=some none):=by
  intro l
  induction l with
  |nil=>intro i _;exact .inr ⟨λe he=>(by cases he),rfl⟩
  |cons e l ih=>
   intro i hi;obtain⟨n,hn⟩:=hi e (aFT ..);have e0:jP .int (.int .i64 a) (e::l) i=Option.rec none (λb=>bH b (some (some (i,e.2.1))) (jP .int (.int .i64 a) l (Nat.succ i))) (lO .int (.int .i64 a) e.1):=rfl;rw[e0,hn];have e1:lO .int (.int .i64 a) (.int .i64 n)=some (zeq a n):=rfl;rw[e1];dsimp only;rw[aP]
   by_cases hz:zeq a n=true
   .rw[aEW hz];have:=(zb a n).1 hz;subst this;exact .inl ⟨0,e,rfl,hn,rfl⟩
   .rw[aET hz];rcases ih (i+1) (λe he=>hi e (aFE _ he))with⟨j,e',h1,h2,h3⟩|⟨h1,h2⟩
    .exact .inl ⟨j+1,e',O8,h2,by rw[show i+(j+1)=i+1+j from qE];exact h3⟩
    .refine .inr ⟨λx hx=>?_,h2⟩;rcases aEP.1 hx with rfl|hx
     .rw[hn];intro hh;cases hh;exact hz ((zb _ _).2 rfl)
     .exact h1 x hx
 have hlz:∀(i:Nat) (e:eS) (e':MapEntry),(List.zipWith (λ(e:eS) (e':MapEntry)=>((e.1,e.2.1,e'.born):eS)) l es')[i]?=some e->es'[i]?=some e'->∃e0,l[i]?=some e0/\e=(e0.1,e0.2.1,e'.born):=by
  intro i e e' h1 h2;rw[List.getElem?_zipWith]at h1;cases h3:l[i]? with
  |none=>rw[h3]at h1;simp at h1
  |some e0=>rw[h3,h2]at h1;simp at h1;exact⟨e0,rfl,h1.symm⟩
 have hzi:∀e∈List.zipWith (λ(e:eS) (e':MapEntry)=>((e.1,e.2.1,e'.born):eS)) l es',∃n:Int,e.1=.int .i64 n:=by
  intro e he;obtain⟨i,fk,rfl⟩:=aFP he;have hlt:i<es'.length:=by simp at fk;omega
  obtain⟨e0,g1,g2⟩:=hlz i _ es'[i] (aES fk) (aES hlt);rw[g2];exact hi e0 (aFJ g1)
 have hlen:(List.zipWith (λ(e:eS) (e':MapEntry)=>((e.1,e.2.1,e'.born):eS)) l es').length=es'.length:=by simp[hl]
 have Xm:∀(i:Nat) (e:eS) (e':MapEntry),(List.zipWith (λ(e:eS) (e':MapEntry)=>((e.1,e.2.1,e'.born):eS)) l es')[i]?=some e->es'[i]?=some e'->VR ρ e.1 e'.key/\VR ρ e.2.1 e'.val/\e.2.2=e'.born:=by
  intro i e e' h1 h2;obtain⟨e0,g1,g2⟩:=hlz i e e' h1 h2;obtain⟨g3,g4⟩:=h i e0 e' g1 h2;rw[g2];exact⟨g3,g4,rfl⟩
 rcases key _ 0 hzi with⟨j,e,h1,h2,h3⟩|⟨h1,h2⟩
 .obtain⟨r',f1,f2⟩:=mh (P:=P) (w:=w) hd hf hk hlen Xm h3;cases r' with
  |none=>exact f2.elim
  |some p=>
   obtain⟨j',u'⟩:=p;obtain⟨rfl,g2,e1,e',g3,g4,g5,g6⟩:=f2;rw[aER]at g3 g4 f1;obtain⟨e0,k1,k2⟩:=hlz j e1 e' g3 g4;rw[h1]at g3;cases g3;refine⟨_,f1,e0,e',k1,g4,?_,g6⟩;rw[k2]at h2;exact h2
 .obtain⟨r',f1,f2⟩:=mh (P:=P) (w:=w) hd hf hk hlen Xm h2;cases r' with
  |some p=>exact f2.elim
  |none=>
   refine⟨_,f1,λe he=>?_⟩;obtain⟨i,fk,rfl⟩:=aFP he;have hlt:i<es'.length:=qE
   have hm:(List.zipWith (λ(e:eS) (e':MapEntry)=>((e.1,e.2.1,e'.born):eS)) l es')[i]?=some (l[i].1,l[i].2.1,es'[i].born):=by
    rw[List.getElem?_zipWith,aES fk,aES hlt]
   exact h1 (l[i].1,l[i].2.1,es'[i].born) (aFJ hm)
def BG {ok:Bool}(h:gN d z ok x k st=.ok v st')(hw:WR ρ st w)(hx:VR ρ x x')(hk:VR ρ k k')
 (hu:P.underlying t=some (.map kt et)) (hd:fZ P f kt=some d) (hf:f<10000) (hm:iw m d=true) (hi:P.info? et=some i) (hz:i.zero=some z') (xp:VR ρ z z'):bK P (Instr.lookup t x' k' ok) ρ st w v st':=by
 unfold gN at h;rw[aP]at h
 split at h
 .rename_i Hh;have rh:=λe=>mI (w:=w) Hh hd hf hm hk e
  by_cases TA:∃es,oo x st=some es
  .obtain⟨es,TA⟩:=TA;rw[TA]at h;dsimp only at h;have Tq:(zeroValue et).run P w=.ok z' w:=by simp[zeroValue,typeInfo,hi,hz]
   unfold oo at TA
   split at TA
   .rename_i b
    split at TA
    .rename_i es0 uQ;cases TA;cases hx with
     |map _ r0 sz rM=>
      obtain⟨l,clock,es',h1,h2,h3,h4,h5,h6,h7⟩:=hw.lmap uQ rM;unfold wi at h
      split at h
      .rename_i a ha;unfold JJ at ha
       split at ha
       .cases ha;obtain⟨r',f1,f2⟩:=yo (P:=P) (w:=w) hd hf hk (λe he=>h3 e (h2.mem_iff.1 he)) h6 h7
        have run:∀u' q,(match r' with|some (_,u)=>(.ok (u,true) w:Result (Value×Bool))|none=>.ok (z',false) w)=.ok (u',q) w->
         (Instr.lookup t (.map (some r0)) k' ok).run P w=.ok (if ok then .tuple #[u',.bool q]else u') w:=by
         intro u' q hq;simp only[Instr.lookup,Sem.run_bind,aEZ hu,Result.andThen_ok,Sem.run_pure,dH h1,rh,f1];cases r' with
         |none=>cases hq;simp[Tq]
         |some p=>cases hq;simp
        cases hg:wF a es with
        |some u=>
         rw[hg]at h;obtain⟨e,he,J7,Oy⟩:=xH hg;cases r' with
         |none=>exact absurd J7 (f2 e (h2.mem_iff.2 he))
         |some p=>
          obtain⟨j,u'⟩:=p;obtain⟨e1,e',g1,g2,g3,g4⟩:=f2;have TB:=MY h4 (h2.mem_iff.1 (aFJ g1)) he (by rw[g3,J7]);subst TB;have hv:=(h7 j _ _ g1 g2).2;rw[Oy,g4]at hv;have hr:=run u' true rfl;cases ok with
          |false=>cases h;exact bK.still hw hr hv
          |true=>cases h;exact bK.still hw hr (VR.tuple' (eK.two hv (.bool true)))
        |none=>
         rw[hg]at h;cases r' with
         |some p=>
          obtain⟨j,u'⟩:=p;obtain⟨e1,e',g1,g2,g3,g4⟩:=f2;exact absurd g3 (tL hg e1 (h2.mem_iff.1 (aFJ g1)))
         |none=>
          have hr:=run z' false rfl;cases ok with
          |false=>cases h;exact bK.still hw hr xp
          |true=>cases h;exact bK.still hw hr (VR.tuple' (eK.two xp (.bool false)))
       .cases ha
      .cases h
    .cases TA
   .cases TA
  have aoK:oo x st=none:=by
   cases hh:oo x st with
   |none=>rfl
   |some es=>exact absurd ⟨es,hh⟩ TA
  rw[aoK]at h;dsimp only at h;cases he:vJ x st with
  |none=>rw[he]at h;cases h
  |some es=>
   rw[he]at h;dsimp only at h
   have key:∃es':List MapEntry,rC ρ es es'/\∀(r:Option (Nat×Value)),(Instr.findKey kt k' es').run P w=.ok r w->∀u' q,(match r with|some (_,u)=>(.ok (u,true) w:Result (Value×Bool))|none=>.ok (z',false) w)=.ok (u',q) w->
    (Instr.lookup t x' k' ok).run P w=.ok (if ok then .tuple #[u',.bool q]else u') w:=by
    have Tq:(zeroValue et).run P w=.ok z' w:=Yn
    unfold vJ at he
    split at he
    .cases he;cases hx;refine⟨[],rC.nil,λr hr u' q hq=>?_⟩;simp only[Instr.lookup,Sem.run_bind,aEZ hu,Result.andThen_ok,Sem.run_pure,rh,hr];cases r with
     |none=>cases hq;simp[Tq]
     |some p=>cases hq;simp
    .rename_i b
     split at he
     .rename_i es0 clock uQ;cases he;cases hx with
      |map _ r0 sz rM=>
       obtain⟨es',h1,h2,h3⟩:=hw.map uQ rM;refine⟨es',⟨h2,h3⟩,λr hr u' q hq=>?_⟩;simp only[Instr.lookup,Sem.run_bind,aEZ hu,Result.andThen_ok,Sem.run_pure,dH h1,rh,hr];cases r with
       |none=>cases hq;simp[Tq]
       |some p=>cases hq;simp
     .cases he
    .cases he
   obtain⟨es',e1,e2⟩:=key;cases hc:jP d k es 0 with
   |none=>rw[hc]at h;cases h
   |some r=>
    rw[hc]at h;obtain⟨r',f1,f2⟩:=mh (P:=P) (w:=w) hd hf hk e1.1 e1.2 hc;cases r with
    |none=>
     cases r' with
     |some _=>exact f2.elim
     |none=>
      have:=e2 none f1 z' false rfl;cases ok with
      |false=>cases h;exact bK.still hw this xp
      |true=>cases h;exact bK.still hw this (VR.tuple' (eK.two xp (.bool false)))
    |some p=>
     obtain⟨j,u⟩:=p;cases r' with
     |none=>exact f2.elim
     |some p'=>
      obtain⟨j',u'⟩:=p';obtain⟨_,g2,_⟩:=f2;have:=e2 _ f1 u' true rfl;cases ok with
      |false=>cases h;exact bK.still hw this g2
      |true=>cases h;exact bK.still hw this (VR.tuple' (eK.two g2 (.bool true)))
 .cases h
def br.xG {b:Nat}(hw:WR ρ st w)(hm:st.m.g b=some (.map es clock))(hr:ρ b=some (r,sz))(he:rC ρ es2 es2'):
 br ρ st w ρ (st.set b (.map es2 clock2)) {w with heap:=w.heap.setIfInBounds r (.map es2'.toArray clock2)}:=by
 obtain⟨es',h1,_⟩:=hw.map hm hr;have hlt:=(aFB.1 h1).1;exact br.set hw hm hr (by simp[hlt]) (.map es2 clock2 es2' he.1 he.2 sz) (λk hk=>by simp[aFV (aFL hk)]) uG rfl rfl
def fw {es:Array MapEntry}(h:w.heap[r]?=some (.map es clock)):(setObj r o).run P w=.ok () {w with heap:=w.heap.setIfInBounds r o}:=by
 simp only[setObj,Sem.run,h]
def br.Lg {b:Nat}{l2:List eS}(hw:WR ρ st w)(hm:st.m.g b=some (.lmap es))(hr:ρ b=some (r,sz))(hp:l2.Perm es2)(hi:∀e∈es2,∃n:Int,e.1=.int .i64 n)(hn:(es2.map (·.1)).Nodup)
 (hs:Go.MapKept.Stamped es2'.toArray clock2) (hl:l2.length=es2'.length) (h:∀(i:Nat) (e:eS) (e':MapEntry),l2[i]?=some e->es2'[i]?=some e'->VR ρ e.1 e'.key/\VR ρ e.2.1 e'.val):
 br ρ st w ρ (st.set b (.lmap es2)) {w with heap:=w.heap.setIfInBounds r (.map es2'.toArray clock2)}:=by
 obtain⟨_,_,es',h1,_⟩:=hw.lmap hm hr;have hlt:=(aFB.1 h1).1;exact br.set hw hm hr (by simp[hlt]) (.lmap es2 l2 clock2 es2' hp hi hn hs hl h sz) (λk hk=>by simp[aFV (aFL hk)]) uG rfl rfl
def vC {n:Int}{v':Value}(h:VR ρ (.int .i64 n) v'):v'=.int .i64 n:=by cases h;rfl
def Cx {b:Nat}(h:Ae d b es k y st=.ok v st')(hw:WR ρ st w)(uQ:st.m.g b=some (.lmap es))(rM:ρ b=some (r0,sz))(hk:VR ρ k k')(hy:VR ρ y y')
 (hu:P.underlying t=some (.map kt et)) (hd:fZ P f kt=some d) (hf:f<10000) (rh:∀e,(Instr.checkKey e 10000 kt k').run P w=.ok () w):v=.undef/\∃(es2':List MapEntry) (clock2:Nat),(Instr.mapUpdate t (.map (some r0)) k' y').run P w=.ok () {w with heap:=w.heap.setIfInBounds r0 (.map es2'.toArray clock2)}/\br ρ st w ρ st' {w with heap:=w.heap.setIfInBounds r0 (.map es2'.toArray clock2)}:=by
 obtain⟨l,clock,es',h1,h2,h3,h4,h5,h6,h7⟩:=hw.lmap uQ rM;obtain⟨s1,s2,s3⟩:=h5;unfold Ae at h
 split at h
 .rename_i a ha;unfold JJ at ha
  split at ha
  .cases ha;obtain⟨r',f1,f2⟩:=yo (P:=P) (w:=w) hd hf hk (λe he=>h3 e (h2.mem_iff.1 he)) h6 h7;have CT:=vC hk;subst CT;cases hg:wF a es with
   |none=>
    rw[hg]at h;cases h;cases r' with
    |some p=>
     obtain⟨j,u'⟩:=p;obtain⟨e1,e',g1,g2,g3,g4⟩:=f2;exact absurd g3 (tL hg e1 (h2.mem_iff.1 (aFJ g1)))
    |none=>
     have jg:∀e'∈es',e'.key≠ .int .i64 a:=by
      intro e' Ru hh;obtain⟨i,hi,rfl⟩:=aFP Ru;have hlt:i<l.length:=qE
      have hv:=(h7 i l[i] _ (aES hlt) (aES hi)).1;obtain⟨n,hn⟩:=h3 _ (h2.mem_iff.1 (aFj hlt));rw[hn,hh]at hv;cases hv;exact f2 _ (aFj hlt) hn
     refine⟨rfl,es'++[{key:=Value.int IntKind.i64 a,val:=y',born:=clock}],clock+1,?_,?_⟩
     .simp only[Instr.mapUpdate,Sem.run_bind,aEZ hu,Result.andThen_ok,dH h1,rh,f1,fw h1];simp
     refine br.Lg (es2:=es++[(CV.int IntKind.i64 a,y,0)]) (l2:=l++[(CV.int IntKind.i64 a,y,0)]) (clock2:=clock+1) (es2':=es'++[{key:=Value.int IntKind.i64 a,val:=y',born:=clock}]) hw uQ rM (h2.append_right _) ?_ ?_ ⟨?_,?_,?_⟩ (by simp[h6]) ?_
     .intro e he;rcases aEY.1 he with he|he
      .exact h3 e he
      .rw[aGd.1 he];exact⟨a,rfl⟩
     .rw[aFR,aFM];refine⟨h4,uG,?_⟩;intro x hx y hy hxy;obtain⟨e,he,rfl⟩:=aFq.1 hx;simp at hy;subst hy;exact tL hg e he hxy
     .intro x hx;rw[aEY]at hx;rcases hx with hx|hx
      .have:=s1 x hx;omega
      .rw[aGd.1 hx];exact Nat.lt_succ_self _
     .rw[aFR,aFM];refine⟨s2,uG,?_⟩;intro x hx y hy hxy;obtain⟨e,he,rfl⟩:=aFq.1 hx;simp at hy;subst hy;have:=s1 e he;omega
     .rw[aFR,aFM];refine⟨s3,uG,?_⟩;intro x hx y hy hxy;obtain⟨e,he,rfl⟩:=aFq.1 hx;simp at hy;subst hy;exact jg e he hxy
     .intro i e e' a1 a2;rcases aGh i l.length with hlt|oN
      .rw[aGr hlt]at a1;rw[aGr qE]at a2;exact h7 i e e' a1 a2
      .rw[aGe oN]at a1;rw[aGe qE,<-h6]at a2;generalize i-l.length=q at a1 a2;cases q with
       |zero=>simp at a1 a2;subst a1;subst a2;exact⟨hk,hy⟩
       |succ q=>simp at a1
   |some u=>
    rw[hg]at h;cases h;obtain⟨e,he,J7,Oy⟩:=xH hg;cases r' with
    |none=>exact absurd J7 (f2 e (h2.mem_iff.2 he))
    |some p=>
     obtain⟨j,u'⟩:=p;obtain⟨e1,e',g1,g2,g3,g4⟩:=f2
     have Hf:e'.key=.int .i64 a:=by
      have hv:=(h7 j _ _ g1 g2).1;rw[g3]at hv;exact vC hv
     have Ow:∀(l:List eS),(rb a y l).map (·.1)=l.map (·.1):=by
      intro l;rw[om,aHl];apply List.map_congr_left;intro x _;show(if Ev a x.1=true then (x.1,y,x.2.2)else x).1=x.1
      split<;>rfl
     have Rl:((es'.modify j λe=>{e with key:=.int .i64 a,val:=y'}).map (·.key))=es'.map (·.key):=by
      apply aHi;intro i;rw[aFA,aFA,List.getElem?_modify]
      by_cases JX:j=i
      .subst JX;rw[g2];simp[Hf]
      .simp[JX]
     have RD:((es'.modify j λe=>{e with key:=.int .i64 a,val:=y'}).map (·.born))=es'.map (·.born):=by
      apply aHi;intro i;rw[aFA,aFA,List.getElem?_modify]
      by_cases JX:j=i
      .subst JX;rw[g2];simp
      .simp[JX]
     refine⟨rfl,es'.modify j λe=>{e with key:=.int .i64 a,val:=y'},clock,?_,?_⟩
     .have hsb:Instr.sameBits 10000 (.int .i64 a) (.int .i64 a)=true:=by simp[Instr.sameBits]
      simp only[Instr.mapUpdate,Sem.run_bind,aEZ hu,Result.andThen_ok,dH h1,rh,f1,Instr.keyThatStays,aGg,g2,aGc,aGi,Hf,hsb,aFm,Sem.run_pure,fw h1];simp
     refine br.Lg (l2:=rb a y l) (clock2:=clock) (es2':=es'.modify j λe=>{e with key:=.int .i64 a,val:=y'}) hw uQ rM (by rw[om,om];exact h2.map _) ?_ (by rw[Ow];exact h4) ⟨?_,?_,?_⟩ (by rw[om];simp[h6]) ?_
     .intro x hx;rw[om,aFq]at hx;obtain⟨x0,U5,rfl⟩:=hx;obtain⟨n,hn⟩:=h3 x0 U5
      split
      .exact⟨n,hn⟩
      .exact⟨n,hn⟩
     .intro x hx;have:x.born∈(es'.modify j λe=>{e with key:=.int .i64 a,val:=y'}).map (·.born):=aFX hx;rw[RD,aFq]at this;obtain⟨x0,U5,e0⟩:=this;rw[<-e0];exact s1 x0 U5
     .show((es'.modify j λe=>{e with key:=.int .i64 a,val:=y'}).map (·.born)).Nodup;rw[RD];exact s2
     .show((es'.modify j λe=>{e with key:=.int .i64 a,val:=y'}).map (·.key)).Nodup;rw[Rl];exact s3
     .intro i x x' a1 a2;rw[om,aFA]at a1;rw[List.getElem?_modify]at a2
      by_cases JX:j=i
      .subst JX;rw[g1]at a1;rw[g2]at a2;simp at a1 a2;subst a2;rw[aEW (pw.2 g3)]at a1;subst a1;exact⟨by rw[g3];exact hk,hy⟩
      .cases hli:l[i]? with
       |none=>rw[hli]at a1;simp at a1
       |some x0=>
        rw[hli]at a1;have Wb:es'[i]?=some x':=by simpa[JX]using a2
        obtain⟨b1,b2⟩:=h7 i x0 x' hli Wb
        have ij:¬Ev a x0.1=true:=by
         intro hh;have U5:=pw.1 hh;rw[U5]at b1;have LM:=vC b1;have Z1:=(aFb.1 g2).1;have JV:=(aFb.1 Wb).1;have ja:=aHg.1 s3
         have e1:(es'.map (·.key))[j]'(by simpa using Z1)=.int .i64 a:=by
          have:=(aFb.1 g2).2;rw[aHc,this,Hf]
         have e2:(es'.map (·.key))[i]'(by simpa using JV)=.int .i64 a:=by
          have:=(aFb.1 Wb).2;rw[aHc,this,LM]
         rcases aGh j i with AN|AN
         .exact ja j i (by simpa using Z1) (by simpa using JV) AN (by exact e1.trans e2.symm)
         .exact ja i j (by simpa using JV) (by simpa using Z1) qE (by exact e2.trans e1.symm)
        simp only[aGc,aGp]at a1;rw[aET ij]at a1;subst a1;exact⟨b1,b2⟩
  .cases ha
 .cases h
def Gn {b:Nat}(h:Ae d b es k y st=.ok v st')(hw:WR ρ st w)(uQ:st.m.g b=some (.lmap es))(rM:ρ b=some (r0,sz))(hk:VR ρ k k')(hy:VR ρ y y')
 (hu:P.underlying t=some (.map kt et)) (hd:fZ P f kt=some d) (hf:f<10000) (rh:∀e,(Instr.checkKey e 10000 kt k').run P w=.ok () w):Dr P (Instr.mapUpdate t (.map (some r0)) k' y') ρ st w v st':=by
 obtain⟨h1,es2,clock2,h2,h3⟩:=Cx h hw uQ rM hk hy hu hd hf rh;exact⟨_,ρ,h2,h1,h3⟩
def pX (h:dO d x k y st=.ok v st')(hw:WR ρ st w)(hx:VR ρ x x')(hk:VR ρ k k')(hy:VR ρ y y')
 (hu:P.underlying t=some (.map kt et)) (hd:fZ P f kt=some d) (hf:f<10000) (hm:iw m d=true):Dr P (Instr.mapUpdate t x' k' y') ρ st w v st':=by
 unfold dO at h;rw[aP]at h
 split at h
 .rename_i Hh;have rh:=λe=>mI (w:=w) Hh hd hf hm hk e
  split at h
  .rename_i b
   split at h
   .rename_i es uQ;cases hx with
    |map _ r0 sz rM=>exact Gn h hw uQ rM hk hy hu hd hf rh
   .rename_i es clock uQ;cases hx with
    |map _ r0 sz rM=>
     obtain⟨es',h1,h2,h3⟩:=hw.map uQ rM;cases hc:jP d k es 0 with
     |none=>rw[hc]at h;cases h
     |some r=>
      rw[hc]at h;obtain⟨r',f1,f2⟩:=mh (P:=P) (w:=w) hd hf hk h2 h3 hc;cases r with
      |none=>
       cases r' with
       |some _=>exact f2.elim
       |none=>
        dsimp only at h;rw[dI]at h;cases h;refine⟨_,ρ,?_,rfl,br.xG (clock2:=clock+1) hw uQ rM (rC.app ⟨h2,h3⟩ (rC.cons (e:=(k,y,clock)) (e':={key:=k',val:=y',born:=clock}) ⟨hk,hy,rfl⟩ rC.nil))⟩;simp only[Instr.mapUpdate,Sem.run_bind,aEZ hu,Result.andThen_ok,dH h1,rh,f1,fw h1];simp
      |some p=>
       obtain⟨j,u⟩:=p;cases r' with
       |none=>exact f2.elim
       |some p'=>
        obtain⟨j',u'⟩:=p';obtain⟨rfl,g2,e,e',g3,g4,g5,g6⟩:=f2;dsimp only at h;rw[HA,g3]at h;obtain⟨k0,u0,born⟩:=e;dsimp only at h;rw[aP]at h
        split at h
        .rename_i hs;cases h;obtain⟨a1,a2,a3⟩:=h3 j _ _ g3 g4;obtain⟨s1,s2⟩:=yf hs a1 hk
         refine⟨_,ρ,?_,rfl,br.xG (clock2:=clock) hw uQ rM (rC.mod (e:=(k,y,born)) (f:=λe=>{e with key:=k',val:=y'}) j ⟨h2,h3⟩ (λe2 Oy=>by
          rw[g4]at Oy;cases Oy;exact⟨hk,hy,a3⟩))⟩
         simp only[Instr.mapUpdate,Sem.run_bind,aEZ hu,Result.andThen_ok,dH h1,rh,f1,Instr.keyThatStays,aGg,g4,aGc,aGi,s2,aFm,Sem.run_pure,fw h1];simp
        .cases h
   .cases h
  .cases h
 .cases h
def yP (h:fN d z x k st=.ok v st')(hw:WR ρ st w)(hx:VR ρ x x')(hk:VR ρ k k')
 (hu:P.underlying t=some (.map kt et)) (hd:fZ P f kt=some d) (hf:f<10000) (hm:iw m d=true) (hi:P.info? et=some i) (hz:i.zero=some z') (xp:VR ρ z z'):bK P (Instr.mapEntry t x' k') ρ st w v st':=by
 have Tq:(zeroValue et).run P w=.ok z' w:=Yn
 unfold fN at h;rw[aP]at h
 split at h
 .rename_i Hh;have rh:=λe=>mI (w:=w) Hh hd hf hm hk e
  split at h
  .rename_i b
   split at h
   .rename_i es clock uQ;cases hx with
    |map _ r0 sz rM=>
     obtain⟨es',h1,h2,h3⟩:=hw.map uQ rM;cases hc:jP d k es 0 with
     |none=>rw[hc]at h;cases h
     |some r=>
      rw[hc]at h;obtain⟨r',f1,f2⟩:=mh (P:=P) (w:=w) hd hf hk h2 h3 hc;cases r with
      |none=>
       cases r' with
       |some _=>exact f2.elim
       |none=>
        dsimp only at h;rw[dI]at h;cases h;refine⟨.tuple #[z',goInt clock],_,ρ,?_,VR.tuple' (eK.two xp (.int .i64 _)),br.xG (clock2:=clock+1) hw uQ rM (rC.app ⟨h2,h3⟩ (rC.cons (e:=(k,z,clock)) (e':={key:=k',val:=z',born:=clock}) ⟨hk,xp,rfl⟩ rC.nil))⟩;simp only[Instr.mapEntry,Sem.run_bind,aEZ hu,Result.andThen_ok,dH h1,rh,f1,Tq,fw h1,Sem.run_pure];simp
      |some p=>
       obtain⟨j,u⟩:=p;cases r' with
       |none=>exact f2.elim
       |some p'=>
        obtain⟨j',u'⟩:=p';obtain⟨rfl,g2,e,e',g3,g4,g5,g6⟩:=f2;dsimp only at h;rw[HA,g3]at h;obtain⟨k0,u0,born⟩:=e;dsimp only at h;rw[aP]at h
        split at h
        .rename_i hs;cases h;obtain⟨a1,a2,a3⟩:=h3 j _ _ g3 g4;obtain⟨s1,s2⟩:=yf hs a1 hk;have a3':born=e'.born:=a3
         refine⟨.tuple #[u',goInt e'.born],_,ρ,?_,VR.tuple' (eK.two g2 (by rw[a3'];exact .int .i64 _)),br.xG (clock2:=clock) hw uQ rM (rC.mod (e:=(k,u,born)) (f:=λe=>{e with key:=k'}) j ⟨h2,h3⟩ (λe2 Oy=>by
          rw[g4]at Oy;cases Oy;exact⟨hk,by rw[g6];exact g2,a3⟩))⟩
         simp only[Instr.mapEntry,Sem.run_bind,aEZ hu,Result.andThen_ok,dH h1,rh,f1,Instr.keyThatStays,aGg,g4,aGc,aGi,s2,aFm,Sem.run_pure,fw h1];simp
        .cases h
   .cases h
  .cases h
 .cases h
def EZ {born:Nat}:∀{es:List eS} {es':List MapEntry} {j i:Nat} {e:eS},rC ρ es es'->tn born es j=some (i,e)->
 j<=i/\es[i-j]?=some e/\es'.findIdx? (λe=>(e.born:Int)==(born:Int))=some (i-j):=by
 intro es
 induction es with
 |nil=>intro es' j i e _ h;cases h
 |cons x es ih=>
  intro es' j i e h hb;obtain⟨x',t',rfl,h1,h2⟩:=h.inv;have e0:tn born (x::es) j=bH (Nat.beq x.2.2 born) (some (j,x)) (tn born es (j+1)):=rfl;simp only[e0,aP,aFw]at hb
  split at hb
  .rename_i hq;cases hb;refine⟨aEQ _,uG,?_⟩;rw[List.findIdx?_cons];have:((x'.born:Int)==(born:Int))=true:=by rw[beq_iff_eq,<-h1.2.2,hq]
   simp[this]
  .rename_i hq;obtain⟨a1,a2,a3⟩:=ih h2 hb;refine⟨qE,by rw[show i-j=(i-(j+1))+1 from qE];simpa using a2,?_⟩;rw[List.findIdx?_cons]
   have:((x'.born:Int)==(born:Int))=false:=by
    rw[beq_eq_false_iff_ne,<-h1.2.2];exact λe=>hq (by exact_mod_cast e)
   simp only[this,aEM,aFa,a3,aGc]
   congr 1;omega
def wk {s:CV}{s':Value}(h:dX x s y st=.ok v st')(hw:WR ρ st w)(hx:VR ρ x x')(hs:VR ρ s s')(hy:VR ρ y y'):Dr P (Instr.entryStore t x' s' y') ρ st w v st':=by
 unfold dX at h
 split at h
 .rename_i b k born
  split at h
  .rename_i es clock uQ;cases hs;cases hx with
   |map _ r0 sz rM=>
    obtain⟨es',h1,h2,h3⟩:=hw.map uQ rM
    split at h
    .rename_i j k0 u0 bn hb;cases h;obtain⟨a1,a2,a3⟩:=EZ (ρ:=ρ) (es':=es') ⟨h2,h3⟩ hb;rw[Nat.sub_zero]at a2 a3
     refine⟨_,ρ,?_,rfl,br.xG (clock2:=clock) hw uQ rM (rC.mod (e:=(k0,y,bn)) (f:=λe=>{e with val:=y'}) j ⟨h2,h3⟩ (λe2 Oy=>by
      obtain⟨b1,b2,b3⟩:=h3 j _ _ a2 Oy;exact⟨b1,hy,b3⟩))⟩
     simp only[Instr.entryStore,Sem.run_bind,dH h1,Result.andThen_ok,asInt,asIntOf,Sem.run_pure]
     have:es'.toArray.findIdx? (λe=>(e.born:Int)==Int.ofNat born)=some j:=by
      rw[<-a3];simp
     rw[this];simp only[fw h1];simp
    .cases h
  .cases h
 .cases h
def PD {w:World}(h:w.heap[r]?=some o):({w with heap:=w.heap.setIfInBounds r o}:World)=w:=by
 have:w.heap.setIfInBounds r o=w.heap:=by
  apply Array.ext_getElem?;intro i
  by_cases e:r=i
  .subst e;have:=(aFB.1 h).1;rw[h];simp[this]
  .rw[aFV e]
 rw[this]
def BK {ty:TypeId}{ats:Array TypeId}(lL:ats[0]?=some t)(h:pj d x k st=.ok v st')(hw:WR ρ st w)(hx:VR ρ x x')(hk:VR ρ k k')
 (hu:P.underlying t=some (.map kt et)) (hd:fZ P f kt=some d) (hf:f<10000) (hm:iw m d=true):bK P (Builtin.delete_ ats ty #[x',k']) ρ st w v st':=by
 have hun:VR ρ .undef (.tuple #[]):=.undef;unfold pj at h;rw[aP]at h
 split at h
 .rename_i Hh;have rh:=λe=>mI (w:=w) Hh hd hf hm hk e
  split at h
  .cases h;cases hx;exact bK.still hw (by simp[Builtin.delete_,lL,aEZ hu,rh]) hun
  .rename_i b
   split at h
   .rename_i es clock uQ;cases hx with
    |map _ r0 sz rM=>
     obtain⟨es',h1,h2,h3⟩:=hw.map uQ rM;cases hc:jP d k es 0 with
     |none=>rw[hc]at h;cases h
     |some r=>
      rw[hc]at h;obtain⟨r',f1,f2⟩:=mh (P:=P) (w:=w) hd hf hk h2 h3 hc;cases r with
      |none=>
       cases r' with
       |some _=>exact f2.elim
       |none=>
        cases h;refine bK.still hw ?_ hun;simp only[Builtin.delete_,lL,aGg,aEL,aEN,Sem.run_bind,aEZ hu,Result.andThen_ok,dH h1,rh,f1,fw h1,Sem.run_pure];rw[PD h1]
      |some p=>
       obtain⟨j,u⟩:=p;cases r' with
       |none=>exact f2.elim
       |some p'=>
        obtain⟨j',u'⟩:=p';obtain⟨rfl,g2,e,e',g3,g4,g5,g6⟩:=f2;cases h;refine⟨.tuple #[],_,ρ,?_,.undef,br.xG (clock2:=clock) hw uQ rM (rC.del j ⟨h2,h3⟩)⟩;simp only[Builtin.delete_,lL,aGg,aEL,aEN,Sem.run_bind,aEZ hu,Result.andThen_ok,dH h1,rh,f1,fw h1,Sem.run_pure]
        congr 3
        congr 1
        apply Array.ext';simp
   .cases h
  .cases h
 .cases h
def D6 {r:Option CV}{r':Option Value}(h:jG r st=.ok v st')(hw:WR ρ st w)(hr:Td ρ r r')(hu:P.underlying t=some (.map kt et)):bK P (Instr.makeMap t r') ρ st w v st':=by
 have key:∀n,OR.ok (.map st.nx) ⟨st.m.put st.nx (some (.map [] 0)),(st.nx+1)⟩=OR.ok v st'->n=w.heap.size->(Instr.makeMap t r').run P w=.ok (.map (some w.heap.size)) {w with heap:=w.heap.push (.map #[] 0)}->bK P (Instr.makeMap t r') ρ st w v st':=by
  intro n h _ jZ;cases h;have ha:=br.new hw (BR.map (ρ:=ρ.set st.nx (w.heap.size,0)) [] 0 [] rfl (λi e e' h=>Pa) 0);exact⟨_,_,_,jZ,.map _ _ _ ha.2,ha.1⟩
 unfold jG at h
 split at h
 .rw[dI]at h;cases r' with
  |some _=>exact hr.elim
  |none=>exact key _ h rfl (by simp[Instr.makeMap])
 .rw[dI]at h;cases r' with
  |none=>exact hr.elim
  |some x'=>
   have zp:VR ρ _ x':=hr;cases zp;exact key _ h rfl (by simp[Instr.makeMap,aEZ hu,asInt,asIntOf])
 .cases h
end
end
section
variable {parts':Array (Nat×Value)}{β γ:Type}{t:TypeId}{i:TypeInfo}{z:List CV}{z':Value}{e:TypeId}
abbrev uB:=Nat×Nat×CV
def gC (parts:List uB):List CV->Option (List CV):=
 List.rec (motive:=λ_=>List CV->Option (List CV)) (λs=>some s)
  (λp _ ih s=>bH (Nat.beq p.2.2.cN.length p.2.1&& !p.2.2.isAny) (Option.rec none (λs'=>ih s') (dY s p.1 p.2.2.cN)) none) parts
def NI (off:Nat):∀(l:List Value) (k:Nat) (cells:Array Value),off+k+l.length<=cells.size->
 ((l.zipIdx k).foldl (λcs (p:Value×Nat)=>cs.setIfInBounds (off+p.2) p.1) cells).toList=cells.toList.take (off+k)++l++cells.toList.drop (off+k+l.length):=by
 intro l
 induction l with
 |nil=>intro k cells _;simp
 |cons v l ih=>
  intro k cells h;rw[List.zipIdx_cons,List.foldl_cons,ih (k+1) _ (by simp at h⊢;omega)];have e:=list_seg_step cells.toList (off+k) v l (by simp at h⊢;omega);simp only[Array.toList_setIfInBounds];rw[<-Nat.add_assoc,e];simp
section
variable {P:Program} {ρ:Ren} {st st':St} {w:World} {v:CV}
inductive ry (ρ:Ren)(place:Nat->Option (Nat×Nat)):List uB->List (Nat×Value)->Prop where
 |nil:ry ρ place [] []
 |cons (i off size:Nat) (x:CV) (x':Value) (l:List uB) (l':List (Nat×Value)) (hp:place i=some (off,size)) (hx:VR ρ x x') (t:ry ρ place l l'):
  ry ρ place ((off,size,x)::l) ((i,x')::l')
def rm {place:Nat->Option (Nat×Nat)}{parts:List uB}{parts':List (Nat×Value)}(h:ry ρ place parts parts'):∀{s s':List CV} {cells:Array Value},gC parts s=some s'->eK ρ s cells.toList->
 ∃kQ,Instr.fill place cells parts'=some kQ/\eK ρ s' kQ.toList:=by
 induction h with
 |nil=>intro s s' cells h hv;cases h;exact⟨cells,rfl,hv⟩
 |cons i off size x x' l l' hp hx t ih=>
  intro s s' cells h hv;have e0:gC ((off,size,x)::l) s=bH (Nat.beq x.cN.length size&& !x.isAny) (Option.rec none (λs'=>gC l s') (dY s off x.cN)) none:=rfl;simp only[e0,aP,aFl,aFw,aHA]at h
  split at h
  .rename_i hsz0;obtain⟨hsz,hna⟩:=hsz0;cases hw:dY s off x.cN with
   |none=>rw[hw]at h;cases h
   |some s2=>
    rw[hw]at h;obtain⟨w1,w2⟩:=ym hw;have hxs:=hx.cN hna;have hlen:x'.cells.size=size:=by have:=hxs.len;rw[hsz]at this;simpa using this.symm
    have hcs:cells.size=s.length:=by have:=hv.len;simpa using this.symm
    have Ns:off+x'.cells.size<=cells.size:=qE
    let SH:=x'.cells.zipIdx.foldl (λcs (p:Value×Nat)=>cs.setIfInBounds (off+p.2) p.1) cells
    have Nu:SH.toList=cells.toList.take off++(x'.cells.toList++cells.toList.drop (off+x'.cells.size)):=by
     have:=NI off x'.cells.toList 0 cells (by simpa using Ns);show(Array.foldl _ cells x'.cells.zipIdx).toList=_;rw[<-Array.foldl_toList,Array.toList_zipIdx,this];simp
    obtain⟨kQ,f1,f2⟩:=ih (cells:=SH) h (by
     rw[w2,Nu];have e1:x.cN.length=x'.cells.size:=by rw[hsz,hlen]
     rw[e1];exact(hv.take off).app (hxs.app (hv.drop _)))
    refine⟨kQ,?_,f2⟩;simp only[Instr.fill,hp];rw[aET (by simp[hlen];omega)];exact f1
  .cases h
def bk (z:List CV)(parts:List uB)(st:St):OR:=Option.rec .bad (λs=>.ok (.agg s) st) (gC parts z)
def bM (e len:Nat)(z:List CV)(parts:List uB)(st:St):OR:=
 Option.rec .bad (λs=>.ok (.slice st.nx 0 len len 0) ⟨st.m.put st.nx (some (.cells s e false)),st.nx+1⟩) (gC parts z)
def BB (l:List β)(f:β->Sem γ)(g:β->γ)(h:∀x∈l,(f x).run P w=.ok (g x) w):(l.mapM f).run P w=.ok (l.map g) w:=by
 induction l with
 |nil=>simp
 |cons a l ih=>simp[List.mapM_cons,h a uG,ih (λx hx=>h x Yi)]
def zR (l:Array β)(f:β->Sem γ)(g:β->γ)(h:∀x∈l.toList,(f x).run P w=.ok (g x) w):(l.mapM f).run P w=.ok (l.map g) w:=by
 rw[Array.mapM_eq_mapM_toList,Sem.run_map,BB l.toList f g h];simp only[Result.andThen_ok]
 congr 1
 apply Array.ext';simp
def DW (P:Program)(fs:Array Field)(i:Nat):Option (Nat×Nat):=(fs[i]?).map λf=>(f.offset,P.cellsOf f.type)
def mS (size:Nat)(i:Nat):Option (Nat×Nat):=some (i*size,size)
def BL {fs:Array Field}{parts:List uB}(h:bk z parts st=.ok v st')(hw:WR ρ st w)(hu:P.underlying t=some (.struct fs))(hi:P.info? t=some i)
 (hz:i.zero=some z') (xp:∀ρ,eK ρ z z'.cells.toList) (hp:ry ρ (DW P fs) parts parts'.toList) (afY:∀f∈fs.toList,∃j,P.info? f.type=some j):bK P (Instr.build t parts') ρ st w v st':=by
 unfold bk at h;cases hf:gC parts z with
 |none=>rw[hf]at h;cases h
 |some s=>
  rw[hf]at h;dsimp only at h;cases h;obtain⟨kQ,f1,f2⟩:=rm hp hf (xp ρ);refine bK.still hw (v':=.agg kQ) ?_ (by have:=VR.E6 f2;simpa using this)
  have hm:=zR (P:=P) (w:=w) fs (λf=>do pure (f.offset,<-Go.sizeOf f.type)) (λf=>(f.offset,P.cellsOf f.type)) (λf hf=>by
   obtain⟨j,hj⟩:=afY f hf;simp[Go.sizeOf,typeInfo,hj,Program.cellsOf])
  have JR:(λi=>(fs.map λf=>(f.offset,P.cellsOf f.type))[i]?)=DW P fs:=by
   funext i;simp[DW]
  simp only[Instr.build,zeroValue,typeInfo,Sem.run_bind,run_program,Result.andThen_ok,hi,hz,Sem.run_pure,aEZ hu];rw[hm];simp only[Result.andThen_ok];rw[JR,f1]
  rfl
def Ee {n:Nat}{j:TypeInfo}{parts:List uB}(h:bk z parts st=.ok v st')(hw:WR ρ st w)(hu:P.underlying t=some (.array n e))(hi:P.info? t=some i)
 (hz:i.zero=some z') (xp:∀ρ,eK ρ z z'.cells.toList) (hj:P.info? e=some j) (hp:ry ρ (mS j.size) parts parts'.toList):bK P (Instr.build t parts') ρ st w v st':=by
 unfold bk at h;cases hf:gC parts z with
 |none=>rw[hf]at h;cases h
 |some s=>
  rw[hf]at h;dsimp only at h;cases h;obtain⟨kQ,f1,f2⟩:=rm hp hf (xp ρ);refine bK.still hw (v':=.agg kQ) ?_ (by have:=VR.E6 f2;simpa using this);have JR:(λi=>some (i*j.size,j.size))=mS j.size:=rfl;simp only[Instr.build,zeroValue,Go.sizeOf,typeInfo,Sem.run_bind,run_program,Result.andThen_ok,hi,hj,hz,Sem.run_pure,aEZ hu];rw[JR,f1]
  rfl
def wo {len:Nat}{parts:List uB}(h:bM e len (cM len z) parts st=.ok v st')(hw:WR ρ st w)(hu:P.underlying t=some (.slice e))(hi:P.info? e=some i)
 (hz:i.zero=some z') (hsz:z'.cells.size=i.size) (xp:∀ρ,eK ρ z z'.cells.toList) (hp:ry ρ (mS i.size) parts parts'.toList) (hlen:len*i.size<=16777216):bK P (Instr.buildSlice t len parts') ρ st w v st':=by
 unfold bM at h;cases hf:gC parts (cM len z)with
 |none=>rw[hf]at h;cases h
 |some s=>
  rw[hf]at h;dsimp only at h;cases h
  have gG:(List.replicate len z'.cells.toList).flatten=((Array.range (len*i.size)).map (z'.cells[·%z'.cells.size]!)).toList:=by
   rw[<-hsz,aGw,aHq];exact(pT z'.cells len).symm
  have hvz:eK ρ (cM len z) ((Array.range (len*i.size)).map (z'.cells[·%z'.cells.size]!)).toList:=by
   rw[<-gG];exact(xp ρ).flatten len
  obtain⟨kQ,f1,f2⟩:=rm hp hf hvz;obtain⟨ρ',h1,h2,h3⟩:=br.newRow (P:=P) (t:=e) (s:=s) (l:=kQ.toList) hw (λρ' hle=>f2.mono hle) false;rw[aGs]at h1 h3;refine⟨.slice (some ⟨w.heap.size,0,none⟩) len len,_,ρ',?_,.slice _ _ _ _ _ _ h2,h3⟩;have JR:(λk=>some (k*i.size,i.size))=mS i.size:=rfl;have hn:¬(len*i.size>2^24):=by show¬(len*i.size>16777216);omega
  simp only[Instr.buildSlice,Sem.run_bind,aEZ hu,Result.andThen_ok,Go.sizeOf,typeInfo,run_program,hi,Sem.run_pure,aET hn]
  by_cases h0:len*i.size=0
  .have hz0:((Array.range (len*i.size)).map (z'.cells[·%z'.cells.size]!))=((Array.range (len*i.size)).map ((#[]:Array Value)[·%(#[]:Array Value).size]!)):=by
    rw[h0,Array.range_zero'];simp
   rw[hz0]at f1;rw[aEW h0]
   show Sem.run P (do
    let some cells:=Instr.fill (mS i.size) ((Array.range (len*i.size)).map ((#[]:Array Value)[·%(#[]:Array Value).size]!)) parts'.toList|stuck "buildSlice: a part of the wrong size"
    pure (Value.slice (some (<-newRow e cells)) len len)) w=_
   rw[f1];simp only[Sem.run_bind,h1,Result.andThen_ok,Sem.run_pure]
  .rw[aET h0];simp only[zeroValue,typeInfo,Sem.run_bind,run_program,Result.andThen_ok,hi,hz,Sem.run_pure];rw[JR,f1];simp only[Sem.run_bind,h1,Result.andThen_ok,Sem.run_pure]
def pZ (fn:Fn)(f c:List CV)(st:St):OR:=.ok (.func fn f c) st
def Gt {fn:Fn}{f c:List CV}{f' c':Array Value}(h:pZ fn f c st=.ok v st')(hw:WR ρ st w)(hf:eK ρ f f'.toList)(hc:eK ρ c c'.toList):bK P (Instr.makeFunc fn f' c') ρ st w v st':=by
 cases h;refine bK.still hw rfl ?_;have:=VR.func (ρ:=ρ) fn f c f'.toList c'.toList hf.len hc.len hf.at' hc.at'
 simpa using this
end
end
