import Derived.Test.YtomffjeofpafnaaGreatDoorLimB
namespace Lim
open Go
noncomputable section
set_option linter.defProp false
section
variable {e n need sLen sCap:Nat}{zeros:Bool}{iN:Sem (Array Value)}{s x:Value}{i:TypeInfo}{z':Value}{vs:List Value}
def St.drop (st:St)(b:Nat):St:=⟨st.m.put b none,st.nx⟩
def bJ (e size bytes:Nat)(s:CV)(a:Option (Nat×List CV))(st:St):OR:=
 match s,a with
 | .ae,some (n,t)=>bE (Nat.beq n 0) (.ok .ae st)
  (bE (Bool.and (Nat.ble 1 size) (Bool.and (Nat.ble (Nat.mul n bytes) 140737488355328) (Nat.ble n 140737488355328)))
   (.ok (.slice st.nx 0 n n size) ⟨st.m.put st.nx (some (.cells t e true)),st.nx+1⟩) .bad)
 | .slice b off len cap grow,some (n,t)=>
   bE (Nat.beq n 0) (bE (Nat.ble len cap) (.ok (.slice b off len cap grow) st) .bad)
    (pT (Nat.add len n) λneed=>
     bE (Nat.ble need cap)
      (match st.m.g b with
      |some (.cells s ty g)=>bE (bh t) (Option.rec .bad (λs'=>.ok (.slice b off need cap grow) ⟨st.m.put b (some (.cells s' ty g)),st.nx⟩) (dZ s (off+len*size) t)) .bad
      |_=>.bad)
      (bE (Bool.and (Nat.ble 1 size) (Bool.and (Nat.ble (Nat.mul need bytes) 140737488355328) (Nat.ble need 140737488355328)))
       (match st.m.g b with
       |some (.cells s ty _)=>
        (match gY s off (len*size)with
        |some olds=>(λnx l=>
         bE (Nat.beq grow 0) (.ok (.slice st.nx 0 need need size) ⟨st.m.put st.nx (some (.cells l e true)),nx⟩)
          (bE (Bool.and (Nat.beq off 0) (Bool.and (Nat.beq grow size) (Bool.and (Nat.beq ty e) (Bool.and (bh t) (Nat.ble 1 cap)))))
           (.ok (.slice st.nx 0 need need size) ⟨(st.m.put b none).put st.nx (some (.cells l e true)),nx⟩) .bad)) (st.nx+1) (olds++t)
        |none=>.bad)
       |_=>.bad) .bad))
 |_,_=>.bad
section
variable {P:Program} {ρ:Ren} {st st':St} {w:World} {v:CV}
def bp.drop (h:WR ρ st w)(b:Nat):bp ρ st w ρ (st.drop b) w:=by
 have c:∀q blk,(st.drop b).m.g q=some blk->st.m.g q=some blk:=λq blk a=>by
  by_cases e:q=b
  .subst e;simp only[St.drop,PT.dj]at a;cases a
  .simpa only[St.drop,PT.du _ _ _ _ e]using a
 exact⟨⟨λq blk r sz a=>h.at' q blk r sz (c q blk a),λq j blk k r s s' f d=>h.inj q j blk k r s s' (c q blk f) (c j k d),h.fresh⟩,
  λ_ _ h=>h,λ_ _ h=>h,aHK _,λq blk _ sz f d=>.inl ⟨q,blk,sz,c q blk f,d⟩,λ_ _ _=>rfl,aHK _,rfl,rfl⟩
def my {size:Nat}{base:Option Addr}{olds:List Value}(g:need=sLen+n)(c:sCap<need)
 (l:need<=140737488355328) (j:need*i.bytes<=140737488355328) (hi:P.info? e=some i) (d:i.zero=some z') (k:∀a:World,a.heap=w.heap->iN.run P a=.ok vs.toArray a)
 (f:∀a:World,a.heap=w.heap->(Builtin.firstCells size sLen s).run P a=.ok olds.toArray a):
 (mQ e size zeros n iN base sLen sCap s x).run P w=
  .ok (.slice (some ⟨w.heap.size,0,none⟩) need (grownCap w need sCap e))
   {w with drawn:=w.drawn+1,heap:=w.heap.push (.cells (olds.toArray++vs.toArray++Builtin.zeroCells z'.cells (grownCap w need sCap e-need)) e)}:=by
 subst g;have r:¬(sLen+n<=sCap):=uM
 have b:IntKind.i64.max=9223372036854775807:=xI
 have q:¬(((sLen+n:Nat):Int)>IntKind.i64.max):=by rw[b];omega
 have p:¬(Builtin.nextslicecap (sLen+n) sCap*i.bytes>2^48):=by
  have:=growslice_fits (bytes:=i.bytes) c j;exact λh=>absurd (aId h this) xI
 have o:=k {w with drawn:=w.drawn+1} rfl;have m:=f {w with drawn:=w.drawn+1} rfl;simp only[mQ,Sem.run_ite,aHM r,Sem.run_bind,typeInfo,run_program,Result.andThen_ok,hi,Sem.run_pure,q,false_and,aHV,aHM p,run_choose,Question.forced,aHH,run_askRoom,o,m,zeroValue,d,newRow,run_newObj]
 rfl
def Oe (z':Value)(k:Nat):(Builtin.zeroCells z'.cells k).size=k*z'.cells.size:=by simp[Builtin.zeroCells]
def Ie (w:World)(need a:Nat)(e:TypeId):need<=grownCap w need a e:=by show need<=need+_;omega
def bp.grown {size:Nat}{l:List CV}(hw:WR ρ st w)(j:eM ρ (row l) vs)(a:vs.length=need*size)(d:z'.cells.size=size)(r:1<=size):
 ∃c,VR c (.slice st.nx 0 need need size) (.slice (some ⟨w.heap.size,0,none⟩) need (grownCap w need sCap e))/\
  bp ρ st w c ⟨st.m.put st.nx (some (.cells l e true)),(st.nx+1)⟩ {w with drawn:=w.drawn+1,heap:=w.heap.push (.cells (vs.toArray++Builtin.zeroCells z'.cells (grownCap w need sCap e-need)) e)}:=by
 have o:=Ie w need sCap e;have gV:∀b x,ρ b=some x->b≠st.nx:=λb x hx e=>acb
 have p:l.length=vs.length:=by rw[j.len]
 have g:(vs.toArray++Builtin.zeroCells z'.cells (grownCap w need sCap e-need)).size=grownCap w need sCap e*size:=by
  rw[Array.size_append,Oe,d,aKp,a,<-aIV];congr 1;omega
 have q:=BR.cells (ρ:=ρ) l e true (vs.toArray++Builtin.zeroCells z'.cells (grownCap w need sCap e-need)) 0 0 (by
  rw[g,p,a];exact aIB _ o) (by
  rw[p,Array.toList_append,aJk wb];exact j) uM (by intros;omega)
 have f:ρ.le (ρ.set st.nx (w.heap.size,grownCap w need sCap e*size)):=λb _ hr=>acg
 have k:=bp.new (hw.Fj (w':={w with drawn:=w.drawn+1}) rfl) (sz:=grownCap w need sCap e*size) ((g▸q).mono f);refine⟨_,.oI _ 0 0 need need (grownCap w need sCap e) size _ _ k.2 r (aHK _) o (λ_=>rfl) uM,(bp.draw hw (w.drawn+1)).trans k.1⟩
def mw {size:Nat}{a:Addr}{w':World}(b:sLen+n<=sCap)
 (d:iN.run P w=.ok vs.toArray w) (c:(storeCells (a.add (sLen*size)) vs).run P w=.ok () w'):
 (mQ e size zeros n iN (some a) sLen sCap s x).run P w=.ok (.slice (some a) (sLen+n) sCap) w':=by
 simp only[mQ,aHP b,Sem.run_bind,d,Result.andThen_ok,c,Sem.run_pure]
def Ch {k:IS}{t u ty size bytes:Nat}{z:List CV}{s x:CV}{s' H:Value}(h:bJ e size bytes s (cT k size z x st) st=.ok v st')(hw:WR ρ st w)(hs:VR ρ s s')(hx:VR ρ x H)
 (hf:Ed P k u size) (hu:P.underlying t=some (.slice e)) (hi:P.info? e=some i) (J:i.zero=some z') (ZK:i.size=size) (m:z'.cells.size=size) (xK:∀ρ,eM ρ z z'.cells.toList) (W:i.bytes=bytes) (BO:k=.zeros->bytes<=256):
 bH P (Builtin.append_ #[t,u] ty #[s',H]) ρ st w v st':=by
 unfold bJ at h
 split at h
 ·
   rename_i n o Cm;obtain⟨vs,zeros,iN,C,F,B,A⟩:=CL (P:=P) (w:=w) (ty:=ty) Cm hw hx hf hu hi J ZK m xK (λN=>by rw[W];exact BO N);cases hs;simp only[aO,aIf,aIs,aIr]at h
   split at h
   .rename_i M;subst M;cases h;refine bH.still hw ?_ .ae;rw[A];simp only[mQ,aIv,aHK,aIj,Sem.run_bind,B w rfl,Result.andThen_ok,Sem.run_pure]
   .rename_i M
    split at h
    .rename_i hc;cases h;obtain⟨Z,c2,Y⟩:=hc;have ab:n*i.bytes<=140737488355328:=by rw[W];exact c2
     have I:=my (P:=P) (w:=w) (e:=e) (size:=size) (n:=n) (need:=n) (sLen:=0) (sCap:=0) (zeros:=zeros) (base:=none) (s:=.slice none 0 0) (x:=H) (olds:=[]) uM uM Y ab hi J B (λV _=>ads);obtain⟨g,E,D⟩:=bp.grown (e:=e) (sCap:=0) hw C F m Z;refine⟨_,_,g,by rw[A,I],E,?_⟩
     simpa using D
    .cases h
 .rename_i b off len cap grow n o Cm;obtain⟨vs,zeros,iN,C,F,B,A⟩:=CL (P:=P) (w:=w) (ty:=ty) Cm hw hx hf hu hi J ZK m xK (λN=>by rw[W];exact BO N);obtain⟨r,sz,d,y,rfl,K,Z,c2,Y,c4⟩:=hs.eO;have ad:o.length=n*size:=by rw[C.len,F]
  simp only[aO,aIs,dH]at h
  split at h
  ·
    rename_i M;subst M
    split at h
    .rename_i f;rw[aIr]at f;cases h;have hv:vs=[]:=by apply aIh.1;rw[F];omega
     subst hv;refine bH.still hw ?_ hs;rw[A,mw uM (B w rfl) rfl];rfl
    .cases h
  .rename_i M
   split at h
   ·
     rename_i f;rw[aIr]at f;have U:len+n<=cap:=f;have ho:=Z uM;subst ho
     split at h
     .rename_i G tg gg hm
      split at h
      .rename_i ku;cases uV:dZ G (d+len*size) o with
       |none=>rw[uV]at h;cases h
       |some s2=>
        rw[uV]at h;cases h;obtain⟨w',E,D⟩:=bp.write (P:=P) hw hm K uV C ku;refine⟨_,w',ρ,by rw[A,mw uM (B w rfl) (by rw[kZ];exact E)],?_,D⟩;show VR ρ (.slice b d (len+n) cap grow) _
        by_cases p:grow=0
        .obtain⟨e1,_⟩:=Y p;subst p;subst e1;exact .slice _ _ _ _ r sz K
        .obtain⟨X,d2⟩:=c4 uM;exact .oI _ _ d _ _ y grow r sz K uM U c2 (λ_=>rfl) X
      .cases h
     .cases h
   .rename_i f;rw[aIr]at f;have U:¬len+n<=cap:=f
    split at h
    .rename_i hc;simp only[aIf,aIr]at hc;obtain⟨X,d2,d3⟩:=hc;have S:(len+n)*i.bytes<=140737488355328:=by rw[W];exact d2
     have R:len+n<=140737488355328:=d3
     split at h
     .rename_i G tg gg hm
      split at h
      .rename_i olds L;obtain⟨c,lo,Q,e1,e2,e3,e4,e5⟩:=hw.row hm K;have ac:=(ko L).1;have T:=(ko L).2;have ag:=ac;have af:len*size+n*size=(len+n)*size:=(aIV _ _ _).symm
       split at h
       ·
         rename_i p;have p:grow=0:=by simpa using p
         cases h;obtain⟨f1,f2⟩:=Y p;subst f1;subst f2
         have l:eM ρ (olds++o) ((c.toList.drop d).take (len*size)++vs):=by
          refine eM.app ?_ C;rw[show olds=(G.drop d).take (len*size)from T]
          have ee:(c.toList.drop d).take (len*size)=((c.toList.take G.length).drop d).take (len*size):=by
           rw[aJF,aJc,aIC uM]
          rw[ee];exact(e4.drop d).take _
         have a:((c.toList.drop d).take (len*size)++vs).length=(len+n)*size:=by
          rw[aHR,aHZ,aIl,aJK,F];omega
         have I:=my (P:=P) (w:=w) (e:=e) (size:=size) (n:=n) (need:=len+n) (sLen:=len) (sCap:=y) (zeros:=zeros) (base:=some ⟨r,d,none⟩) (s:=.slice (some ⟨r,d,none⟩) len y) (x:=H) (olds:=(c.toList.drop d).take (len*size)) rfl uM R S hi J B
          (λV QO=>eo P V r d (len*size) c tg (lo,Q) adN uM)
         obtain⟨g,E,D⟩:=bp.grown (e:=e) (sCap:=y) hw l a m X;refine⟨_,_,g,by rw[A,I],E,?_⟩;have:(((c.toList.drop d).take (len*size)).toArray++vs.toArray)=((c.toList.drop d).take (len*size)++vs).toArray:=wb
         rw[this];exact D
       .split at h
        ·
          rename_i O p;have O:grow≠0:=by simpa using O
          simp only[aIf,aIs,aIr]at p;obtain⟨rfl,rfl,rfl,ku,HW⟩:=p;cases h;obtain⟨f1,f2⟩:=c4 uM;have ho:d=0:=Z uM;subst ho
          have l:eM ρ (olds++o) (c.toList.take (len*grow)++vs):=by
           refine eM.app ?_ C;rw[show olds=(G.drop 0).take (len*grow)from T,aIn]
           have ee:c.toList.take (len*grow)=(c.toList.take G.length).take (len*grow):=by
            rw[aJc,aIC uM]
           rw[ee];exact e4.take _
          have a:(c.toList.take (len*grow)++vs).length=(len+n)*grow:=by
           rw[aHR,aHZ,aJK,F];omega
          by_cases nM:len+n<=y
          .have NX:(len+n)*grow<=sz:=aIz (aIB _ nM) uM
           have QX:∀v∈vs,v.oneCell'=true:=λv zp=>by
            obtain⟨j,hj,rfl⟩:=aIM zp;have:=C.len▸hj;exact nX (C.at' j o[j] _ wb wb) (nW o ku _ (aIc _))
           have aa:=gP P r (0+len*grow) tg lo Q vs 0 c w e1 e5 (by rw[F];omega) QX;have jU:=setRow_heap w r c (c.toList.take (0+len*grow+0)++vs++c.toList.drop (0+len*grow+0+vs.length)).toArray tg (lo,Q) e1
           have qQ:(c.toList.take (0+len*grow+0)++vs++c.toList.drop (0+len*grow+0+vs.length)).toArray.size=sz:=by
            simp only[aKp,aHR,aHZ,aIl,aJK];omega
           have gV:∀b x,ρ b=some x->b≠st.nx:=λb x hx e=>acb
           have Ct:ρ.le (ρ.set st.nx (r,sz)):=λq _ hq=>by rw[Ren.dy _ _ _ _ (gV q _ hq)];exact hq
           have HJ:(olds++o).length=(len+n)*grow:=by rw[l.len,a]
           have Ty:=BR.cells (ρ:=ρ) (olds++o) tg true (c.toList.take (0+len*grow+0)++vs++c.toList.drop (0+len*grow+0+vs.length)).toArray lo Q (by rw[qQ,HJ];exact NX)
            (by
             rw[HJ,show(c.toList.take (0+len*grow+0)++vs++c.toList.drop (0+len*grow+0+vs.length)).toArray.toList=c.toList.take (0+len*grow+0)++vs++c.toList.drop (0+len*grow+0+vs.length)from rfl];rw[aJk (by simpa using a)]
             simpa using l) acZ (λh=>by cases h)
           rw[qQ]at Ty;have ha:=bp.move hw hm K jU (Ty.mono Ct) (λk N=>nU w r _ k N) (pK w r _) rfl rfl;refine⟨_,_,_,by rw[A,mw nM (B w rfl) (by rw[kZ];exact aa)],?_,ha⟩;exact .oI _ _ 0 _ _ y grow r sz (Ren.eI _ _ _) uM (aHK _) nM (λ_=>rfl) uM
          .have I:=my (P:=P) (w:=w) (e:=tg) (size:=grow) (n:=n) (need:=len+n) (sLen:=len) (sCap:=y) (zeros:=zeros) (base:=some ⟨r,0,none⟩) (s:=.slice (some ⟨r,0,none⟩) len y) (x:=H) (olds:=c.toList.take (len*grow)) rfl uM R S hi J B
            (λV QO=>by
             have:=eo P V r 0 (len*grow) c tg (lo,Q) adN uM;rw[aIn]at this;exact this)
           have hd:=bp.drop hw b;obtain⟨g,E,D⟩:=bp.grown (st:=st.drop b) (e:=tg) (sCap:=y) hd.wr l a m X;refine⟨_,_,g,by rw[A,I],E,?_⟩;have:((c.toList.take (len*grow)).toArray++vs.toArray)=(c.toList.take (len*grow)++vs).toArray:=wb
           rw[this];exact hd.trans D
        .cases h
      .cases h
     .cases h
    .cases h
 .cases h
end
end
section
variable {t:List CV}{ty:TypeId}{x:CV}{x':Value}{e:TypeId}{i:TypeInfo}{y:CV}{y':Value}
def Hm (x:CV):Option Nat:=match x with| .ae=>some 0| .slice _ _ len _ _=>some len| .str l=>some l.length|_=>none
def cellsOf (a:Bool)(size n:Nat)(x:CV)(st:St):Option (List CV):=
 bE a (match x with| .str l=>if n<=l.length then some ((l.take n).map bP)else none|_=>none) (dE size n x st)
def Cy (s:List CV)(off:Nat)(t:List CV)(a:Nat):Option (List CV):=
 if off<=s.length/\s.length<=off+t.length/\off+t.length<=a then some (s.take off++t)else none
def gR (a:Bool)(size:Nat)(d s:CV)(st:St):OR:=
 match d,Hm s with
 | .ae,some _=>(match cellsOf a size 0 s st with|some _=>zn .i64 st 0|none=>.bad)
 | .slice b off len cap grow,some m=>(λn=>
  (match cellsOf a size n s st with
  |some t=>bE (Nat.beq n 0) (zn .i64 st 0)
   (bE (Bool.and (bh t) (Bool.or (Nat.beq grow 0) (Nat.ble 1 cap)))
    (match st.m.g b with
    |some (.cells s ty g)=>Option.rec (Option.rec .bad (λs'=>zn .i64 ⟨st.m.put b (some (.cells s' ty g)),st.nx⟩ n) (Cy s off t (off+cap*grow))) (λs'=>zn .i64 ⟨st.m.put b (some (.cells s' ty g)),st.nx⟩ n) (dZ s off t)
    |_=>.bad) .bad)
  |none=>.bad)) (min m len)
 |_,_=>.bad
section
variable {P:Program} {ρ:Ren} {st st':St} {w:World} {v:CV}
def bp.grow {b:Nat}{s s':List CV}{g:Bool}{off a r sz:Nat}{vs:List Value}(h:WR ρ st w)
 (l:st.m.g b=some (.cells s ty g)) (j:ρ b=some (r,sz)) (d:Cy s off t a=some s') (G:a<=sz) (f:eM ρ t vs) (B:bh t=true):
 ∃w',(storeCells ⟨r,off,none⟩ vs).run P w=.ok () w'/\bp ρ st w ρ (st.set b (.cells s' ty g)) w':=by
 obtain⟨c,lo,hi,n,e2,J,F,e5⟩:=h.row l j;unfold Cy at d
 split at d
 .rename_i hh;obtain⟨I,K,H⟩:=hh;cases d;have p:vs.length=t.length:=by rw[<-f.len]
  have u:∀v∈vs,v.oneCell'=true:=λv C=>by
   obtain⟨i,E,rfl⟩:=aIM C;have:=f.len▸E;exact nX (f.at' i t[i] _ wb wb) (nW t B _ (aIc _))
  have z:=gP P r off ty lo hi vs 0 c w n e5 uM u;refine⟨_,z,?_⟩
  have o:(s.take off++t).length=off+t.length:=by
   rw[aHR,aHZ];omega
  have A:=setRow_heap w r c (c.toList.take (off+0)++vs++c.toList.drop (off+0+vs.length)).toArray ty (lo,hi) n
  have qQ:(c.toList.take (off+0)++vs++c.toList.drop (off+0+vs.length)).toArray.size=sz:=by
   simp only[aKp,aHR,aHZ,aIl,aJK];omega
  refine bp.set h l j A ?_ (λk D=>nU w r _ k D) (pK w r _) rfl rfl;have q:=BR.cells (ρ:=ρ) (s.take off++t) ty g (c.toList.take (off+0)++vs++c.toList.drop (off+0+vs.length)).toArray lo hi (by rw[qQ,o];omega) ?_ acZ (h.YJ l j n)
  .rw[qQ]at q;exact q
  .rw[o]
   have e:(c.toList.take (off+0)++vs++c.toList.drop (off+0+vs.length)).toArray.toList.take (off+t.length)=(c.toList.take s.length).take off++vs:=by
    simp only[aIv];rw[aJk (by simp only[aHR,aHZ,aJK];omega),aJc,aIC I]
   rw[e];exact(F.take off).app f
 .cases d
def u7 {b:Bool}{size n:Nat}(h:cellsOf b size n x st=some t)(f:∀m,Hm x=some m->n<=m)(d:WR ρ st w)(c:VR ρ x x')(hs:b=true->size=1):
 ∃a,eM ρ t a/\a.length=n*size/\(Builtin.firstCells size n x').run P w=.ok a.toArray w:=by
 unfold cellsOf at h;rw[aO]at h
 split at h
 .rename_i o;have hs:=hs o;subst hs
  split at h
  .rename_i l
   split at h
   .rename_i hle;cases h;cases c;refine⟨((l.take n).map λy:UInt8=>Value.int .u8 (y.toNat:Int)),eM.bytes ρ _,zS,?_⟩
    .simp only[Builtin.firstCells,Sem.run_pure]
     congr 1
     apply Array.ext';rw[wo];simp[gF]
   .cases h
  .cases h
 .obtain⟨a,g1,k,j⟩:=mu (P:=P) h (λe g p=>by subst g;have:=f 0 rfl;omega) d c;exact⟨a,g1,k,j w rfl⟩
def yJ {l:Bool}{size:Nat}{dT sT:TypeId}{d s:CV}{M s':Value}(h:gR l size d s st=.ok v st')(j:WR ρ st w)(J:VR ρ d M)(n:VR ρ s s')
 (p:P.underlying dT=some (.slice e)) (hi:P.info? e=some i) (z:i.size=size) (K:l=true->size=1):bH P (Builtin.copy_ #[dT,sT] ty #[M,s']) ρ st w v st':=by
 have o:(Go.sizeOf e).run P w=.ok size w:=by simp[Go.sizeOf,typeInfo,hi,z]
 have a:∀m,Hm s=some m->(Builtin.lenOf s').run P w=.ok m w:=λm c=>by
  unfold Hm at c
  split at c
  .cases c;cases n;rfl
  .cases c;obtain⟨r,sz,f,Q,rfl,_⟩:=n.eO;rfl
  .cases c;cases n;simp[Builtin.lenOf]
  .cases c
 unfold gR at h
 split at h
 .rename_i m c
  split at h
  .rename_i t ht;cases h;cases J;obtain⟨F,B,L,k⟩:=u7 (P:=P) ht (λ_ _=>aJL _) j n K;refine bH.still j ?_ (.int _ _);simp[Builtin.copy_,aHU p,a m c,o,k,goInt]
  .cases h
 .rename_i b off len cap grow m c;obtain⟨r,sz,f,Q,rfl,I,U,T,S,R⟩:=J.eO;dsimp only at h
  split at h
  .rename_i t ht;obtain⟨F,B,L,k⟩:=u7 (P:=P) ht (λm' E=>by rw[c]at E;cases E;exact Nat.min_le_left _ _) j n K;simp only[aO,aIs,aIf,aIK,aIr]at h;have D:Nat.min m len=min m len:=rfl
   split at h
   .rename_i h0;cases h;have N:F=[]:=by apply aIh.1;rw[L,h0,Nat.zero_mul]
    subst N;refine bH.still j ?_ (.int _ _);rw[h0]at k;simp[Builtin.copy_,aHU p,a m c,D,h0,o,k,goInt,storeCells]
   .rename_i h0
    split at h
    .rename_i hg
     have O:f=off:=by
      rcases hg.2 with hg|hg
      .exact(S hg).2
      .exact U uM
     subst O
     split at h
     .rename_i H tg X G;cases g:dZ H f t with
      |none=>
       rw[g]at h;dsimp only at h;cases hx:Cy H f t (f+cap*grow)with
       |none=>rw[hx]at h;cases h
       |some s2=>
        rw[hx]at h;cases h
        by_cases A:grow=0
        .subst A;unfold Cy at hx
         split at hx
         .rename_i hh;exfalso;obtain⟨W,Y,V⟩:=hh;unfold dZ at g;rw[aHP uM]at g;cases g
         .cases hx
        .obtain⟨f1,f2⟩:=R uM
         have C:f+cap*grow<=sz:=by
          show f+cap*grow<=sz;have:=aIB grow T;omega
         obtain⟨w',u,q⟩:=bp.grow (P:=P) j G I hx C B hg.1;refine⟨_,w',ρ,?_,.int .i64 _,q⟩;simp[Builtin.copy_,aHU p,a m c,D,o,k,u,goInt]
      |some s2=>
       rw[g]at h;cases h;obtain⟨w',u,q⟩:=bp.write (P:=P) j G I g B hg.1;refine⟨_,w',ρ,?_,.int .i64 _,q⟩;simp[Builtin.copy_,aHU p,a m c,D,o,k,u,goInt]
     .cases h
    .cases h
  .cases h
 .cases h
def sQ (z:List CV)(x:CV)(st:St):OR:=
 match x with
 | .ae=>.ok .undef st
 | .slice b off len cap grow=>bE (Nat.beq len 0) (.ok .undef st)
  (bE (Bool.or (Nat.beq grow 0) (Nat.ble 1 cap))
   (match st.m.g b with
   |some (.cells s ty g)=>(λt=>bE (bh t) (Option.rec .bad (λs'=>.ok .undef ⟨st.m.put b (some (.cells s' ty g)),st.nx⟩) (dZ s off t)) .bad) (cH len z)
   |_=>.bad) .bad)
 |_=>.bad
def EF {t:TypeId}{z:List CV}{c:Value}(h:sQ z x st=.ok v st')(f:WR ρ st w)(j:VR ρ x x')
 (g:P.underlying t=some (.slice e)) (hi:P.info? e=some i) (hz:i.zero=some c) (m:∀ρ,eM ρ z c.cells.toList):bH P (Builtin.clear_ #[t] ty #[x']) ρ st w v st':=by
 have a:VR ρ .undef (.tuple #[]):=.undef;have E:(zeroValue e).run P w=.ok c w:=abA
 unfold sQ at h
 split at h
 .cases h;cases j;exact bH.still f (by simp[Builtin.clear_,aHU g]) a
 .rename_i b off len cap grow;obtain⟨r,sz,l,G,rfl,u,C,I,B,H⟩:=j.eO;simp only[aO,aIs,aIK,aIr]at h
  split at h
  .rename_i h0;subst h0;cases h;exact bH.still f (by simp[Builtin.clear_,aHU g]) a
  .rename_i h0
   split at h
   .rename_i hg
    have A:l=off:=by
     rcases hg with hg|hg
     .exact(B hg).2
     .exact C uM
    subst A
    split at h
    .rename_i n tg F hm
     split at h
     .rename_i o;cases d:dZ n l (cH len z)with
      |none=>rw[d]at h;cases h
      |some s2=>
       rw[d]at h;cases h
       have s:eM ρ (cH len z) (Builtin.zeroCells c.cells len).toList:=by
        rw[Builtin.zeroCells,aJv,aKB,qz];exact(m ρ).flatten len
       obtain⟨w',q,p⟩:=bp.write (P:=P) f hm u d s o;refine⟨_,w',ρ,?_,.undef,p⟩;obtain⟨D,rfl⟩:∃k,len=k+1:=⟨len-1,uM⟩;simp[Builtin.clear_,aHU g,E,q]
     .cases h
    .cases h
   .cases h
 .cases h
def C0 (mx:Bool)(x y:CV)(st:St):OR:=
 match x,y with
 | .int k a,.int j b=>bE (decide (k=j)) (.ok (.int k (if mx then (if a<b then b else a)else (if b<a then b else a))) st) .bad
 |_,_=>.bad
def CZ {mx:Bool}{ats:Array TypeId}(h:C0 mx x y st=.ok v st')(g:WR ρ st w)(f:VR ρ x x')(d:VR ρ y y'):
 bH P (bif mx then Builtin.max_ ats ty #[x',y']else Builtin.min_ ats ty #[x',y']) ρ st w v st':=by
 unfold C0 at h
 split at h
 .rename_i k a j b;rw[aO]at h
  split at h
  .rename_i c;rw[Hs]at c;subst c;cases h;cases f;cases d;refine bH.still g ?_ (.int _ _);cases mx
   .simp only[cond_false,Builtin.min_,List.foldlM_cons,List.foldlM_nil,Builtin.min2,bind_pure,Sem.run_pure]
    rfl
   .simp only[cond_true,Builtin.max_,List.foldlM_cons,List.foldlM_nil,Builtin.max2,bind_pure,Sem.run_pure]
    rfl
  .cases h
 .cases h
def Ag (x y:CV):Bool:=
 match x,y with
 | .bool a,.bool b=>a==b
 | .int j a,.int k b=>decide (j=k)&&decide (a=b)
 | .str a,.str b=>a==b
 |_,_=>false
def Ah:List CV->List CV->Bool
 |[],[]=>true
 |v::r,u::t=>Ag v u&&Ah r t
 |_,_=>false
def uP (x y:CV):Bool:=match x,y with| .agg s,.agg t=>Ah s t|x,y=>Ag x y
def yE (h:Ag x y=true)(b:VR ρ x x')(a:VR ρ y y')(n:Nat):x'=y'/\Instr.sameBits n x' y'=true:=by
 unfold Ag at h
 split at h
 .cases b;cases a;rw[beq_iff_eq]at h;subst h;exact⟨rfl,by simp[Instr.sameBits]⟩
 .simp only[aIf,aIP]at h;cases b;cases a;obtain⟨rfl,rfl⟩:=h;exact⟨rfl,by simp[Instr.sameBits]⟩
 .cases b;cases a;rw[beq_iff_eq]at h;subst h;exact⟨rfl,by simp[Instr.sameBits,beq_toListBytes]⟩
 .cases h
def GB (n:Nat):∀(s t:List CV) (l m:List Value),Ah s t=true->eM ρ s l->eM ρ t m->l=m/\(l.zip m).all (λ(x,y)=>Instr.sameBits n x y)=true:=by
 intro s
 induction s with
 |nil=>
  intro t l m h d c;cases t with
  |cons _ _=>simp[Ah]at h
  |nil=>
   have a:=aIh.1 d.len.symm;have b:=aIh.1 c.len.symm;subst a;subst b;exact⟨rfl,rfl⟩
 |cons v r j=>
  intro t l m h d c;cases t with
  |nil=>simp[Ah]at h
  |cons u r'=>
   simp only[Ah,aIf]at h;obtain⟨v',g,rfl,q,p⟩:=eM.inv (l:=r) d;obtain⟨z,m',rfl,o,k⟩:=eM.inv (l:=r') c;obtain⟨rfl,f⟩:=yE h.1 q o n;obtain⟨rfl,s2⟩:=j r' g m' h.2 p k;exact⟨rfl,by simp only[List.zip_cons_cons,List.all_cons,f,s2,Bool.and_true]⟩
def yF (h:uP x y=true)(c:VR ρ x x')(b:VR ρ y y'):x'=y'/\Instr.sameBits 10000 x' y'=true:=by
 unfold uP at h
 split at h
 .rename_i s t
  cases c with|agg _ l hl hh=>cases b with|agg _ m hm a=>
   obtain⟨rfl,d⟩:=GB (ρ:=ρ) 9999 s t l m h ⟨hl,hh⟩ ⟨hm,a⟩;refine⟨rfl,?_⟩;show Instr.sameBits (9999+1) _ _=true;simp only[Instr.sameBits,beq_self_eq_true,Bool.true_and];exact d
 .exact yE h c b 10000
end
end
section
variable {d:kK}{t:TypeId}{k:CV}{k':Value}{u:TypeDesc}{es':List MapEntry}{s:List CV}
abbrev eK:=CV×CV×Nat
def jX (d:kK)(k:CV)(c:List eK):Nat->Option (Option (Nat×CV)):=
 List.rec (motive:=λ_=>Nat->Option (Option (Nat×CV))) (λ_=>some none)
  (λe _ a i=>Option.rec none (λb=>bE b (some (some (i,e.2.1))) (a (Nat.succ i))) (mJ d k e.1)) c
def Zc (d:kK):Bool:=match d with| .bool| .int| .str| .bytes _=>true| .struct _| .array .. =>true|_=>false
def sn (d:kK)(k:CV):Bool:=Bool.and (Zc d) (Option.rec false (λb=>b) (mJ d k k))
section
variable {P:Program} {ρ:Ren} {st st':St} {w:World} {v:CV}
def iG:Nat->kK->Bool
 |0,_=>false
 |_+1,.bool=>true
 |_+1,.int=>true
 |_+1,.str=>true
 |_+1,.bytes _=>true
 |n+1,.struct fs=>MH n fs
 |n+1,.array _ _ _ e=>iG n e
 |_+1,_=>false
where MH:Nat->Yp->Bool
 |0,_=>false
 |_+1,.nil=>true
 |n+1,.cons _ _ _ d r=>iG n d&&MH n r
def yr (B:FL P w ρ d t 10000)(A:VR ρ k k'):∀(a:List eK) (es':List MapEntry) (j:Nat) (r:Option (Nat×CV)),a.length=es'.length->
 (∀(i:Nat) (e:eK) (e':MapEntry),a[i]?=some e->es'[i]?=some e'->VR ρ e.1 e'.key/\VR ρ e.2.1 e'.val/\e.2.2=e'.born)->jX d k a j=some r->
 ∃r',(Instr.findAsking t k' es' j).run P w=.ok r' w/\(match r,r' with
  |none,none=>True
  |some (i,u),some (n,g)=>i=n/\VR ρ u g/\j<=i/\∃e e',a[i-j]?=some e/\es'[i-j]?=some e'/\e.2.1=u/\e'.val=g
  |_,_=>False):=by
 intro a
 induction a with
 |nil=>
  intro es' j r hl h c;have:es'=[]:=by apply aIh.1;simpa using hl.symm
  subst this;cases c;exact⟨none,by simp[Instr.findAsking],afp⟩
 |cons e a z=>
  intro es' j r hl h c;cases es' with
  |nil=>simp at hl
  |cons e' es'=>
   obtain⟨K,J,N⟩:=h 0 e e' rfl rfl;have C:jX d k (e::a) j=Option.rec none (λb=>bE b (some (some (j,e.2.1))) (jX d k a (j+1))) (mJ d k e.1):=rfl;rw[C]at c;cases m:mJ d k e.1 with
   |none=>rw[m]at c;cases c
   |some b=>
    rw[m]at c;have o:(Op.equal t k' e'.key).run P w=.ok b w:=B k e.1 k' e'.key b m A K;cases b with
    |true=>
     cases c;exact⟨some (j,e'.val),by simp[Instr.findAsking,o],rfl,J,aHK _,e,e',wb,wb,rfl,rfl⟩
    |false=>
     obtain⟨r',q,l⟩:=z es' (j+1) r adm (λi x f hx L=>h (i+1) x f Yx (by simpa using L)) c;refine⟨r',by simp[Instr.findAsking,o,q],?_⟩;cases r with
     |none=>cases r' with
      |none=>trivial
      |some _=>exact l
     |some p=>cases r' with
      |none=>exact l
      |some y=>
       obtain⟨i,u⟩:=p;obtain⟨n,g⟩:=y;obtain⟨I,H,M,x,f,G,F,E,D⟩:=l;refine⟨I,H,uM,x,f,?_,?_,E,D⟩
       .rw[show i-j=(i-(j+1))+1 from uM];simpa using G
       .rw[show i-j=(i-(j+1))+1 from uM];simpa using F
def uO {a b:Value}{q:Bool}(c:P.underlying t=some u)(h:Instr.sameNow u a b=some q):(Op.equal t a b).run P w=.ok q w:=by
 unfold Instr.sameNow at h
 split at h
 .split at h
  .rename_i e;cases h;subst e;exact run_equalIn_int w 9999 t _ _ _ _ c
  .cases h
 .cases h;rename_i x y;rw[beq_toListBytes];exact run_equalIn_string w 9999 t x y c
 .cases h;exact run_equalIn_bool' w 9999 t _ _ c
 .cases h
def Bg (a:P.underlying t=some u):∀(es':List MapEntry) (j:Nat) (r:Option (Nat×Value)),Instr.findNow u k' es' j=some r->(Instr.findAsking t k' es' j).run P w=.ok r w:=by
 intro es'
 induction es' with
 |nil=>intro j r h;cases h;simp[Instr.findAsking]
 |cons e es' b=>
  intro j r h;simp only[Instr.findNow]at h
  split at h
  .rename_i hs;cases h;simp[Instr.findAsking,uO a hs]
  .rename_i hs;simp[Instr.findAsking,uO a hs,b _ _ h]
  .cases h
def Ij {r:Option (Nat×Value)}(a:P.underlying t=some u)(h:(Instr.findAsking t k' es' 0).run P w=.ok r w):(Instr.findKey t k' es').run P w=.ok r w:=by
 simp only[Instr.findKey,Sem.run_bind,aHU a,Result.andThen_ok];cases hn:Instr.findNow u k' es' 0 with
 |none=>exact h
 |some r'=>
  have:=Bg (P:=P) (w:=w) a es' 0 r' hn;rw[this]at h;cases h;rfl
def mE {f:Nat}{c:List eK}{r:Option (Nat×CV)}(b:fW P f t=some d)(y:f<10000)(q:VR ρ k k')(o:c.length=es'.length)
 (h:∀(i:Nat) (e:eK) (e':MapEntry),c[i]?=some e->es'[i]?=some e'->VR ρ e.1 e'.key/\VR ρ e.2.1 e'.val/\e.2.2=e'.born) (z:jX d k c 0=some r):
 ∃r',(Instr.findKey t k' es').run P w=.ok r' w/\(match r,r' with
  |none,none=>True
  |some (i,u),some (l,g)=>i=l/\VR ρ u g/\∃e e',c[i]?=some e/\es'[i]?=some e'/\e.2.1=u/\e'.val=g
  |_,_=>False):=by
 obtain⟨r',A,j⟩:=yr (P:=P) (w:=w) (Sf f t d b 10000 y) q c es' 0 r o h z
 have a:∃u,P.underlying t=some u:=by
  cases f with
  |zero=>cases b
  |succ f=>
   simp only[fW]at b;cases a:P.underlying t with
   |none=>rw[a]at b;cases b
   |some u=>exact⟨u,rfl⟩
 obtain⟨u,a⟩:=a;refine⟨r',Ij a A,?_⟩;cases r with
 |none=>cases r'<;>exact j
 |some p=>cases r' with
  |none=>exact j
  |some n=>
   obtain⟨i,u⟩:=p;obtain⟨l,g⟩:=n;obtain⟨G,F,H,x,m,E,D,C,B⟩:=j;exact⟨G,F,x,m,by simpa using E,by simpa using D,C,B⟩
def Wl (P:Program)(w:World)(ρ:Ren)(d:kK)(t:TypeId)(n:Nat):Prop:=
 ∀(e:Bool) (x:CV) (x':Value),mJ d x x=some true->VR ρ x x'->(Instr.checkKey e n t x').run P w=.ok () w
def xx {a b:Option Bool}(h:andThen a b=some true):a=some true/\b=some true:=by
 cases a with
 |none=>cases h
 |some q=>cases q with
  |false=>cases h
  |true=>exact⟨rfl,h⟩
def OA {len size:Nat}{c:Bool}{e:kK}:∀(off:Nat),Nat.rec (motive:=λ_=>Nat->Option Bool) (λ_=>some true)
        (λ_ f off=>Option.rec none (λa=>Option.rec none (λb=>andThen (mJ e a b) (f (Nat.add off size))) (iY c off size s)) (iY c off size s)) len off=some true->
 ∀j,j<len->∃x,iY c (off+j*size) size s=some x/\mJ e x x=some true:=by
 induction len with
 |zero=>intro off _ j g;omega
 |succ len f=>
  intro off h j g;simp only at h;cases hx:iY c off size s with
  |none=>rw[hx]at h;cases h
  |some x=>
   rw[hx]at h;obtain⟨n,m⟩:=xx h;cases j with
   |zero=>exact⟨x,Yx,n⟩
   |succ j=>
    obtain⟨y,l,i⟩:=f (off+size) m j uM;exact⟨y,by rw[<-l];congr 1;rw[Nat.succ_mul];omega,i⟩
def Oz {a:TypeId->Option kK}:∀(e:List Field) (r:Yp),pU P a e=some r->Bq r s s=some true->
 ∀f∈e,f.name≠ "_" /\∃i u d x,P.info? f.type=some i/\P.underlying f.type=some u/\a f.type=some d/\iY (iO u) f.offset i.size s=some x/\mJ d x x=some true:=by
 intro e
 induction e with
 |nil=>intro r _ _ f b;cases b
 |cons g e j=>
  intro r h c f b;simp only[pU]at h
  split at h
  .rename_i i u d r' gV hi hu hd l;cases h;simp only[Bq]at c;cases hx:iY (iO u) g.offset i.size s with
   |none=>rw[hx]at c;cases c
   |some x=>
    rw[hx]at c;obtain⟨n,m⟩:=xx c;rcases aHJ.1 b with rfl|b
    .exact⟨acK,i,u,d,x,hi,hu,hd,hx,n⟩
    .exact j r' l m f b
  .cases h
def UT:∀(f:Nat) (t:TypeId) (d:kK),fW P f t=some d->∀m,iG m d=true->∀n,f<n->Wl P w ρ d t n:=by
 intro f
 induction f with
 |zero=>intro t d h;cases h
 |succ f Y=>
  intro t d h m J n hn e x x' b S;obtain⟨n,rfl⟩:∃k,n=k+1:=⟨n-1,uM⟩;simp only[fW]at h
  split at h
  .rename_i hu;simp[Instr.checkKey,aHU hu]
  .rename_i k hu;simp[Instr.checkKey,aHU hu]
  .rename_i hu;simp[Instr.checkKey,aHU hu]
  .rename_i hu;simp[Instr.checkKey,aHU hu]
  .cases h;cases m<;>simp[iG]at J
  .rename_i hu;simp[Instr.checkKey,aHU hu]
  .rename_i hu;simp[Instr.checkKey,aHU hu]
  .rename_i hu;simp[Instr.checkKey,aHU hu]
  .rename_i fs hu;rw[aO]at h
   split at h
   .cases h
   .split at h
    .rename_i l o;cases h;simp only[mJ]at b
     split at b
     .rename_i s1;cases S with
      |agg _ lv D hh=>
       cases m with
       |zero=>cases J
       |succ m=>
        have X:=Oz (P:=P) fs.toList l o b;simp only[Instr.checkKey,Sem.run_bind,aHU hu,Result.andThen_ok];rw[<-Array.forIn_toList]
        have Mq:∀(q:Nat) (r:Yp) (F:List Field),pU P (fW P f) F=some r->iG.MH q r=true->∀g∈F,∀p,fW P f g.type=some p->∃O,iG O p=true:=by
         intro q
         induction q with
         |zero=>intro r F _ A;cases A
         |succ q R=>
          intro r F L A g B p N;cases F with
          |nil=>cases B
          |cons g0 F=>
           simp only[pU]at L
           split at L
           .rename_i i0 u0 d0 r0 aa XB ZA W ua;cases L;simp only[iG.MH,aIf]at A;rcases aHJ.1 B with rfl|B
            .rw[W]at N;cases N;exact⟨q,A.1⟩
            .exact R r0 F ua A.2 g B p N
           .cases L
        have B:∀g∈fs.toList,g.name≠ "_" /\∃y',(part g.type lv.toArray g.offset).run P w=.ok y' w/\(Instr.checkKey e n g.type y').run P w=.ok () w:=by
         intro g K;obtain⟨G,i,u,p,y,h2,h3,Z,h5,h6⟩:=X g K;obtain⟨y',I,H⟩:=iX (P:=P) (w:=w) h5 ⟨D,hh⟩ h2 rfl h3 rfl;obtain⟨O,U⟩:=Mq m l fs.toList o J g K p Z;exact⟨G,y',I,Y g.type p Z O U n uM e y y' h6 H⟩
        generalize fs.toList=z at B;refine Eq.trans (congrArg (λr:Result PUnit=>r.andThen _) (?_:_=Result.ok PUnit.unit w)) rfl
        induction z with
        |nil=>rfl
        |cons g z c=>
         obtain⟨G,y',I,H⟩:=B g wb;rw[List.forIn_cons];simp only[ne_eq,G,not_false_eq_true,aIj,Sem.run_bind,I,H,Result.andThen_ok,Sem.run_pure];exact c (λg' V=>B g' (by simp[V]))
     .cases b
    .cases h
  .rename_i len el hu
   split at h
   .rename_i i hi M;rw[aO]at h
    split at h
    .rename_i G;rw[aIs]at G;cases h;simp only[mJ]at b
     split at b
     .rename_i n1 sl;cases C:I3 sl with
      |none=>rw[C]at b;cases b
      |some a=>
      rw[C]at b;dsimp only at b;rw[aO]at b
      split at b
      .rename_i A;simp only[aIf,aIP]at A;obtain⟨rfl,_⟩:=A;have e1:=wk C;subst e1;rw[S.uk];have T:(Go.sizeOf el).run P w=.ok 1 w:=by simp[Go.sizeOf,typeInfo,hi,G]
       simp only[Instr.checkKey,Sem.run_bind,aHU hu,Result.andThen_ok,Std.Legacy.Range.forIn_eq_forIn_range',Std.Legacy.Range.size,Nat.sub_zero,Nat.add_one_sub_one,Nat.div_one];obtain⟨n',rfl⟩:∃k,n=k+1:=⟨n-1,uM⟩;refine Eq.trans (congrArg (λr:Result PUnit=>r.andThen _) (?_:_=Result.ok PUnit.unit w)) rfl;have o:∀j∈List.range' 0 a.length 1,j<a.length:=λj hj=>adq
       generalize List.range' 0 a.length 1=z at o
       induction z with
       |nil=>rfl
       |cons j z c=>
        have hj:=o j wb
        have hp:(part el (a.map Extern.Stop.cell).toArray (j*1)).run P w=.ok (Extern.Stop.cell (a[j]' adn)) w:=by
         simp[part,isAgg,aHU M,hj]
        rw[List.forIn_cons];simp only[Sem.run_bind,T,hp,Result.andThen_ok,Instr.checkKey,aHU M,Sem.run_pure];exact c (λQ E=>o Q (by simp[E]))
      .cases b
     .cases b
    .cases h
   .rename_i i u gV hi M
    split at h
    .rename_i p hd;cases h;simp only[mJ]at b
     split at b
     .rename_i s1;cases S with
      |agg _ lv D hh=>
       cases m with
       |zero=>cases J
       |succ m=>
        have zp:iG m p=true:=J;have T:(Go.sizeOf el).run P w=.ok i.size w:=ada
        have X:=OA (s:=s1) 0 b;simp only[Instr.checkKey,Sem.run_bind,aHU hu,Result.andThen_ok,Std.Legacy.Range.forIn_eq_forIn_range',Std.Legacy.Range.size,Nat.sub_zero,Nat.add_one_sub_one,Nat.div_one];refine Eq.trans (congrArg (λr:Result PUnit=>r.andThen _) (?_:_=Result.ok PUnit.unit w)) rfl;have o:∀j∈List.range' 0 len 1,j<len:=λj hj=>adq
        generalize List.range' 0 len 1=z at o
        induction z with
        |nil=>rfl
        |cons j z c=>
         have hj:=o j wb;obtain⟨y,b1,b2⟩:=X j hj;rw[aHN]at b1;obtain⟨y',I,H⟩:=iX (P:=P) (w:=w) b1 ⟨D,hh⟩ hi rfl M rfl;have:=Y el p hd m zp n uM e y y' b2 H;rw[List.forIn_cons];simp only[Sem.run_bind,T,I,this,Result.andThen_ok,Sem.run_pure];exact c (λQ E=>o Q (by simp[E]))
     .cases b
    .cases h
   .cases h
  .cases h
end
end
section
variable {e:eK}{es:List eK}{es':List MapEntry}{f:Nat}{d:kK}{t:TypeId}{m:Nat}{k:CV}{k':Value}{a:Int}{z:CV}{kt et:TypeId}{i:TypeInfo}{z':Value}{x:CV}{x':Value}{es2:List eK}{clock clock2 r sz:Nat}{es2':List MapEntry}{o:Obj}{r0:Nat}{y:CV}{y':Value}
def vQ (x:CV)(st:St):Option (List eK):=
 match x with
 | .fJ=>some []
 | .map b=>(match st.m.g b with|some (.map es _)=>some es|_=>none)
 |_=>none
def oT (x:CV)(st:St):Option (List eK):=
 match x with
 | .map b=>(match st.m.g b with|some (.lmap es)=>some es|_=>none)
 |_=>none
def EZ (a:Int)(v:CV):Bool:=match v with| .int .i64 n=>zeq a n|_=>false
def wT (a:Int)(es:List eK):Option CV:=List.rec (motive:=λ_=>Option CV) none (λe _ b=>bE (EZ a e.1) (some e.2.1) b) es
def rC (a:Int)(x:CV)(es:List eK):List eK:=List.rec (motive:=λ_=>List eK) [] (λe _ b=>bE (EZ a e.1) ((e.1,x,e.2.2)::b) (e::b)) es
def Kd (d:kK)(k:CV):Option Int:=match d,k with| .int,.int .i64 a=>some a|_,_=>none
def wD (d:kK)(z:CV)(b:Bool)(es:List eK)(k:CV)(st:St):OR:=
 match Kd d k with
 |some a=>(match wT a es with
  |some u=>bE b (.ok (.tuple [u,.bool true]) st) (.ok u st)
  |none=>bE b (.ok (.tuple [z,.bool false]) st) (.ok z st))
 |none=>.bad
def gj (d:kK)(z:CV)(b:Bool)(x k:CV)(st:St):OR:=
 bE (sn d k) (match oT x st with
  |some es=>wD d z b es k st
  |none=>(match vQ x st with
  |some es=>(match jX d k es 0 with
   |some (some (_,u))=>bE b (.ok (.tuple [u,.bool true]) st) (.ok u st)
   |some none=>bE b (.ok (.tuple [z,.bool false]) st) (.ok z st)
   |none=>.bad)
  |none=>.bad)) .bad
def yK (es:List eK)(i:Nat)(e:eK):List eK:=
 List.rec (motive:=λ_=>Nat->List eK) (λ_=>[]) (λx r b i=>Nat.rec (e::r) (λj _=>x::b j) i) es i
def DD (es:List eK)(i:Nat):Option eK:=List.rec (motive:=λ_=>Nat->Option eK) (λ_=>none) (λx _ b i=>Nat.rec (some x) (λj _=>b j) i) es i
def It (es:List eK)(i:Nat):List eK:=
 List.rec (motive:=λ_=>Nat->List eK) (λ_=>[]) (λx r b i=>Nat.rec r (λj _=>x::b j) i) es i
def Ax (d:kK)(b:Nat)(es:List eK)(k x:CV)(st:St):OR:=
 match Kd d k with
 |some a=>(match wT a es with
  |some _=>.ok .undef ⟨st.m.put b (some (.lmap (rC a x es))),st.nx⟩
  |none=>.ok .undef ⟨st.m.put b (some (.lmap (es++[(k,x,0)]))),st.nx⟩)
 |none=>.bad
def dG (d:kK)(m k x:CV)(st:St):OR:=
 bE (sn d k) (match m with
  | .map b=>(match st.m.g b with
    |some (.lmap es)=>Ax d b es k x st
    |some (.map es clock)=>(match jX d k es 0 with
     |some (some (i,_))=>(match DD es i with
      |some (j,_,born)=>bE (uP j k) (.ok .undef ⟨st.m.put b (some (.map (yK es i (k,x,born)) clock)),st.nx⟩) .bad
      |none=>.bad)
     |some none=>pT (Nat.succ clock) λc=>.ok .undef ⟨st.m.put b (some (.map (es++[(k,x,clock)]) c)),st.nx⟩
     |none=>.bad)
    |_=>.bad)
  |_=>.bad) .bad
def fI (d:kK)(z:CV)(m k:CV)(st:St):OR:=
 bE (sn d k) (match m with
  | .map b=>(match st.m.g b with
    |some (.map es clock)=>(match jX d k es 0 with
     |some (some (i,u))=>(match DD es i with
      |some (j,_,born)=>bE (uP j k) (.ok (.tuple [u,.int .i64 (.ofNat born)]) ⟨st.m.put b (some (.map (yK es i (k,u,born)) clock)),st.nx⟩) .bad
      |none=>.bad)
     |some none=>pT (Nat.succ clock) λc=>.ok (.tuple [z,.int .i64 (.ofNat clock)]) ⟨st.m.put b (some (.map (es++[(k,z,clock)]) c)),st.nx⟩
     |none=>.bad)
    |_=>.bad)
  |_=>.bad) .bad
def tC (b:Nat)(es:List eK):Nat->Option (Nat×eK):=
 List.rec (motive:=λ_=>Nat->Option (Nat×eK)) (λ_=>none) (λx _ c i=>bE (Nat.beq x.2.2 b) (some (i,x)) (c (Nat.succ i))) es
def dY (m s x:CV)(st:St):OR:=
 match m,s with
 | .map b,.int _ (.ofNat born)=>(match st.m.g b with
   |some (.map es clock)=>(match tC born es 0 with
    |some (i,(k,_,bn))=>.ok .undef ⟨st.m.put b (some (.map (yK es i (k,x,bn)) clock)),st.nx⟩
    |none=>.bad)
   |_=>.bad)
 |_,_=>.bad
def pO (d:kK)(m k:CV)(st:St):OR:=
 bE (sn d k) (match m with
  | .fJ=>.ok .undef st
  | .map b=>(match st.m.g b with
    |some (.map es clock)=>(match jX d k es 0 with
     |some (some (i,_))=>.ok .undef ⟨st.m.put b (some (.map (It es i) clock)),st.nx⟩
     |some none=>.ok .undef st
     |none=>.bad)
    |_=>.bad)
  |_=>.bad) .bad
def jz (r:Option CV)(st:St):OR:=
 match r with
 |none|some (.int _ _)=>pT (st.nx+1) λn=>.ok (.map st.nx) ⟨st.m.put st.nx (some (.map [] 0)),n⟩
 |_=>.bad
section
variable {P:Program} {ρ:Ren} {st st':St} {w:World} {v:CV}
def rT (ρ:Ren)(es:List eK)(es':List MapEntry):Prop:=
 es.length=es'.length/\∀(i:Nat) (e:eK) (e':MapEntry),es[i]?=some e->es'[i]?=some e'->VR ρ e.1 e'.key/\VR ρ e.2.1 e'.val/\e.2.2=e'.born
def rT.nil:rT ρ [] []:=⟨rfl,λi e e' h=>aap⟩
def rT.cons {e':MapEntry}(h:VR ρ e.1 e'.key/\VR ρ e.2.1 e'.val/\e.2.2=e'.born)(t:rT ρ es es'):rT ρ (e::es) (e'::es'):=
 ⟨by simp[t.1],λi x x' a b=>by
  cases i with
  |zero=>simp at a b;subst a;subst b;exact h
  |succ i=>exact t.2 i x x' adw aeQ⟩
def rT.inv (h:rT ρ (e::es) es'):∃e' c,es'=e'::c/\(VR ρ e.1 e'.key/\VR ρ e.2.1 e'.val/\e.2.2=e'.born)/\rT ρ es c:=by
 cases es' with
 |nil=>have:=h.1;simp at this
 |cons e' c=>exact⟨e',c,rfl,h.2 0 e e' rfl rfl,by have:=h.1;simpa using this,λi x x' a b=>h.2 (i+1) x x' adw aeQ⟩
def rT.app {c:List eK}{b:List MapEntry}(h:rT ρ es es')(t:rT ρ c b):rT ρ (es++c) (es'++b):=by
 induction es generalizing es' with
 |nil=>have:es'=[]:=by have:=h.1;simpa using this.symm
       subst this;exact t
 |cons e es g=>obtain⟨e',n,rfl,l,j⟩:=h.inv;exact rT.cons l (g j)
def rT.mod {f:MapEntry->MapEntry}:∀{es:List eK} {es':List MapEntry} (i:Nat),rT ρ es es'->(∀e',es'[i]?=some e'->VR ρ e.1 (f e').key/\VR ρ e.2.1 (f e').val/\e.2.2=(f e').born)->rT ρ (yK es i e) (es'.modify i f):=by
 intro es
 induction es with
 |nil=>
  intro es' i h _;have:es'=[]:=by have:=h.1;simpa using this.symm
  subst this;rw[List.modify_nil];exact h
 |cons x es g=>
  intro es' i h b;obtain⟨x',l,rfl,j,c⟩:=h.inv;cases i with
  |zero=>
   show rT ρ (e::es) _;rw[List.modify_zero_cons];exact rT.cons (b x' rfl) c
  |succ i=>
   show rT ρ (x::yK es i e) _;rw[List.modify_succ_cons];exact rT.cons j (g i c (λe' he=>b e' acn))
def rT.del:∀{es:List eK} {es':List MapEntry} (i:Nat),rT ρ es es'->rT ρ (It es i) (es'.eraseIdx i):=by
 intro es
 induction es with
 |nil=>
  intro es' i h;have:es'=[]:=by have:=h.1;simpa using this.symm
  subst this;rw[List.eraseIdx_nil];exact h
 |cons x es c=>
  intro es' i h;obtain⟨x',j,rfl,g,b⟩:=h.inv;cases i with
  |zero=>exact b
  |succ i=>
   show rT ρ (x::It es i) _;rw[List.eraseIdx_cons_succ];exact rT.cons g (c i b)
def Io:∀(es:List eK) (i:Nat),DD es i=es[i]?:=by
 intro es
 induction es with
 |nil=>intro i;rfl
 |cons x es b=>intro i;cases i with
  |zero=>rfl
  |succ i=>show DD es i=_;rw[b];simp
def mY (h:sn d k=true)(l:fW P f t=some d)(j:f<10000)(c:iG m d=true)(g:VR ρ k k')(e:Bool):(Instr.checkKey e 10000 t k').run P w=.ok () w:=by
 unfold sn at h;simp only[aIf]at h
 have:mJ d k k=some true:=by
  cases hc:mJ d k k with
  |none=>rw[hc]at h;cases h.2
  |some b=>rw[hc]at h;rw[show b=true from h.2]
 exact UT f t d l m c 10000 j e k k' this g
def eM.two {a b:CV}{g c:Value}(l:VR ρ a g)(j:VR ρ b c):eM ρ [a,b] [g,c]:=eM.cons l (eM.cons j (eM.nil ρ))
def pS {v:CV}:EZ a v=true↔v=.int .i64 a:=by
 unfold EZ
 split
 .rw[zz];constructor
  .intro h;rw[h]
  .intro h;cases h;rfl
 .rename_i h;constructor
  .intro hh;cases hh
  .intro hh;subst hh;exact(h _ rfl).elim
def Dg (a:Int)(e:eK)(es:List eK):wT a (e::es)=bE (EZ a e.1) (some e.2.1) (wT a es):=rfl
def NB (a:Int)(x:CV)(e:eK)(es:List eK):rC a x (e::es)=bE (EZ a e.1) ((e.1,x,e.2.2)::rC a x es) (e::rC a x es):=rfl
def oR (a:Int)(x:CV)(es:List eK):rC a x es=es.map λe=>if EZ a e.1=true then (e.1,x,e.2.2)else e:=by
 induction es with
 |nil=>rfl
 |cons e es b=>
  rw[NB,aIt,<-b,aO]
  split<;>rfl
def yh :∀{es:List eK} {u:CV},wT a es=some u->∃e∈es,e.1=.int .i64 a/\e.2.1=u:=by
 intro es
 induction es with
 |nil=>intro u h;cases h
 |cons e es b=>
  intro u h;rw[Dg,aO]at h
  split at h
  .rename_i hh;cases h;exact⟨e,aIO ..,pS.1 hh,rfl⟩
  .obtain⟨e',h1,h2⟩:=b h;exact⟨e',aIH _ h1,h2⟩
def tX :∀{es:List eK},wT a es=none->∀e∈es,e.1≠ .int .i64 a:=by
 intro es
 induction es with
 |nil=>intro _ e j;cases j
 |cons e es g=>
  intro h x b;rw[Dg,aO]at h
  split at h
  .cases h
  .rename_i hh;rcases aHJ.1 b with rfl|b
   .exact λc=>hh (pS.2 c)
   .exact g h x b
def Nv (c:(es.map (·.1)).Nodup){f:eK}(j:e∈es)(g:f∈es)(h:e.1=f.1):e=f:=by
 induction es with
 |nil=>cases j
 |cons x es l=>
  rw[aIt,aHX]at c;rcases aHJ.1 j with b|b
  .rcases aHJ.1 g with hf1|hf1
   .rw[b,hf1]
   .exact absurd (by rw[<-b,h];exact aIW (f:=(·.1)) hf1) c.1
  .rcases aHJ.1 g with hf1|hf1
   .exact absurd (by rw[<-hf1,<-h];exact aIW (f:=(·.1)) b) c.1
   .exact l c.2 b hf1
def yN {l:List eK}(R:fW P f t=some .int)(Q:f<10000)(O:VR ρ (.int .i64 a) k')(hi:∀e∈l,∃n:Int,e.1=.int .i64 n)(X:l.length=es'.length)
 (h:∀(i:Nat) (e:eK) (e':MapEntry),l[i]?=some e->es'[i]?=some e'->VR ρ e.1 e'.key/\VR ρ e.2.1 e'.val):
 ∃r',(Instr.findKey t k' es').run P w=.ok r' w/\(match r' with
  |none=>∀e∈l,e.1≠ .int .i64 a
  |some (j,N)=>∃e e',l[j]?=some e/\es'[j]?=some e'/\e.1=.int .i64 a/\e'.val=N):=by
 have H:∀(l:List eK) (i:Nat),(∀e∈l,∃n:Int,e.1=.int .i64 n)->
  (∃j e,l[j]?=some e/\e.1=.int .i64 a/\jX .int (.int .i64 a) l i=some (some (i+j,e.2.1)))\/((∀e∈l,e.1≠ .int .i64 a)/\jX .int (.int .i64 a) l i=some none):=by
  intro l
  induction l with
  |nil=>intro i _;exact .inr ⟨λe A=>(by cases A),rfl⟩
  |cons e l V=>
   intro i hi;obtain⟨n,K⟩:=hi e (aIO ..);have g:jX .int (.int .i64 a) (e::l) i=Option.rec none (λb=>bE b (some (some (i,e.2.1))) (jX .int (.int .i64 a) l (Nat.succ i))) (mJ .int (.int .i64 a) e.1):=rfl;rw[g,K];have M:mJ .int (.int .i64 a) (.int .i64 n)=some (zeq a n):=rfl;rw[M];dsimp only;rw[aO]
   by_cases E:zeq a n=true
   .rw[aHP E];have:=(zz a n).1 E;subst this;exact .inl ⟨0,e,rfl,K,rfl⟩
   .rw[aHM E];rcases V (i+1) (λe A=>hi e (aIH _ A))with⟨j,e',h1,c,B⟩|⟨h1,c⟩
    .exact .inl ⟨j+1,e',aal,c,by rw[show i+(j+1)=i+1+j from uM];exact B⟩
    .refine .inr ⟨λx J=>?_,c⟩;rcases aHJ.1 J with rfl|J
     .rw[K];intro hh;cases hh;exact E ((zz _ _).2 rfl)
     .exact h1 x J
 have s:∀(i:Nat) (e:eK) (e':MapEntry),(List.zipWith (λ(e:eK) (e':MapEntry)=>((e.1,e.2.1,e'.born):eK)) l es')[i]?=some e->es'[i]?=some e'->∃g,l[i]?=some g/\e=(g.1,g.2.1,e'.born):=by
  intro i e e' h1 c;rw[List.getElem?_zipWith]at h1;cases B:l[i]? with
  |none=>rw[B]at h1;simp at h1
  |some g=>rw[B,c]at h1;simp at h1;exact⟨g,rfl,h1.symm⟩
 have I:∀e∈List.zipWith (λ(e:eK) (e':MapEntry)=>((e.1,e.2.1,e'.born):eK)) l es',∃n:Int,e.1=.int .i64 n:=by
  intro e A;obtain⟨i,G,rfl⟩:=aIM A;have u:i<es'.length:=by simp at G;omega
  obtain⟨g,L,F⟩:=s i _ es'[i] (aHO G) (aHO u);rw[F];exact hi g (aII L)
 have q:(List.zipWith (λ(e:eK) (e':MapEntry)=>((e.1,e.2.1,e'.born):eK)) l es').length=es'.length:=by simp[X]
 have S:∀(i:Nat) (e:eK) (e':MapEntry),(List.zipWith (λ(e:eK) (e':MapEntry)=>((e.1,e.2.1,e'.born):eK)) l es')[i]?=some e->es'[i]?=some e'->VR ρ e.1 e'.key/\VR ρ e.2.1 e'.val/\e.2.2=e'.born:=by
  intro i e e' h1 c;obtain⟨g,L,F⟩:=s i e e' h1 c;obtain⟨C,D⟩:=h i g e' L c;rw[F];exact⟨C,D,rfl⟩
 rcases H _ 0 I with⟨j,e,h1,c,B⟩|⟨h1,c⟩
 .obtain⟨r',f1,f2⟩:=mE (P:=P) (w:=w) R Q O q S B;cases r' with
  |none=>exact f2.elim
  |some p=>
   obtain⟨Z,N⟩:=p;obtain⟨rfl,F,M,e',C,D,g5,Y⟩:=f2;rw[aHN]at C D f1;obtain⟨g,U,T⟩:=s j M e' C D;rw[h1]at C;cases C;refine⟨_,f1,g,e',U,D,?_,Y⟩;rw[T]at c;exact c
 .obtain⟨r',f1,f2⟩:=mE (P:=P) (w:=w) R Q O q S c;cases r' with
  |some p=>exact f2.elim
  |none=>
   refine⟨_,f1,λe A=>?_⟩;obtain⟨i,G,rfl⟩:=aIM A;have u:i<es'.length:=uM
   have W:(List.zipWith (λ(e:eK) (e':MapEntry)=>((e.1,e.2.1,e'.born):eK)) l es')[i]?=some (l[i].1,l[i].2.1,es'[i].born):=by
    rw[List.getElem?_zipWith,aHO G,aHO u]
   exact h1 (l[i].1,l[i].2.1,es'[i].born) (aII W)
def Cb {n:Bool}(h:gj d z n x k st=.ok v st')(s:WR ρ st w)(S:VR ρ x x')(V:VR ρ k k')
 (U:P.underlying t=some (.map kt et)) (X:fW P f kt=some d) (W:f<10000) (hm:iG m d=true) (hi:P.info? et=some i) (hz:i.zero=some z') (I:VR ρ z z'):bH P (Instr.lookup t x' k' n) ρ st w v st':=by
 unfold gj at h;rw[aO]at h
 split at h
 .rename_i HS;have N:=λe=>mY (w:=w) HS X W hm V e
  by_cases A:∃es,oT x st=some es
  .obtain⟨es,A⟩:=A;rw[A]at h;dsimp only at h;have M:(zeroValue et).run P w=.ok z' w:=by simp[zeroValue,typeInfo,hi,hz]
   unfold oT at A
   split at A
   .rename_i b
    split at A
    .rename_i aa Q;cases A;cases S with
     |map _ r0 sz O=>
      obtain⟨l,clock,es',Z,E,Y,h4,h5,h6,h7⟩:=s.lmap Q O;unfold wD at h
      split at h
      .rename_i a J;unfold Kd at J
       split at J
       .cases J;obtain⟨r',L,D⟩:=yN (P:=P) (w:=w) X W V (λe g=>Y e (E.mem_iff.1 g)) h6 h7
        have F:∀c q,(match r' with|some (_,u)=>(.ok (u,true) w:Result (Value×Bool))|none=>.ok (z',false) w)=.ok (c,q) w->
         (Instr.lookup t (.map (some r0)) k' n).run P w=.ok (if n then .tuple #[c,.bool q]else c) w:=by
         intro c q C;simp only[Instr.lookup,Sem.run_bind,aHU U,Result.andThen_ok,Sem.run_pure,dF Z,N,L];cases r' with
         |none=>cases C;simp[M]
         |some p=>cases C;simp
        cases hg:wT a es with
        |some u=>
         rw[hg]at h;obtain⟨e,g,KA,Mp⟩:=yh hg;cases r' with
         |none=>exact absurd KA (D e (E.mem_iff.2 g))
         |some p=>
          obtain⟨j,c⟩:=p;obtain⟨H,e',K,G,g3,g4⟩:=D;have Tu:=Nv h4 (E.mem_iff.1 (aII K)) g (by rw[g3,KA]);subst Tu;have T:=(h7 j _ _ K G).2;rw[Mp,g4]at T;have B:=F c true rfl;cases n with
          |false=>cases h;exact bH.still s B T
          |true=>cases h;exact bH.still s B (VR.tuple' (eM.two T (.bool true)))
        |none=>
         rw[hg]at h;cases r' with
         |some p=>
          obtain⟨j,c⟩:=p;obtain⟨H,e',K,G,g3,g4⟩:=D;exact absurd g3 (tX hg H (E.mem_iff.1 (aII K)))
         |none=>
          have B:=F z' false rfl;cases n with
          |false=>cases h;exact bH.still s B I
          |true=>cases h;exact bH.still s B (VR.tuple' (eM.two I (.bool false)))
       .cases J
      .cases h
    .cases A
   .cases A
  have ab:oT x st=none:=by
   cases hh:oT x st with
   |none=>rfl
   |some es=>exact absurd ⟨es,hh⟩ A
  rw[ab]at h;dsimp only at h;cases g:vQ x st with
  |none=>rw[g]at h;cases h
  |some es=>
   rw[g]at h;dsimp only at h
   have R:∃es':List MapEntry,rT ρ es es'/\∀(r:Option (Nat×Value)),(Instr.findKey kt k' es').run P w=.ok r w->∀c q,(match r with|some (_,u)=>(.ok (u,true) w:Result (Value×Bool))|none=>.ok (z',false) w)=.ok (c,q) w->
    (Instr.lookup t x' k' n).run P w=.ok (if n then .tuple #[c,.bool q]else c) w:=by
    have M:(zeroValue et).run P w=.ok z' w:=abA
    unfold vQ at g
    split at g
    .cases g;cases S;refine⟨[],rT.nil,λr B c q C=>?_⟩;simp only[Instr.lookup,Sem.run_bind,aHU U,Result.andThen_ok,Sem.run_pure,N,B];cases r with
     |none=>cases C;simp[M]
     |some p=>cases C;simp
    .rename_i b
     split at g
     .rename_i aa clock Q;cases g;cases S with
      |map _ r0 sz O=>
       obtain⟨es',Z,E,Y⟩:=s.map Q O;refine⟨es',⟨E,Y⟩,λr B c q C=>?_⟩;simp only[Instr.lookup,Sem.run_bind,aHU U,Result.andThen_ok,Sem.run_pure,dF Z,N,B];cases r with
       |none=>cases C;simp[M]
       |some p=>cases C;simp
     .cases g
    .cases g
   obtain⟨es',H,e2⟩:=R;cases hc:jX d k es 0 with
   |none=>rw[hc]at h;cases h
   |some r=>
    rw[hc]at h;obtain⟨r',L,D⟩:=mE (P:=P) (w:=w) X W V H.1 H.2 hc;cases r with
    |none=>
     cases r' with
     |some _=>exact D.elim
     |none=>
      have:=e2 none L z' false rfl;cases n with
      |false=>cases h;exact bH.still s this I
      |true=>cases h;exact bH.still s this (VR.tuple' (eM.two I (.bool false)))
    |some p=>
     obtain⟨j,u⟩:=p;cases r' with
     |none=>exact D.elim
     |some p'=>
      obtain⟨j',c⟩:=p';obtain⟨_,G,_⟩:=D;have:=e2 _ L c true rfl;cases n with
      |false=>cases h;exact bH.still s this G
      |true=>cases h;exact bH.still s this (VR.tuple' (eM.two G (.bool true)))
 .cases h
def bp.yg {b:Nat}(j:WR ρ st w)(n:st.m.g b=some (.map es clock))(l:ρ b=some (r,sz))(p:rT ρ es2 es2'):
 bp ρ st w ρ (st.set b (.map es2 clock2)) {w with heap:=w.heap.setIfInBounds r (.map es2'.toArray clock2)}:=by
 obtain⟨es',s,_⟩:=j.map n l;have c:=(aIy.1 s).1;exact bp.set j n l (by simp[c]) (.map es2 clock2 es2' p.1 p.2 sz) (λk q=>by simp[aIU (aIG q)]) wb rfl rfl
def fw {es:Array MapEntry}(h:w.heap[r]?=some (.map es clock)):(setObj r o).run P w=.ok () {w with heap:=w.heap.setIfInBounds r o}:=by
 simp only[setObj,Sem.run,h]
def bp.LR {b:Nat}{l2:List eK}(j:WR ρ st w)(p:st.m.g b=some (.lmap es))(l:ρ b=some (r,sz))(s:l2.Perm es2)(hi:∀e∈es2,∃n:Int,e.1=.int .i64 n)(u:(es2.map (·.1)).Nodup)
 (q:Go.MapKept.Stamped es2'.toArray clock2) (A:l2.length=es2'.length) (h:∀(i:Nat) (e:eK) (e':MapEntry),l2[i]?=some e->es2'[i]?=some e'->VR ρ e.1 e'.key/\VR ρ e.2.1 e'.val):
 bp ρ st w ρ (st.set b (.lmap es2)) {w with heap:=w.heap.setIfInBounds r (.map es2'.toArray clock2)}:=by
 obtain⟨_,_,es',C,_⟩:=j.lmap p l;have c:=(aIy.1 C).1;exact bp.set j p l (by simp[c]) (.lmap es2 l2 clock2 es2' s hi u q A h sz) (λk B=>by simp[aIU (aIG B)]) wb rfl rfl
def vJ {n:Int}{v':Value}(h:VR ρ (.int .i64 n) v'):v'=.int .i64 n:=by cases h;rfl
def CY {b:Nat}(h:Ax d b es k y st=.ok v st')(hw:WR ρ st w)(Y:st.m.g b=some (.lmap es))(X:ρ b=some (r0,sz))(Q:VR ρ k k')(A:VR ρ y y')
 (hu:P.underlying t=some (.map kt et)) (hd:fW P f kt=some d) (hf:f<10000) (vO:∀e,(Instr.checkKey e 10000 kt k').run P w=.ok () w):v=.undef/\∃(es2':List MapEntry) (clock2:Nat),(Instr.mapUpdate t (.map (some r0)) k' y').run P w=.ok () {w with heap:=w.heap.setIfInBounds r0 (.map es2'.toArray clock2)}/\bp ρ st w ρ st' {w with heap:=w.heap.setIfInBounds r0 (.map es2'.toArray clock2)}:=by
 obtain⟨l,clock,es',U,I,T,h4,h5,S,L⟩:=hw.lmap Y X;obtain⟨s1,s2,Z⟩:=h5;unfold Ax at h
 split at h
 .rename_i a R;unfold Kd at R
  split at R
  .cases R;obtain⟨r',f1,W⟩:=yN (P:=P) (w:=w) hd hf Q (λe s=>T e (I.mem_iff.1 s)) S L;have uc:=vJ Q;subst uc;cases hg:wT a es with
   |none=>
    rw[hg]at h;cases h;cases r' with
    |some p=>
     obtain⟨j,u'⟩:=p;obtain⟨N,e',V,D,M,g4⟩:=W;exact absurd M (tX hg N (I.mem_iff.1 (aII V)))
    |none=>
     have jU:∀e'∈es',e'.key≠ .int .i64 a:=by
      intro e' OU hh;obtain⟨i,hi,rfl⟩:=aIM OU;have B:i<l.length:=uM
      have J:=(L i l[i] _ (aHO B) (aHO hi)).1;obtain⟨n,K⟩:=T _ (I.mem_iff.1 (aIc B));rw[K,hh]at J;cases J;exact W _ (aIc B) K
     refine⟨rfl,es'++[{key:=Value.int IntKind.i64 a,val:=y',born:=clock}],clock+1,?_,?_⟩
     .simp only[Instr.mapUpdate,Sem.run_bind,aHU hu,Result.andThen_ok,dF U,vO,f1,fw U];simp
     refine bp.LR (es2:=es++[(CV.int IntKind.i64 a,y,0)]) (l2:=l++[(CV.int IntKind.i64 a,y,0)]) (clock2:=clock+1) (es2':=es'++[{key:=Value.int IntKind.i64 a,val:=y',born:=clock}]) hw Y X (I.append_right _) ?_ ?_ ⟨?_,?_,?_⟩ (by simp[S]) ?_
     .intro e s;rcases aHT.1 s with s|s
      .exact T e s
      .rw[aJb.1 s];exact⟨a,rfl⟩
     .rw[aIQ,aIE];refine⟨h4,wb,?_⟩;intro x c y A C;obtain⟨e,s,rfl⟩:=aIk.1 c;simp at A;subst A;exact tX hg e s C
     .intro x c;rw[aHT]at c;rcases c with c|c
      .have:=s1 x c;omega
      .rw[aJb.1 c];exact aKx _
     .rw[aIQ,aIE];refine⟨s2,wb,?_⟩;intro x c y A C;obtain⟨e,s,rfl⟩:=aIk.1 c;simp at A;subst A;have:=s1 e s;omega
     .rw[aIQ,aIE];refine⟨Z,wb,?_⟩;intro x c y A C;obtain⟨e,s,rfl⟩:=aIk.1 c;simp at A;subst A;exact jU e s C
     .intro i e e' a1 a2;rcases aIX i l.length with B|ov
      .rw[aJi B]at a1;rw[aJi uM]at a2;exact L i e e' a1 a2
      .rw[aIY ov]at a1;rw[aIY uM,<-S]at a2;generalize i-l.length=q at a1 a2;cases q with
       |zero=>simp at a1 a2;subst a1;subst a2;exact⟨Q,A⟩
       |succ q=>simp at a1
   |some u=>
    rw[hg]at h;cases h;obtain⟨e,s,KA,Mp⟩:=yh hg;cases r' with
    |none=>exact absurd KA (W e (I.mem_iff.2 s))
    |some p=>
     obtain⟨j,u'⟩:=p;obtain⟨N,e',V,D,M,g4⟩:=W
     have HP:e'.key=.int .i64 a:=by
      have J:=(L j _ _ V D).1;rw[M]at J;exact vJ J
     have Mh:∀(l:List eK),(rC a y l).map (·.1)=l.map (·.1):=by
      intro l;rw[oR,aKs];apply List.map_congr_left;intro x _;show(if EZ a x.1=true then (x.1,y,x.2.2)else x).1=x.1
      split<;>rfl
     have Rk:((es'.modify j λe=>{e with key:=.int .i64 a,val:=y'}).map (·.key))=es'.map (·.key):=by
      apply aJR;intro i;rw[aIu,aIu,List.getElem?_modify]
      by_cases E:j=i
      .subst E;rw[D];simp[HP]
      .simp[E]
     have Rx:((es'.modify j λe=>{e with key:=.int .i64 a,val:=y'}).map (·.born))=es'.map (·.born):=by
      apply aJR;intro i;rw[aIu,aIu,List.getElem?_modify]
      by_cases E:j=i
      .subst E;rw[D];simp
      .simp[E]
     refine⟨rfl,es'.modify j λe=>{e with key:=.int .i64 a,val:=y'},clock,?_,?_⟩
     .have aa:Instr.sameBits 10000 (.int .i64 a) (.int .i64 a)=true:=by simp[Instr.sameBits]
      simp only[Instr.mapUpdate,Sem.run_bind,aHU hu,Result.andThen_ok,dF U,vO,f1,Instr.keyThatStays,aJd,D,aIZ,aJg,HP,aa,aIj,Sem.run_pure,fw U];simp
     refine bp.LR (l2:=rC a y l) (clock2:=clock) (es2':=es'.modify j λe=>{e with key:=.int .i64 a,val:=y'}) hw Y X (by rw[oR,oR];exact I.map _) ?_ (by rw[Mh];exact h4) ⟨?_,?_,?_⟩ (by rw[oR];simp[S]) ?_
     .intro x c;rw[oR,aIk]at c;obtain⟨H,O,rfl⟩:=c;obtain⟨n,K⟩:=T H O
      split
      .exact⟨n,K⟩
      .exact⟨n,K⟩
     .intro x c;have:x.born∈(es'.modify j λe=>{e with key:=.int .i64 a,val:=y'}).map (·.born):=aIW c;rw[Rx,aIk]at this;obtain⟨H,O,e0⟩:=this;rw[<-e0];exact s1 H O
     .show((es'.modify j λe=>{e with key:=.int .i64 a,val:=y'}).map (·.born)).Nodup;rw[Rx];exact s2
     .show((es'.modify j λe=>{e with key:=.int .i64 a,val:=y'}).map (·.key)).Nodup;rw[Rk];exact Z
     .intro i x x' a1 a2;rw[oR,aIu]at a1;rw[List.getElem?_modify]at a2
      by_cases E:j=i
      .subst E;rw[V]at a1;rw[D]at a2;simp at a1 a2;subst a2;rw[aHP (pS.2 M)]at a1;subst a1;exact⟨by rw[M];exact Q,A⟩
      .cases F:l[i]? with
       |none=>rw[F]at a1;simp at a1
       |some H=>
        rw[F]at a1;have Wh:es'[i]?=some x':=by simpa[E]using a2
        obtain⟨b1,b2⟩:=L i H x' F Wh
        have gV:¬EZ a H.1=true:=by
         intro hh;have O:=pS.1 hh;rw[O]at b1;have Tt:=vJ b1;have G:=(aHW.1 D).1;have Fb:=(aHW.1 Wh).1;have jm:=aKl.1 Z
         have N:(es'.map (·.key))[j]'(by simpa using G)=.int .i64 a:=by
          have:=(aHW.1 D).2;rw[aJw,this,HP]
         have e2:(es'.map (·.key))[i]'(by simpa using Fb)=.int .i64 a:=by
          have:=(aHW.1 Wh).2;rw[aJw,this,Tt]
         rcases aIX j i with A5|A5
         .exact jm j i (by simpa using G) (by simpa using Fb) A5 (by exact N.trans e2.symm)
         .exact jm i j (by simpa using Fb) (by simpa using G) uM (by exact e2.trans N.symm)
        simp only[aIZ,aJo]at a1;rw[aHM gV]at a1;subst a1;exact⟨b1,b2⟩
  .cases R
 .cases h
def GX {b:Nat}(h:Ax d b es k y st=.ok v st')(p:WR ρ st w)(l:st.m.g b=some (.lmap es))(j:ρ b=some (r0,sz))(s:VR ρ k k')(n:VR ρ y y')
 (q:P.underlying t=some (.map kt et)) (A:fW P f kt=some d) (u:f<10000) (c:∀e,(Instr.checkKey e 10000 kt k').run P w=.ok () w):DP P (Instr.mapUpdate t (.map (some r0)) k' y') ρ st w v st':=by
 obtain⟨D,es2,clock2,C,B⟩:=CY h p l j s n q A u c;exact⟨_,ρ,C,D,B⟩
def qC (h:dG d x k y st=.ok v st')(n:WR ρ st w)(I:VR ρ x x')(c:VR ρ k k')(B:VR ρ y y')
 (C:P.underlying t=some (.map kt et)) (E:fW P f kt=some d) (D:f<10000) (N:iG m d=true):DP P (Instr.mapUpdate t x' k' y') ρ st w v st':=by
 unfold dG at h;rw[aO]at h
 split at h
 .rename_i R;have A:=λe=>mY (w:=w) R E D N c e
  split at h
  .rename_i b
   split at h
   .rename_i es l;cases I with
    |map _ r0 sz g=>exact GX h n l g c B C E D A
   .rename_i es clock l;cases I with
    |map _ r0 sz g=>
     obtain⟨es',s,F,q⟩:=n.map l g;cases hc:jX d k es 0 with
     |none=>rw[hc]at h;cases h
     |some r=>
      rw[hc]at h;obtain⟨r',K,H⟩:=mE (P:=P) (w:=w) E D c F q hc;cases r with
      |none=>
       cases r' with
       |some _=>exact H.elim
       |none=>
        dsimp only at h;rw[dH]at h;cases h;refine⟨_,ρ,?_,rfl,bp.yg (clock2:=clock+1) n l g (rT.app ⟨F,q⟩ (rT.cons (e:=(k,y,clock)) (e':={key:=k',val:=y',born:=clock}) ⟨c,B,rfl⟩ rT.nil))⟩;simp only[Instr.mapUpdate,Sem.run_bind,aHU C,Result.andThen_ok,dF s,A,K,fw s];simp
      |some p=>
       obtain⟨j,u⟩:=p;cases r' with
       |none=>exact H.elim
       |some M=>
        obtain⟨W,T⟩:=M;obtain⟨rfl,Z,e,e',J,G,Y,X⟩:=H;dsimp only at h;rw[Io,J]at h;obtain⟨V,S,born⟩:=e;dsimp only at h;rw[aO]at h
        split at h
        .rename_i hs;cases h;obtain⟨Q,a2,O⟩:=q j _ _ J G;obtain⟨U,s2⟩:=yF hs Q c
         refine⟨_,ρ,?_,rfl,bp.yg (clock2:=clock) n l g (rT.mod (e:=(k,y,born)) (f:=λe=>{e with key:=k',val:=y'}) j ⟨F,q⟩ (λe2 L=>by
          rw[G]at L;cases L;exact⟨c,B,O⟩))⟩
         simp only[Instr.mapUpdate,Sem.run_bind,aHU C,Result.andThen_ok,dF s,A,K,Instr.keyThatStays,aJd,G,aIZ,aJg,s2,aIj,Sem.run_pure,fw s];simp
        .cases h
   .cases h
  .cases h
 .cases h
def zl (h:fI d z x k st=.ok v st')(s:WR ρ st w)(R:VR ρ x x')(c:VR ρ k k')
 (G:P.underlying t=some (.map kt et)) (I:fW P f kt=some d) (H:f<10000) (S:iG m d=true) (hi:P.info? et=some i) (hz:i.zero=some z') (E:VR ρ z z'):bH P (Instr.mapEntry t x' k') ρ st w v st':=by
 have V:(zeroValue et).run P w=.ok z' w:=abA
 unfold fI at h;rw[aO]at h
 split at h
 .rename_i W;have F:=λe=>mY (w:=w) W I H S c e
  split at h
  .rename_i b
   split at h
   .rename_i es clock q;cases R with
    |map _ r0 sz n=>
     obtain⟨es',l,A,g⟩:=s.map q n;cases hc:jX d k es 0 with
     |none=>rw[hc]at h;cases h
     |some r=>
      rw[hc]at h;obtain⟨r',L,C⟩:=mE (P:=P) (w:=w) I H c A g hc;cases r with
      |none=>
       cases r' with
       |some _=>exact C.elim
       |none=>
        dsimp only at h;rw[dH]at h;cases h;refine⟨.tuple #[z',goInt clock],_,ρ,?_,VR.tuple' (eM.two E (.int .i64 _)),bp.yg (clock2:=clock+1) s q n (rT.app ⟨A,g⟩ (rT.cons (e:=(k,z,clock)) (e':={key:=k',val:=z',born:=clock}) ⟨c,E,rfl⟩ rT.nil))⟩;simp only[Instr.mapEntry,Sem.run_bind,aHU G,Result.andThen_ok,dF l,F,L,V,fw l,Sem.run_pure];simp
      |some p=>
       obtain⟨j,u⟩:=p;cases r' with
       |none=>exact C.elim
       |some Q=>
        obtain⟨j',O⟩:=Q;obtain⟨rfl,K,e,e',J,B,g5,T⟩:=C;dsimp only at h;rw[Io,J]at h;obtain⟨Z,X,born⟩:=e;dsimp only at h;rw[aO]at h
        split at h
        .rename_i hs;cases h;obtain⟨U,a2,M⟩:=g j _ _ J B;obtain⟨Y,s2⟩:=yF hs U c;have D:born=e'.born:=M
         refine⟨.tuple #[O,goInt e'.born],_,ρ,?_,VR.tuple' (eM.two K (by rw[D];exact .int .i64 _)),bp.yg (clock2:=clock) s q n (rT.mod (e:=(k,u,born)) (f:=λe=>{e with key:=k'}) j ⟨A,g⟩ (λe2 N=>by
          rw[B]at N;cases N;exact⟨c,by rw[T];exact K,M⟩))⟩
         simp only[Instr.mapEntry,Sem.run_bind,aHU G,Result.andThen_ok,dF l,F,L,Instr.keyThatStays,aJd,B,aIZ,aJg,s2,aIj,Sem.run_pure,fw l];simp
        .cases h
   .cases h
  .cases h
 .cases h
def FD {b:Nat}:∀{es:List eK} {es':List MapEntry} {j i:Nat} {e:eK},rT ρ es es'->tC b es j=some (i,e)->
 j<=i/\es[i-j]?=some e/\es'.findIdx? (λe=>(e.born:Int)==(b:Int))=some (i-j):=by
 intro es
 induction es with
 |nil=>intro es' j i e _ h;cases h
 |cons x es n=>
  intro es' j i e h c;obtain⟨x',A,rfl,l,p⟩:=h.inv;have q:tC b (x::es) j=bE (Nat.beq x.2.2 b) (some (j,x)) (tC b es (j+1)):=rfl;simp only[q,aO,aIs]at c
  split at c
  .rename_i g;cases c;refine⟨aHK _,wb,?_⟩;rw[List.findIdx?_cons];have:((x'.born:Int)==(b:Int))=true:=by rw[beq_iff_eq,<-l.2.2,g]
   simp[this]
  .rename_i g;obtain⟨B,u,s⟩:=n p c;refine⟨uM,by rw[show i-j=(i-(j+1))+1 from uM];simpa using u,?_⟩;rw[List.findIdx?_cons]
   have:((x'.born:Int)==(b:Int))=false:=by
    rw[beq_eq_false_iff_ne,<-l.2.2];exact λe=>g (by exact_mod_cast e)
   simp only[this,aHH,aHV,s,aIZ]
   congr 1;omega
def wG {s:CV}{s':Value}(h:dY x s y st=.ok v st')(n:WR ρ st w)(D:VR ρ x x')(E:VR ρ s s')(C:VR ρ y y'):DP P (Instr.entryStore t x' s' y') ρ st w v st':=by
 unfold dY at h
 split at h
 .rename_i b k born
  split at h
  .rename_i es clock l;cases E;cases D with
   |map _ r0 sz g=>
    obtain⟨es',q,p,c⟩:=n.map l g
    split at h
    .rename_i j B I bn hb;cases h;obtain⟨L,A,u⟩:=FD (ρ:=ρ) (es':=es') ⟨p,c⟩ hb;rw[Nat.sub_zero]at A u
     refine⟨_,ρ,?_,rfl,bp.yg (clock2:=clock) n l g (rT.mod (e:=(B,y,bn)) (f:=λe=>{e with val:=y'}) j ⟨p,c⟩ (λJ H=>by
      obtain⟨G,K,F⟩:=c j _ _ A H;exact⟨G,C,F⟩))⟩
     simp only[Instr.entryStore,Sem.run_bind,dF q,Result.andThen_ok,asInt,asIntOf,Sem.run_pure]
     have:es'.toArray.findIdx? (λe=>(e.born:Int)==Int.ofNat born)=some j:=by
      rw[<-u];simp
     rw[this];simp only[fw q];simp
    .cases h
  .cases h
 .cases h
def PF {w:World}(h:w.heap[r]?=some o):({w with heap:=w.heap.setIfInBounds r o}:World)=w:=by
 have:w.heap.setIfInBounds r o=w.heap:=by
  apply Array.ext_getElem?;intro i
  by_cases e:r=i
  .subst e;have:=(aIy.1 h).1;rw[h];simp[this]
  .rw[aIU e]
 rw[this]
def Cf {ty:TypeId}{ats:Array TypeId}(q:ats[0]?=some t)(h:pO d x k st=.ok v st')(l:WR ρ st w)(D:VR ρ x x')(E:VR ρ k k')
 (s:P.underlying t=some (.map kt et)) (G:fW P f kt=some d) (F:f<10000) (L:iG m d=true):bH P (Builtin.delete_ ats ty #[x',k']) ρ st w v st':=by
 have c:VR ρ .undef (.tuple #[]):=.undef;unfold pO at h;rw[aO]at h
 split at h
 .rename_i M;have n:=λe=>mY (w:=w) M G F L E e
  split at h
  .cases h;cases D;exact bH.still l (by simp[Builtin.delete_,q,aHU s,n]) c
  .rename_i b
   split at h
   .rename_i es clock C;cases D with
    |map _ r0 sz B=>
     obtain⟨es',g,I,H⟩:=l.map C B;cases hc:jX d k es 0 with
     |none=>rw[hc]at h;cases h
     |some r=>
      rw[hc]at h;obtain⟨r',J,A⟩:=mE (P:=P) (w:=w) G F E I H hc;cases r with
      |none=>
       cases r' with
       |some _=>exact A.elim
       |none=>
        cases h;refine bH.still l ?_ c;simp only[Builtin.delete_,q,aJd,aHG,aHI,Sem.run_bind,aHU s,Result.andThen_ok,dF g,n,J,fw g,Sem.run_pure];rw[PF g]
      |some p=>
       obtain⟨j,u⟩:=p;cases r' with
       |none=>exact A.elim
       |some K=>
        obtain⟨O,N⟩:=K;obtain⟨rfl,U,e,e',T,S,R,Q⟩:=A;cases h;refine⟨.tuple #[],_,ρ,?_,.undef,bp.yg (clock2:=clock) l C B (rT.del j ⟨I,H⟩)⟩;simp only[Builtin.delete_,q,aJd,aHG,aHI,Sem.run_bind,aHU s,Result.andThen_ok,dF g,n,J,fw g,Sem.run_pure]
        congr 3
        congr 1
        apply Array.ext';simp
   .cases h
  .cases h
 .cases h
def Ez {r:Option CV}{r':Option Value}(h:jz r st=.ok v st')(l:WR ρ st w)(c:S8 ρ r r')(p:P.underlying t=some (.map kt et)):bH P (Instr.makeMap t r') ρ st w v st':=by
 have b:∀n,OR.ok (.map st.nx) ⟨st.m.put st.nx (some (.map [] 0)),(st.nx+1)⟩=OR.ok v st'->n=w.heap.size->(Instr.makeMap t r').run P w=.ok (.map (some w.heap.size)) {w with heap:=w.heap.push (.map #[] 0)}->bH P (Instr.makeMap t r') ρ st w v st':=by
  intro n h _ j;cases h;have g:=bp.new l (BR.map (ρ:=ρ.set st.nx (w.heap.size,0)) [] 0 [] rfl (λi e e' h=>aap) 0);exact⟨_,_,_,j,.map _ _ _ g.2,g.1⟩
 unfold jz at h
 split at h
 .rw[dH]at h;cases r' with
  |some _=>exact c.elim
  |none=>exact b _ h rfl (by simp[Instr.makeMap])
 .rw[dH]at h;cases r' with
  |none=>exact c.elim
  |some x'=>
   have q:VR ρ _ x':=c;cases q;exact b _ h rfl (by simp[Instr.makeMap,aHU p,asInt,asIntOf])
 .cases h
end
end
section
variable {parts':Array (Nat×Value)}{β γ:Type}{t:TypeId}{i:TypeInfo}{z:List CV}{z':Value}{e:TypeId}
abbrev uI:=Nat×Nat×CV
def gC (a:List uI):List CV->Option (List CV):=
 List.rec (motive:=λ_=>List CV->Option (List CV)) (λs=>some s)
  (λp _ b s=>bE (Nat.beq p.2.2.cK.length p.2.1&& !p.2.2.isAny) (Option.rec none (λs'=>b s') (dZ s p.1 p.2.2.cK)) none) a
def Oj (off:Nat):∀(l:List Value) (k:Nat) (cells:Array Value),off+k+l.length<=cells.size->
 ((l.zipIdx k).foldl (λcs (p:Value×Nat)=>cs.setIfInBounds (off+p.2) p.1) cells).toList=cells.toList.take (off+k)++l++cells.toList.drop (off+k+l.length):=by
 intro l
 induction l with
 |nil=>intro k cells _;simp
 |cons v l a=>
  intro k cells h;rw[List.zipIdx_cons,List.foldl_cons,a (k+1) _ (by simp at h⊢;omega)];have e:=list_seg_step cells.toList (off+k) v l (by simp at h⊢;omega);simp only[Array.toList_setIfInBounds];rw[<-Nat.add_assoc,e];simp
section
variable {P:Program} {ρ:Ren} {st st':St} {w:World} {v:CV}
inductive rQ (ρ:Ren)(place:Nat->Option (Nat×Nat)):List uI->List (Nat×Value)->Prop where
 |nil:rQ ρ place [] []
 |cons (i off size:Nat) (x:CV) (x':Value) (l:List uI) (l':List (Nat×Value)) (hp:place i=some (off,size)) (hx:VR ρ x x') (t:rQ ρ place l l'):
  rQ ρ place ((off,size,x)::l) ((i,x')::l')
def rM {a:Nat->Option (Nat×Nat)}{b:List uI}{parts':List (Nat×Value)}(h:rQ ρ a b parts'):∀{s s':List CV} {cells:Array Value},gC b s=some s'->eM ρ s cells.toList->
 ∃j,Instr.fill a cells parts'=some j/\eM ρ s' j.toList:=by
 induction h with
 |nil=>intro s s' cells h f;cases h;exact⟨cells,rfl,f⟩
 |cons i off size x x' l l' hp hx t o=>
  intro s s' cells h f;have y:gC ((off,size,x)::l) s=bE (Nat.beq x.cK.length size&& !x.isAny) (Option.rec none (λs'=>gC l s') (dZ s off x.cK)) none:=rfl;simp only[y,aO,aIf,aIs,aKH]at h
  split at h
  .rename_i hsz0;obtain⟨g,k⟩:=hsz0;cases hw:dZ s off x.cK with
   |none=>rw[hw]at h;cases h
   |some s2=>
    rw[hw]at h;obtain⟨C,n⟩:=yL hw;have d:=hx.cK k;have c:x'.cells.size=size:=by have:=d.len;rw[g]at this;simpa using this.symm
    have D:cells.size=s.length:=by have:=f.len;simpa using this.symm
    have A:off+x'.cells.size<=cells.size:=uM
    let m:=x'.cells.zipIdx.foldl (λcs (p:Value×Nat)=>cs.setIfInBounds (off+p.2) p.1) cells
    have B:m.toList=cells.toList.take off++(x'.cells.toList++cells.toList.drop (off+x'.cells.size)):=by
     have:=Oj off x'.cells.toList 0 cells (by simpa using A);show(Array.foldl _ cells x'.cells.zipIdx).toList=_;rw[<-Array.foldl_toList,Array.toList_zipIdx,this];simp
    obtain⟨j,r,q⟩:=o (cells:=m) h (by
     rw[n,B];have u:x.cK.length=x'.cells.size:=by rw[g,c]
     rw[u];exact(f.take off).app (d.app (f.drop _)))
    refine⟨j,?_,q⟩;simp only[Instr.fill,hp];rw[aHM (by simp[c];omega)];exact r
  .cases h
def aZ (z:List CV)(a:List uI)(st:St):OR:=Option.rec .bad (λs=>.ok (.agg s) st) (gC a z)
def bC (e len:Nat)(z:List CV)(a:List uI)(st:St):OR:=
 Option.rec .bad (λs=>.ok (.slice st.nx 0 len len 0) ⟨st.m.put st.nx (some (.cells s e false)),st.nx+1⟩) (gC a z)
def BX (l:List β)(f:β->Sem γ)(g:β->γ)(h:∀x∈l,(f x).run P w=.ok (g x) w):(l.mapM f).run P w=.ok (l.map g) w:=by
 induction l with
 |nil=>simp
 |cons a l b=>simp[List.mapM_cons,h a wb,b (λx hx=>h x aba)]
def Aj (l:Array β)(f:β->Sem γ)(g:β->γ)(h:∀x∈l.toList,(f x).run P w=.ok (g x) w):(l.mapM f).run P w=.ok (l.map g) w:=by
 rw[Array.mapM_eq_mapM_toList,Sem.run_map,BX l.toList f g h];simp only[Result.andThen_ok]
 congr 1
 apply Array.ext';simp
def Es (P:Program)(a:Array Field)(i:Nat):Option (Nat×Nat):=(a[i]?).map λf=>(f.offset,P.cellsOf f.type)
def nu (size:Nat)(i:Nat):Option (Nat×Nat):=some (i*size,size)
def Cg {fs:Array Field}{a:List uI}(h:aZ z a st=.ok v st')(l:WR ρ st w)(m:P.underlying t=some (.struct fs))(hi:P.info? t=some i)
 (k:i.zero=some z') (d:∀ρ,eM ρ z z'.cells.toList) (n:rQ ρ (Es P fs) a parts'.toList) (c:∀f∈fs.toList,∃j,P.info? f.type=some j):bH P (Instr.build t parts') ρ st w v st':=by
 unfold aZ at h;cases b:gC a z with
 |none=>rw[b]at h;cases h
 |some s=>
  rw[b]at h;dsimp only at h;cases h;obtain⟨g,r,q⟩:=rM n b (d ρ);refine bH.still l (v':=.agg g) ?_ (by have:=VR.FH q;simpa using this)
  have o:=Aj (P:=P) (w:=w) fs (λf=>do pure (f.offset,<-Go.sizeOf f.type)) (λf=>(f.offset,P.cellsOf f.type)) (λf b=>by
   obtain⟨j,p⟩:=c f b;simp[Go.sizeOf,typeInfo,p,Program.cellsOf])
  have u:(λi=>(fs.map λf=>(f.offset,P.cellsOf f.type))[i]?)=Es P fs:=by
   funext i;simp[Es]
  simp only[Instr.build,zeroValue,typeInfo,Sem.run_bind,run_program,Result.andThen_ok,hi,k,Sem.run_pure,aHU m];rw[o];simp only[Result.andThen_ok];rw[u,r]
  rfl
def EG {n:Nat}{j:TypeInfo}{a:List uI}(h:aZ z a st=.ok v st')(f:WR ρ st w)(g:P.underlying t=some (.array n e))(hi:P.info? t=some i)
 (d:i.zero=some z') (b:∀ρ,eM ρ z z'.cells.toList) (l:P.info? e=some j) (k:rQ ρ (nu j.size) a parts'.toList):bH P (Instr.build t parts') ρ st w v st':=by
 unfold aZ at h;cases hf:gC a z with
 |none=>rw[hf]at h;cases h
 |some s=>
  rw[hf]at h;dsimp only at h;cases h;obtain⟨c,o,m⟩:=rM k hf (b ρ);refine bH.still f (v':=.agg c) ?_ (by have:=VR.FH m;simpa using this);have p:(λi=>some (i*j.size,j.size))=nu j.size:=rfl;simp only[Instr.build,zeroValue,Go.sizeOf,typeInfo,Sem.run_bind,run_program,Result.andThen_ok,hi,l,d,Sem.run_pure,aHU g];rw[p,o]
  rfl
def wI {len:Nat}{a:List uI}(h:bC e len (cH len z) a st=.ok v st')(y:WR ρ st w)(A:P.underlying t=some (.slice e))(hi:P.info? e=some i)
 (x:i.zero=some z') (f:z'.cells.size=i.size) (q:∀ρ,eM ρ z z'.cells.toList) (B:rQ ρ (nu i.size) a parts'.toList) (o:len*i.size<=16777216):bH P (Instr.buildSlice t len parts') ρ st w v st':=by
 unfold bC at h;cases hf:gC a (cH len z)with
 |none=>rw[hf]at h;cases h
 |some s=>
  rw[hf]at h;dsimp only at h;cases h
  have u:(List.replicate len z'.cells.toList).flatten=((Array.range (len*i.size)).map (z'.cells[·%z'.cells.size]!)).toList:=by
   rw[<-f,aJv,aKB];exact(qz z'.cells len).symm
  have d:eM ρ (cH len z) ((Array.range (len*i.size)).map (z'.cells[·%z'.cells.size]!)).toList:=by
   rw[<-u];exact(q ρ).flatten len
  obtain⟨r,n,E⟩:=rM B hf d;obtain⟨b,j,D,p⟩:=bp.newRow (P:=P) (t:=e) (s:=s) (l:=r.toList) y (λb g=>E.mono g) false;rw[aJp]at j p;refine⟨.slice (some ⟨w.heap.size,0,none⟩) len len,_,b,?_,.slice _ _ _ _ _ _ D,p⟩;have F:(λk=>some (k*i.size,i.size))=nu i.size:=rfl;have C:¬(len*i.size>2^24):=by show¬(len*i.size>16777216);omega
  simp only[Instr.buildSlice,Sem.run_bind,aHU A,Result.andThen_ok,Go.sizeOf,typeInfo,run_program,hi,Sem.run_pure,aHM C]
  by_cases m:len*i.size=0
  .have c:((Array.range (len*i.size)).map (z'.cells[·%z'.cells.size]!))=((Array.range (len*i.size)).map ((#[]:Array Value)[·%(#[]:Array Value).size]!)):=by
    rw[m,Array.range_zero'];simp
   rw[c]at n;rw[aHP m]
   show Sem.run P (do
    let some cells:=Instr.fill (nu i.size) ((Array.range (len*i.size)).map ((#[]:Array Value)[·%(#[]:Array Value).size]!)) parts'.toList|stuck "buildSlice: a part of the wrong size"
    pure (Value.slice (some (<-newRow e cells)) len len)) w=_
   rw[n];simp only[Sem.run_bind,j,Result.andThen_ok,Sem.run_pure]
  .rw[aHM m];simp only[zeroValue,typeInfo,Sem.run_bind,run_program,Result.andThen_ok,hi,x,Sem.run_pure];rw[F,n];simp only[Sem.run_bind,j,Result.andThen_ok,Sem.run_pure]
def qF (a:Fn)(f c:List CV)(st:St):OR:=.ok (.func a f c) st
def Ha {a:Fn}{f c:List CV}{b d:Array Value}(h:qF a f c st=.ok v st')(k:WR ρ st w)(g:eM ρ f b.toList)(j:eM ρ c d.toList):bH P (Instr.makeFunc a b d) ρ st w v st':=by
 cases h;refine bH.still k rfl ?_;have:=VR.func (ρ:=ρ) a f c b.toList d.toList g.len j.len g.at' j.at'
 simpa using this
end
end
