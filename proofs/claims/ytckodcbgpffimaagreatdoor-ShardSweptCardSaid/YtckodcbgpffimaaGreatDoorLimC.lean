import Derived.Test.YtckodcbgpffimaaGreatDoorLimB
namespace Lim
open Go
noncomputable section
set_option linter.defProp false
section
variable {e n need sLen sCap:Nat}{zeros:Bool}{jA:Sem (Array Value)}{s x:Value}{i:TypeInfo}{z':Value}{vs:δ Value}
def O.drop (Z:O)(b:Nat):O:=⟨Z.m.put b ν,Z.nx⟩
def bI (e size bytes:Nat)(s:K)(a:υ (Nat×δ K))(Z:O):OR:=
 match s,a with
 | .ae,some (n,t)=>bF (Nat.beq n 0) (.ok .ae Z)
  (bF (Bool.and (Nat.ble 1 size) (Bool.and (Nat.ble (Nat.mul n bytes) 140737488355328) (Nat.ble n 140737488355328)))
   (.ok (.slice Z.nx 0 n n size) ⟨Z.m.put Z.nx (Φ (.cells t e θ)),Z.nx+1⟩) .bad)
 | .slice b off len cap grow,some (n,t)=>
   bF (Nat.beq n 0) (bF (Nat.ble len cap) (.ok (.slice b off len cap grow) Z) .bad)
    (qT (Nat.add len n) λneed=>
     bF (Nat.ble need cap)
      (match Z.m.g b with
      |some (.cells s ty g)=>bF (bh t) (Option.rec .bad (λs'=>.ok (.slice b off need cap grow) ⟨Z.m.put b (Φ (.cells s' ty g)),Z.nx⟩) (eB s (off+len*size) t)) .bad
      |_=>.bad)
      (bF (Bool.and (Nat.ble 1 size) (Bool.and (Nat.ble (Nat.mul need bytes) 140737488355328) (Nat.ble need 140737488355328)))
       (match Z.m.g b with
       |some (.cells s ty _)=>
        (match iv s off (len*size)with
        |some olds=>(λnx l=>
         bF (Nat.beq grow 0) (.ok (.slice Z.nx 0 need need size) ⟨Z.m.put Z.nx (Φ (.cells l e θ)),nx⟩)
          (bF (Bool.and (Nat.beq off 0) (Bool.and (Nat.beq grow size) (Bool.and (Nat.beq ty e) (Bool.and (bh t) (Nat.ble 1 cap)))))
           (.ok (.slice Z.nx 0 need need size) ⟨(Z.m.put b ν).put Z.nx (Φ (.cells l e θ)),nx⟩) .bad)) (Z.nx+1) (olds++t)
        |none=>.bad)
       |_=>.bad) .bad))
 |_,_=>.bad
section
variable {P:Program} {ρ:Ren} {Z Z':O} {w:World} {v:K}
def br.drop (h:WR ρ Z w)(b:Nat):br ρ Z w ρ (Z.drop b) w:=by
 have c:∀q blk,(Z.drop b).m.g q=Φ blk->Z.m.g q=Φ blk:=λq blk a=>by
  by_cases e:q=b
  .subst e;simp only[O.drop,PT.du]at a;cases a
  .simpa only[O.drop,PT.dy _ _ _ _ e]using a
 exact⟨⟨λq blk r sz a=>h.at' q blk r sz (c q blk a),λq j blk k r s s' f d=>h.inj q j blk k r s s' (c q blk f) (c j k d),h.fresh⟩,
  λ_ _ h=>h,λ_ _ h=>h,hI _,λq blk _ sz f d=>.inl ⟨q,blk,sz,c q blk f,d⟩,λ_ _ _=>rfl,hI _,rfl,rfl⟩
def nq {size:Nat}{base:υ Addr}{olds:δ Value}(f:need=sLen+n)(r:sCap<need)
 (k:need<=140737488355328) (g:need*i.bytes<=140737488355328) (hi:P.info? e=Φ i) (c:i.zero=Φ z') (j:∀a:World,a.heap=w.heap->jA.run P a=.ok vs.toArray a)
 (d:∀a:World,a.heap=w.heap->(Builtin.firstCells size sLen s).run P a=.ok olds.toArray a):
 (nQ e size zeros n jA base sLen sCap s x).run P w=
  .ok (.slice (Φ ⟨w.heap.size,0,ν⟩) need (grownCap w need sCap e))
   {w with drawn:=w.drawn+1,heap:=w.heap.push (.cells (olds.toArray++vs.toArray++Builtin.zeroCells z'.cells (grownCap w need sCap e-need)) e)}:=by
 subst f;have q:¬(sLen+n<=sCap):=J
 have b:IntKind.i64.max=9223372036854775807:=tW
 have p:¬(((sLen+n:Nat):Int)>IntKind.i64.max):=by rw[b];omega
 have o:¬(Builtin.nextslicecap (sLen+n) sCap*i.bytes>2^48):=by
  have:=growslice_fits (bytes:=i.bytes) r g;exact λh=>absurd (ov h this) tW
 have m:=j {w with drawn:=w.drawn+1} rfl;have l:=d {w with drawn:=w.drawn+1} rfl;simp only[nQ,Sem.run_ite,B q,Ψ,typeInfo,run_program,Ξ,hi,Ω,p,false_and,ii,B o,run_choose,Question.forced,pi,run_askRoom,m,l,zeroValue,c,newRow,run_newObj]
 rfl
def PX (z':Value)(k:Nat):(Builtin.zeroCells z'.cells k).size=k*z'.cells.size:=by simp[Builtin.zeroCells]
def Jg (w:World)(need a:Nat)(e:TypeId):need<=grownCap w need a e:=by show need<=need+_;omega
def br.grown {size:Nat}{l:δ K}(hw:WR ρ Z w)(j:fp ρ (row l) vs)(a:vs.length=need*size)(d:z'.cells.size=size)(r:1<=size):
 ∃c,VR c (.slice Z.nx 0 need need size) (.slice (Φ ⟨w.heap.size,0,ν⟩) need (grownCap w need sCap e))/\
  br ρ Z w c ⟨Z.m.put Z.nx (Φ (.cells l e θ)),(Z.nx+1)⟩ {w with drawn:=w.drawn+1,heap:=w.heap.push (.cells (vs.toArray++Builtin.zeroCells z'.cells (grownCap w need sCap e-need)) e)}:=by
 have o:=Jg w need sCap e;have jg:∀b x,ρ b=Φ x->b≠Z.nx:=λb x hx e=>aaG
 have p:l.length=vs.length:=by rw[j.len]
 have g:(vs.toArray++Builtin.zeroCells z'.cells (grownCap w need sCap e-need)).size=grownCap w need sCap e*size:=by
  rw[Array.size_append,PX,d,aNE,a,<-tx];congr 1;omega
 have q:=BR.cells (ρ:=ρ) l e θ (vs.toArray++Builtin.zeroCells z'.cells (grownCap w need sCap e-need)) 0 0 (by
  rw[g,p,a];exact zv _ o) (by
  rw[p,Array.toList_append,SM V];exact j) J (by intros;omega)
 have f:ρ.le (ρ.set Z.nx (w.heap.size,grownCap w need sCap e*size)):=λb _ hr=>aaH
 have k:=br.new (hw.Gw (w':={w with drawn:=w.drawn+1}) rfl) (sz:=grownCap w need sCap e*size) ((g▸q).mono f);refine⟨_,.pX _ 0 0 need need (grownCap w need sCap e) size _ _ k.2 r (hI _) o (λ_=>rfl) J,(br.draw hw (w.drawn+1)).trans k.1⟩
def nj {size:Nat}{a:Addr}{w':World}(b:sLen+n<=sCap)
 (d:jA.run P w=.ok vs.toArray w) (c:(storeCells (a.add (sLen*size)) vs).run P w=.ok () w'):
 (nQ e size zeros n jA (Φ a) sLen sCap s x).run P w=.ok (.slice (Φ a) (sLen+n) sCap) w':=by
 simp only[nQ,gq b,Ψ,d,Ξ,c,Ω]
def Dd {k:JS}{t u ty size bytes:Nat}{z:δ K}{s x:K}{s' M:Value}(h:bI e size bytes s (cZ k size z x Z) Z=.ok v Z')(hw:WR ρ Z w)(hs:VR ρ s s')(hx:VR ρ x M)
 (hf:Ff P k u size) (hu:P.underlying t=Φ (.slice e)) (hi:P.info? e=Φ i) (Q:i.zero=Φ z') (S:i.size=size) (m:z'.cells.size=size) (tQ:∀ρ,fp ρ z z'.cells.toList) (hb:i.bytes=bytes) (AJ:k=.zeros->bytes<=256):
 bH P (Builtin.append_ #[t,u] ty #[s',M]) ρ Z w v Z':=by
 unfold bI at h
 split at h
 ·
   rename_i n o vY;obtain⟨vs,zeros,jA,F,I,D,C⟩:=DO (P:=P) (w:=w) (ty:=ty) vY hw hx hf hu hi Q S m tQ (λY=>by rw[hb];exact AJ Y);cases hs;simp only[aS,mZ,md,nR]at h
   split at h
   .rename_i X;subst X;cases h;refine bH.still hw ?_ .ae;rw[C];simp only[nQ,rc,hI,ix,Ψ,D w rfl,Ξ,Ω]
   .rename_i X
    split at h
    .rename_i hc;cases h;obtain⟨c1,c2,c3⟩:=hc;have ah:n*i.bytes<=140737488355328:=by rw[hb];exact c2
     have N:=nq (P:=P) (w:=w) (e:=e) (size:=size) (n:=n) (need:=n) (sLen:=0) (sCap:=0) (zeros:=zeros) (base:=ν) (s:=.slice ν 0 0) (x:=M) (olds:=[]) J J c3 ah hi Q D (λw1 _=>aeF);obtain⟨g,H,G⟩:=br.grown (e:=e) (sCap:=0) hw F I m c1;refine⟨_,_,g,by rw[C,N],H,?_⟩
     simpa using G
    .cases h
 .rename_i b off len cap grow n o vY;obtain⟨vs,zeros,jA,F,I,D,C⟩:=DO (P:=P) (w:=w) (ty:=ty) vY hw hx hf hu hi Q S m tQ (λY=>by rw[hb];exact AJ Y);obtain⟨r,sz,d,y,rfl,T,c1,c2,c3,c4⟩:=hs.fk;have aj:o.length=n*size:=by rw[F.len,I]
  simp only[aS,md,dR]at h
  split at h
  ·
    rename_i X;subst X
    split at h
    .rename_i f;rw[nR]at f;cases h;have hv:vs=[]:=by apply sS.1;rw[I];omega
     subst hv;refine bH.still hw ?_ hs;rw[C,nj J (D w rfl) rfl];rfl
    .cases h
  .rename_i X
   split at h
   ·
     rename_i f;rw[nR]at f;have af:len+n<=cap:=f;have ho:=c1 J;subst ho
     split at h
     .rename_i L tg gg hm
      split at h
      .rename_i ln;cases wy:eB L (d+len*size) o with
       |none=>rw[wy]at h;cases h
       |some s2=>
        rw[wy]at h;cases h;obtain⟨w',H,G⟩:=br.write (P:=P) hw hm T wy F ln;refine⟨_,w',ρ,by rw[C,nj J (D w rfl) (by rw[lJ];exact H)],?_,G⟩;show VR ρ (.slice b d (len+n) cap grow) _
        by_cases p:grow=0
        .obtain⟨e1,_⟩:=c3 p;subst p;subst e1;exact .slice _ _ _ _ r sz T
        .obtain⟨d1,d2⟩:=c4 J;exact .pX _ _ d _ _ y grow r sz T J af c2 (λ_=>rfl) d1
      .cases h
     .cases h
   .rename_i f;rw[nR]at f;have af:¬len+n<=cap:=f
    split at h
    .rename_i hc;simp only[mZ,nR]at hc;obtain⟨d1,d2,d3⟩:=hc;have ac:(len+n)*i.bytes<=140737488355328:=by rw[hb];exact d2
     have ab:len+n<=140737488355328:=d3
     split at h
     .rename_i L tg gg hm
      split at h
      .rename_i olds W;obtain⟨c,lo,fB,e1,e2,e3,e4,e5⟩:=hw.row hm T;have ai:=(ld W).1;have ad:=(ld W).2;have al:=ai;have ak:len*size+n*size=(len+n)*size:=(tx _ _ _).symm
       split at h
       ·
         rename_i p;have p:grow=0:=by simpa using p
         cases h;obtain⟨f1,f2⟩:=c3 p;subst f1;subst f2
         have l:fp ρ (olds++o) ((c.toList.drop d).take (len*size)++vs):=by
          refine fp.app ?_ F;rw[show olds=(L.drop d).take (len*size)from ad]
          have ee:(c.toList.drop d).take (len*size)=((c.toList.take L.length).drop d).take (len*size):=by
           rw[St,AQ,us J]
          rw[ee];exact(e4.drop d).take _
         have a:((c.toList.drop d).take (len*size)++vs).length=(len+n)*size:=by
          rw[km,pu,st,þ,I];omega
         have N:=nq (P:=P) (w:=w) (e:=e) (size:=size) (n:=n) (need:=len+n) (sLen:=len) (sCap:=y) (zeros:=zeros) (base:=Φ ⟨r,d,ν⟩) (s:=.slice (Φ ⟨r,d,ν⟩) len y) (x:=M) (olds:=(c.toList.drop d).take (len*size)) rfl J ab ac hi Q D
          (λw1 LY=>eE P w1 r d (len*size) c tg (lo,fB) afB J)
         obtain⟨g,H,G⟩:=br.grown (e:=e) (sCap:=y) hw l a m d1;refine⟨_,_,g,by rw[C,N],H,?_⟩;have:(((c.toList.drop d).take (len*size)).toArray++vs.toArray)=((c.toList.drop d).take (len*size)++vs).toArray:=V
         rw[this];exact G
       .split at h
        ·
          rename_i aa p;have aa:grow≠0:=by simpa using aa
          simp only[mZ,md,nR]at p;obtain⟨rfl,rfl,rfl,ln,Ja⟩:=p;cases h;obtain⟨f1,f2⟩:=c4 J;have ho:d=0:=c1 J;subst ho
          have l:fp ρ (olds++o) (c.toList.take (len*grow)++vs):=by
           refine fp.app ?_ F;rw[show olds=(L.drop 0).take (len*grow)from ad,tu]
           have ee:c.toList.take (len*grow)=(c.toList.take L.length).take (len*grow):=by
            rw[AQ,us J]
           rw[ee];exact e4.take _
          have a:(c.toList.take (len*grow)++vs).length=(len+n)*grow:=by
           rw[km,pu,þ,I];omega
          by_cases qR:len+n<=y
          .have Ti:(len+n)*grow<=sz:=rx (zv _ qR) J
           have SP:∀v∈vs,v.oneCell'=θ:=λv BO=>by
            obtain⟨j,hj,rfl⟩:=Di BO;have:=F.len▸hj;exact pD (F.at' j o[j] _ V V) (pC o ln _ (mp _))
           have ag:=ir P r (0+len*grow) tg lo fB vs 0 c w e1 e5 (by rw[I];omega) SP;have oT:=setRow_heap w r c (c.toList.take (0+len*grow+0)++vs++c.toList.drop (0+len*grow+0+vs.length)).toArray tg (lo,fB) e1
           have tF:(c.toList.take (0+len*grow+0)++vs++c.toList.drop (0+len*grow+0+vs.length)).toArray.size=sz:=by
            simp only[aNE,km,pu,st,þ];omega
           have jg:∀b x,ρ b=Φ x->b≠Z.nx:=λb x hx e=>aaG
           have Dl:ρ.le (ρ.set Z.nx (r,sz)):=λq _ hq=>by rw[Ren.dF _ _ _ _ (jg q _ hq)];exact hq
           have Ev:(olds++o).length=(len+n)*grow:=by rw[l.len,a]
           have Vk:=BR.cells (ρ:=ρ) (olds++o) tg θ (c.toList.take (0+len*grow+0)++vs++c.toList.drop (0+len*grow+0+vs.length)).toArray lo fB (by rw[tF,Ev];exact Ti)
            (by
             rw[Ev,show(c.toList.take (0+len*grow+0)++vs++c.toList.drop (0+len*grow+0+vs.length)).toArray.toList=c.toList.take (0+len*grow+0)++vs++c.toList.drop (0+len*grow+0+vs.length)from rfl];rw[SM (by simpa using a)]
             simpa using l) adI (λh=>by cases h)
           rw[tF]at Vk;have ha:=br.move hw hm T oT (Vk.mono Dl) (λk Y=>py w r _ k Y) (qJ w r _) rfl rfl;refine⟨_,_,_,by rw[C,nj qR (D w rfl) (by rw[lJ];exact ag)],?_,ha⟩;exact .pX _ _ 0 _ _ y grow r sz (Ren.eZ _ _ _) J (hI _) qR (λ_=>rfl) J
          .have N:=nq (P:=P) (w:=w) (e:=tg) (size:=grow) (n:=n) (need:=len+n) (sLen:=len) (sCap:=y) (zeros:=zeros) (base:=Φ ⟨r,0,ν⟩) (s:=.slice (Φ ⟨r,0,ν⟩) len y) (x:=M) (olds:=c.toList.take (len*grow)) rfl J ab ac hi Q D
            (λw1 LY=>by
             have:=eE P w1 r 0 (len*grow) c tg (lo,fB) afB J;rw[tu]at this;exact this)
           have hd:=br.drop hw b;obtain⟨g,H,G⟩:=br.grown (Z:=Z.drop b) (e:=tg) (sCap:=y) hd.wr l a m d1;refine⟨_,_,g,by rw[C,N],H,?_⟩;have:((c.toList.take (len*grow)).toArray++vs.toArray)=(c.toList.take (len*grow)++vs).toArray:=V
           rw[this];exact hd.trans G
        .cases h
      .cases h
     .cases h
    .cases h
 .cases h
end
end
section
variable {t:δ K}{ty:TypeId}{x:K}{x':Value}{e:TypeId}{i:TypeInfo}{y:K}{y':Value}
def IB (x:K):υ Nat:=match x with| .ae=>Φ 0| .slice _ _ len _ _=>Φ len| .str l=>Φ l.length|_=>ν
def cellsOf (a:Bool)(size n:Nat)(x:K)(Z:O):υ (δ K):=
 bF a (match x with| .str l=>if n<=l.length then Φ ((l.take n).map bG)else ν|_=>ν) (dW size n x Z)
def Du (s:δ K)(off:Nat)(t:δ K)(a:Nat):υ (δ K):=
 if off<=s.length/\s.length<=off+t.length/\off+t.length<=a then Φ (s.take off++t)else ν
def gL (a:Bool)(size:Nat)(d s:K)(Z:O):OR:=
 match d,IB s with
 | .ae,some _=>(match cellsOf a size 0 s Z with|some _=>Ar .i64 Z 0|none=>.bad)
 | .slice b off len cap grow,some m=>(λn=>
  (match cellsOf a size n s Z with
  |some t=>bF (Nat.beq n 0) (Ar .i64 Z 0)
   (bF (Bool.and (bh t) (Bool.or (Nat.beq grow 0) (Nat.ble 1 cap)))
    (match Z.m.g b with
    |some (.cells s ty g)=>Option.rec (Option.rec .bad (λs'=>Ar .i64 ⟨Z.m.put b (Φ (.cells s' ty g)),Z.nx⟩ n) (Du s off t (off+cap*grow))) (λs'=>Ar .i64 ⟨Z.m.put b (Φ (.cells s' ty g)),Z.nx⟩ n) (eB s off t)
    |_=>.bad) .bad)
  |none=>.bad)) (min m len)
 |_,_=>.bad
section
variable {P:Program} {ρ:Ren} {Z Z':O} {w:World} {v:K}
def br.grow {b:Nat}{s s':δ K}{g:Bool}{off a r sz:Nat}{vs:δ Value}(h:WR ρ Z w)
 (l:Z.m.g b=Φ (.cells s ty g)) (j:ρ b=Φ (r,sz)) (d:Du s off t a=Φ s') (L:a<=sz) (f:fp ρ t vs) (D:bh t=θ):
 ∃w',(storeCells ⟨r,off,ν⟩ vs).run P w=.ok () w'/\br ρ Z w ρ (Z.set b (.cells s' ty g)) w':=by
 obtain⟨c,lo,hi,n,e2,Q,I,e5⟩:=h.row l j;unfold Du at d
 split at d
 .rename_i hh;obtain⟨N,S,M⟩:=hh;cases d;have p:vs.length=t.length:=by rw[<-f.len]
  have z:∀v∈vs,v.oneCell'=θ:=λv F=>by
   obtain⟨i,H,rfl⟩:=Di F;have:=f.len▸H;exact pD (f.at' i t[i] _ V V) (pC t D _ (mp _))
  have C:=ir P r off ty lo hi vs 0 c w n e5 J z;refine⟨_,C,?_⟩
  have o:(s.take off++t).length=off+t.length:=by
   rw[km,pu];omega
  have u:=setRow_heap w r c (c.toList.take (off+0)++vs++c.toList.drop (off+0+vs.length)).toArray ty (lo,hi) n
  have tF:(c.toList.take (off+0)++vs++c.toList.drop (off+0+vs.length)).toArray.size=sz:=by
   simp only[aNE,km,pu,st,þ];omega
  refine br.set h l j u ?_ (λk G=>py w r _ k G) (qJ w r _) rfl rfl;have q:=BR.cells (ρ:=ρ) (s.take off++t) ty g (c.toList.take (off+0)++vs++c.toList.drop (off+0+vs.length)).toArray lo hi (by rw[tF,o];omega) ?_ adI (h.abi l j n)
  .rw[tF]at q;exact q
  .rw[o]
   have e:(c.toList.take (off+0)++vs++c.toList.drop (off+0+vs.length)).toArray.toList.take (off+t.length)=(c.toList.take s.length).take off++vs:=by
    simp only[rc];rw[SM (by simp only[km,pu,þ];omega),AQ,us N]
   rw[e];exact(I.take off).app f
 .cases d
def wC {b:Bool}{size n:Nat}(h:cellsOf b size n x Z=Φ t)(g:∀m,IB x=Φ m->n<=m)(f:WR ρ Z w)(d:VR ρ x x')(hs:b=θ->size=1):
 ∃a,fp ρ t a/\a.length=n*size/\(Builtin.firstCells size n x').run P w=.ok a.toArray w:=by
 unfold cellsOf at h;rw[aS]at h
 split at h
 .rename_i c;have hs:=hs c;subst hs
  split at h
  .rename_i l
   split at h
   .rename_i hle;cases h;cases d;refine⟨((l.take n).map λy:Γ=>Value.int .u8 (y.toNat:Int)),fp.bytes ρ _,xI,?_⟩
    .simp only[Builtin.firstCells,Ω]
     congr 1
     apply Array.ext';rw[xO];simp[iI]
   .cases h
  .cases h
 .obtain⟨a,g1,o,k⟩:=ng (P:=P) h (λe j p=>by subst j;have:=g 0 rfl;omega) f d;exact⟨a,g1,o,k w rfl⟩
def zS {l:Bool}{size:Nat}{dT sT:TypeId}{d s:K}{T s':Value}(h:gL l size d s Z=.ok v Z')(j:WR ρ Z w)(N:VR ρ d T)(n:VR ρ s s')
 (p:P.underlying dT=Φ (.slice e)) (hi:P.info? e=Φ i) (z:i.size=size) (Q:l=θ->size=1):bH P (Builtin.copy_ #[dT,sT] ty #[T,s']) ρ Z w v Z':=by
 have o:(Go.sizeOf e).run P w=.ok size w:=by simp[Go.sizeOf,typeInfo,hi,z]
 have a:∀m,IB s=Φ m->(Builtin.lenOf s').run P w=.ok m w:=λm c=>by
  unfold IB at c
  split at c
  .cases c;cases n;rfl
  .cases c;obtain⟨r,sz,f,fS,rfl,_⟩:=n.fk;rfl
  .cases c;cases n;simp[Builtin.lenOf]
  .cases c
 unfold gL at h
 split at h
 .rename_i m c
  split at h
  .rename_i t ht;cases h;cases N;obtain⟨I,D,S,k⟩:=wC (P:=P) ht (λ_ _=>sw _) j n Q;refine bH.still j ?_ (.int _ _);simp[Builtin.copy_,kn p,a m c,o,k,goInt]
  .cases h
 .rename_i b off len cap grow m c;obtain⟨r,sz,f,fS,rfl,M,c1,c2,c3,c4⟩:=N.fk;dsimp only at h
  split at h
  .rename_i t ht;obtain⟨I,D,S,k⟩:=wC (P:=P) ht (λm' W=>by rw[c]at W;cases W;exact Nat.min_le_left _ _) j n Q;simp only[aS,md,mZ,xF,nR]at h;have G:Nat.min m len=min m len:=rfl
   split at h
   .rename_i h0;cases h;have X:I=[]:=by apply sS.1;rw[S,h0,Nat.zero_mul]
    subst X;refine bH.still j ?_ (.int _ _);rw[h0]at k;simp[Builtin.copy_,kn p,a m c,G,h0,o,k,goInt,storeCells]
   .rename_i h0
    split at h
    .rename_i hg
     have Y:f=off:=by
      rcases hg.2 with hg|hg
      .exact(c3 hg).2
      .exact c1 J
     subst Y
     split at h
     .rename_i L tg gg H;cases g:eB L f t with
      |none=>
       rw[g]at h;dsimp only at h;cases hx:Du L f t (f+cap*grow)with
       |none=>rw[hx]at h;cases h
       |some s2=>
        rw[hx]at h;cases h
        by_cases C:grow=0
        .subst C;unfold Du at hx
         split at hx
         .rename_i hh;exfalso;obtain⟨ab,Yd,aa⟩:=hh;unfold eB at g;rw[gq J]at g;cases g
         .cases hx
        .obtain⟨f1,f2⟩:=c4 J
         have F:f+cap*grow<=sz:=by
          show f+cap*grow<=sz;have:=zv grow c2;omega
         obtain⟨w',u,q⟩:=br.grow (P:=P) j H M hx F D hg.1;refine⟨_,w',ρ,?_,.int .i64 _,q⟩;simp[Builtin.copy_,kn p,a m c,G,o,k,u,goInt]
      |some s2=>
       rw[g]at h;cases h;obtain⟨w',u,q⟩:=br.write (P:=P) j H M g D hg.1;refine⟨_,w',ρ,?_,.int .i64 _,q⟩;simp[Builtin.copy_,kn p,a m c,G,o,k,u,goInt]
     .cases h
    .cases h
  .cases h
 .cases h
def pZ (z:δ K)(x:K)(Z:O):OR:=
 match x with
 | .ae=>.ok .undef Z
 | .slice b off len cap grow=>bF (Nat.beq len 0) (.ok .undef Z)
  (bF (Bool.or (Nat.beq grow 0) (Nat.ble 1 cap))
   (match Z.m.g b with
   |some (.cells s ty g)=>(λt=>bF (bh t) (Option.rec .bad (λs'=>.ok .undef ⟨Z.m.put b (Φ (.cells s' ty g)),Z.nx⟩) (eB s off t)) .bad) (cr len z)
   |_=>.bad) .bad)
 |_=>.bad
def FT {t:TypeId}{z:δ K}{c:Value}(h:pZ z x Z=.ok v Z')(f:WR ρ Z w)(j:VR ρ x x')
 (g:P.underlying t=Φ (.slice e)) (hi:P.info? e=Φ i) (hz:i.zero=Φ c) (m:∀ρ,fp ρ z c.cells.toList):bH P (Builtin.clear_ #[t] ty #[x']) ρ Z w v Z':=by
 have a:VR ρ .undef (.tuple #[]):=.undef;have H:(zeroValue e).run P w=.ok c w:=aaC
 unfold pZ at h
 split at h
 .cases h;cases j;exact bH.still f (by simp[Builtin.clear_,kn g]) a
 .rename_i b off len cap grow;obtain⟨r,sz,l,L,rfl,u,F,N,D,M⟩:=j.fk;simp only[aS,md,xF,nR]at h
  split at h
  .rename_i h0;subst h0;cases h;exact bH.still f (by simp[Builtin.clear_,kn g]) a
  .rename_i h0
   split at h
   .rename_i hg
    have C:l=off:=by
     rcases hg with hg|hg
     .exact(D hg).2
     .exact F J
    subst C
    split at h
    .rename_i n tg I hm
     split at h
     .rename_i o;cases d:eB n l (cr len z)with
      |none=>rw[d]at h;cases h
      |some s2=>
       rw[d]at h;cases h
       have s:fp ρ (cr len z) (Builtin.zeroCells c.cells len).toList:=by
        rw[Builtin.zeroCells,ì,aNU,rI];exact(m ρ).flatten len
       obtain⟨w',q,p⟩:=br.write (P:=P) f hm u d s o;refine⟨_,w',ρ,?_,.undef,p⟩;obtain⟨G,rfl⟩:∃k,len=k+1:=⟨len-1,J⟩;simp[Builtin.clear_,kn g,H,q]
     .cases h
    .cases h
   .cases h
 .cases h
def Bk (mx:Bool)(x y:K)(Z:O):OR:=
 match x,y with
 | .int k a,.int j b=>bF (decide (k=j)) (.ok (.int k (if mx then (if a<b then b else a)else (if b<a then b else a))) Z) .bad
 |_,_=>.bad
def DZ {mx:Bool}{ats:Array TypeId}(h:Bk mx x y Z=.ok v Z')(g:WR ρ Z w)(f:VR ρ x x')(d:VR ρ y y'):
 bH P (bif mx then Builtin.max_ ats ty #[x',y']else Builtin.min_ ats ty #[x',y']) ρ Z w v Z':=by
 unfold Bk at h
 split at h
 .rename_i k a j b;rw[aS]at h
  split at h
  .rename_i c;rw[IK]at c;subst c;cases h;cases f;cases d;refine bH.still g ?_ (.int _ _);cases mx
   .simp only[cond_false,Builtin.min_,List.foldlM_cons,List.foldlM_nil,Builtin.min2,bind_pure,Ω]
    rfl
   .simp only[cond_true,Builtin.max_,List.foldlM_cons,List.foldlM_nil,Builtin.max2,bind_pure,Ω]
    rfl
  .cases h
 .cases h
def A5 (x y:K):Bool:=
 match x,y with
 | .bool a,.bool b=>a==b
 | .int j a,.int k b=>decide (j=k)&&decide (a=b)
 | .str a,.str b=>a==b
 |_,_=>φ
def A6:δ K->δ K->Bool
 |[],[]=>θ
 |v::r,u::t=>A5 v u&&A6 r t
 |_,_=>φ
def wi (x y:K):Bool:=match x,y with| .agg s,.agg t=>A6 s t|x,y=>A5 x y
def zM (h:A5 x y=θ)(b:VR ρ x x')(a:VR ρ y y')(n:Nat):x'=y'/\Instr.sameBits n x' y'=θ:=by
 unfold A5 at h
 split at h
 .cases b;cases a;rw[beq_iff_eq]at h;subst h;exact⟨rfl,by simp[Instr.sameBits]⟩
 .simp only[mZ,ws]at h;cases b;cases a;obtain⟨rfl,rfl⟩:=h;exact⟨rfl,by simp[Instr.sameBits]⟩
 .cases b;cases a;rw[beq_iff_eq]at h;subst h;exact⟨rfl,by simp[Instr.sameBits,beq_toListBytes]⟩
 .cases h
def HK (n:Nat):∀(s t:δ K) (l m:δ Value),A6 s t=θ->fp ρ s l->fp ρ t m->l=m/\(l.zip m).all (λ(x,y)=>Instr.sameBits n x y)=θ:=by
 intro s
 induction s with
 |nil=>
  intro t l m h d c;cases t with
  |cons _ _=>simp[A6]at h
  |nil=>
   have a:=sS.1 d.len.symm;have b:=sS.1 c.len.symm;subst a;subst b;exact⟨rfl,rfl⟩
 |cons v r k=>
  intro t l m h d c;cases t with
  |nil=>simp[A6]at h
  |cons u r'=>
   simp only[A6,mZ]at h;obtain⟨v',j,rfl,z,q⟩:=fp.inv (l:=r) d;obtain⟨C,g,rfl,p,o⟩:=fp.inv (l:=r') c;obtain⟨rfl,f⟩:=zM h.1 z p n;obtain⟨rfl,s2⟩:=k r' j g h.2 q o;exact⟨rfl,by simp only[List.zip_cons_cons,List.all_cons,f,s2,Bool.and_true]⟩
def zN (h:wi x y=θ)(c:VR ρ x x')(b:VR ρ y y'):x'=y'/\Instr.sameBits 10000 x' y'=θ:=by
 unfold wi at h
 split at h
 .rename_i s t
  cases c with|agg _ l hl hh=>cases b with|agg _ m hm a=>
   obtain⟨rfl,d⟩:=HK (ρ:=ρ) 9999 s t l m h ⟨hl,hh⟩ ⟨hm,a⟩;refine⟨rfl,?_⟩;show Instr.sameBits (9999+1) _ _=θ;simp only[Instr.sameBits,beq_self_eq_true,S5];exact d
 .exact zM h c b 10000
end
end
section
variable {d:lB}{t:TypeId}{k:K}{k':Value}{u:TypeDesc}{es':δ MapEntry}{s:δ K}
abbrev fh:=K×K×Nat
def kT (d:lB)(k:K)(c:δ fh):Nat->υ (υ (Nat×K)):=
 List.rec (motive:=λ_=>Nat->υ (υ (Nat×K))) (λ_=>Φ ν)
  (λe _ a i=>Option.rec ν (λb=>bF b (Φ (Φ (i,e.2.1))) (a (Nat.succ i))) (mN d k e.1)) c
def abW (d:lB):Bool:=match d with| .bool| .int| .str| .bytes _=>θ| .struct _| .array .. =>θ|_=>φ
def tD (d:lB)(k:K):Bool:=Bool.and (abW d) (Option.rec φ (λb=>b) (mN d k k))
section
variable {P:Program} {ρ:Ren} {Z Z':O} {w:World} {v:K}
def jl:Nat->lB->Bool
 |0,_=>φ
 |_+1,.bool=>θ
 |_+1,.int=>θ
 |_+1,.str=>θ
 |_+1,.bytes _=>θ
 |n+1,.struct fs=>Oi n fs
 |n+1,.array _ _ _ e=>jl n e
 |_+1,_=>φ
where Oi:Nat->î->Bool
 |0,_=>φ
 |_+1,.nil=>θ
 |n+1,.cons _ _ _ d r=>jl n d&&Oi n r
def zx (D:GR P w ρ d t 10000)(C:VR ρ k k'):∀(a:δ fh) (es':δ MapEntry) (j:Nat) (r:υ (Nat×K)),a.length=es'.length->
 (∀(i:Nat) (e:fh) (e':MapEntry),a[i]?=Φ e->es'[i]?=Φ e'->VR ρ e.1 e'.key/\VR ρ e.2.1 e'.val/\e.2.2=e'.born)->kT d k a j=Φ r->
 ∃r',(Instr.findAsking t k' es' j).run P w=.ok r' w/\(match r,r' with
  |none,none=>True
  |some (i,u),some (n,g)=>i=n/\VR ρ u g/\j<=i/\∃e e',a[i-j]?=Φ e/\es'[i-j]?=Φ e'/\e.2.1=u/\e'.val=g
  |_,_=>False):=by
 intro a
 induction a with
 |nil=>
  intro es' j r hl h c;have:es'=[]:=by apply sS.1;simpa using hl.symm
  subst this;cases c;exact⟨ν,by simp[Instr.findAsking],gt⟩
 |cons e a z=>
  intro es' j r hl h c;cases es' with
  |nil=>simp at hl
  |cons e' es'=>
   obtain⟨S,Q,X⟩:=h 0 e e' rfl rfl;have F:kT d k (e::a) j=Option.rec ν (λb=>bF b (Φ (Φ (j,e.2.1))) (kT d k a (j+1))) (mN d k e.1):=rfl;rw[F]at c;cases m:mN d k e.1 with
   |none=>rw[m]at c;cases c
   |some b=>
    rw[m]at c;have o:(Op.equal t k' e'.key).run P w=.ok b w:=D k e.1 k' e'.key b m C S;cases b with
    |true=>
     cases c;exact⟨Φ (j,e'.val),by simp[Instr.findAsking,o],rfl,Q,hI _,e,e',V,V,rfl,rfl⟩
    |false=>
     obtain⟨r',q,l⟩:=z es' (j+1) r afG (λi x f hx T=>h (i+1) x f J8 (by simpa using T)) c;refine⟨r',by simp[Instr.findAsking,o,q],?_⟩;cases r with
     |none=>cases r' with
      |none=>trivial
      |some _=>exact l
     |some p=>cases r' with
      |none=>exact l
      |some y=>
       obtain⟨i,u⟩:=p;obtain⟨n,g⟩:=y;obtain⟨N,M,W,x,f,L,I,H,G⟩:=l;refine⟨N,M,J,x,f,?_,?_,H,G⟩
       .rw[show i-j=(i-(j+1))+1 from J];simpa using L
       .rw[show i-j=(i-(j+1))+1 from J];simpa using I
def wh {a b:Value}{q:Bool}(c:P.underlying t=Φ u)(h:Instr.sameNow u a b=Φ q):(Op.equal t a b).run P w=.ok q w:=by
 unfold Instr.sameNow at h
 split at h
 .split at h
  .rename_i e;cases h;subst e;exact run_equalIn_int w 9999 t _ _ _ _ c
  .cases h
 .cases h;rename_i x y;rw[beq_toListBytes];exact run_equalIn_string w 9999 t x y c
 .cases h;exact run_equalIn_bool' w 9999 t _ _ c
 .cases h
def Ce (a:P.underlying t=Φ u):∀(es':δ MapEntry) (j:Nat) (r:υ (Nat×Value)),Instr.findNow u k' es' j=Φ r->(Instr.findAsking t k' es' j).run P w=.ok r w:=by
 intro es'
 induction es' with
 |nil=>intro j r h;cases h;simp[Instr.findAsking]
 |cons e es' b=>
  intro j r h;simp only[Instr.findNow]at h
  split at h
  .rename_i hs;cases h;simp[Instr.findAsking,wh a hs]
  .rename_i hs;simp[Instr.findAsking,wh a hs,b _ _ h]
  .cases h
def Jo {r:υ (Nat×Value)}(a:P.underlying t=Φ u)(h:(Instr.findAsking t k' es' 0).run P w=.ok r w):(Instr.findKey t k' es').run P w=.ok r w:=by
 simp only[Instr.findKey,Ψ,kn a,Ξ];cases hn:Instr.findNow u k' es' 0 with
 |none=>exact h
 |some r'=>
  have:=Ce (P:=P) (w:=w) a es' 0 r' hn;rw[this]at h;cases h;rfl
def nz {f:Nat}{c:δ fh}{r:υ (Nat×K)}(b:gO P f t=Φ d)(y:f<10000)(q:VR ρ k k')(o:c.length=es'.length)
 (h:∀(i:Nat) (e:fh) (e':MapEntry),c[i]?=Φ e->es'[i]?=Φ e'->VR ρ e.1 e'.key/\VR ρ e.2.1 e'.val/\e.2.2=e'.born) (z:kT d k c 0=Φ r):
 ∃r',(Instr.findKey t k' es').run P w=.ok r' w/\(match r,r' with
  |none,none=>True
  |some (i,u),some (l,g)=>i=l/\VR ρ u g/\∃e e',c[i]?=Φ e/\es'[i]?=Φ e'/\e.2.1=u/\e'.val=g
  |_,_=>False):=by
 obtain⟨r',C,j⟩:=zx (P:=P) (w:=w) (TY f t d b 10000 y) q c es' 0 r o h z
 have a:∃u,P.underlying t=Φ u:=by
  cases f with
  |zero=>cases b
  |succ f=>
   simp only[gO]at b;cases a:P.underlying t with
   |none=>rw[a]at b;cases b
   |some u=>exact⟨u,rfl⟩
 obtain⟨u,a⟩:=a;refine⟨r',Jo a C,?_⟩;cases r with
 |none=>cases r'<;>exact j
 |some p=>cases r' with
  |none=>exact j
  |some n=>
   obtain⟨i,u⟩:=p;obtain⟨l,g⟩:=n;obtain⟨L,I,M,x,m,H,G,F,D⟩:=j;exact⟨L,I,x,m,by simpa using H,by simpa using G,F,D⟩
def Yh (P:Program)(w:World)(ρ:Ren)(d:lB)(t:TypeId)(n:Nat):Prop:=
 ∀(e:Bool) (x:K) (x':Value),mN d x x=Φ θ->VR ρ x x'->(Instr.checkKey e n t x').run P w=.ok () w
def yO {a b:υ Bool}(h:andThen a b=Φ θ):a=Φ θ/\b=Φ θ:=by
 cases a with
 |none=>cases h
 |some q=>cases q with
  |false=>cases h
  |true=>exact⟨rfl,h⟩
def Qg {len size:Nat}{c:Bool}{e:lB}:∀(off:Nat),Nat.rec (motive:=λ_=>Nat->υ Bool) (λ_=>Φ θ)
        (λ_ f off=>Option.rec ν (λa=>Option.rec ν (λb=>andThen (mN e a b) (f (Nat.add off size))) (fR c off size s)) (fR c off size s)) len off=Φ θ->
 ∀j,j<len->∃x,fR c (off+j*size) size s=Φ x/\mN e x x=Φ θ:=by
 induction len with
 |zero=>intro off _ j g;omega
 |succ len f=>
  intro off h j g;simp only at h;cases hx:fR c off size s with
  |none=>rw[hx]at h;cases h
  |some x=>
   rw[hx]at h;obtain⟨n,m⟩:=yO h;cases j with
   |zero=>exact⟨x,J8,n⟩
   |succ j=>
    obtain⟨y,l,i⟩:=f (off+size) m j J;exact⟨y,by rw[<-l];congr 1;rw[Nat.succ_mul];omega,i⟩
def Qf {a:TypeId->Option lB}:∀(e:List Field) (r:î),qU P a e=some r->zE r s s=some true->
 ∀f∈e,f.name≠ "_" /\∃i u d x,P.info? f.type=some i/\P.underlying f.type=some u/\a f.type=some d/\fR (jB u) f.offset i.size s=some x/\mN d x x=some true:=by
 intro e
 induction e with
 |nil=>intro r _ _ f b;cases b
 |cons g e j=>
  intro r h c f b;simp only[qU]at h
  split at h
  .rename_i i u d r' jg hi hu m l;cases h;simp only[zE]at c;cases hx:fR (jB u) g.offset i.size s with
   |none=>rw[hx]at c;cases c
   |some x=>
    rw[hx]at c;obtain⟨o,n⟩:=yO c;rcases ip.1 b with rfl|b
    .exact⟨acm,i,u,d,x,hi,hu,m,hx,o⟩
    .exact j r' l n f b
  .cases h
def WN:∀(f:Nat) (t:TypeId) (d:lB),gO P f t=some d->∀m,jl m d=true->∀n,f<n->Yh P w ρ d t n:=by
 intro f
 induction f with
 |zero=>intro t d h;cases h
 |succ f ih=>
  intro t d h m Q n hn e x x' b hv;obtain⟨n,rfl⟩:∃k,n=k+1:=⟨n-1,J⟩;simp only[gO]at h
  split at h
  .rename_i hu;simp[Instr.checkKey,kn hu]
  .rename_i k hu;simp[Instr.checkKey,kn hu]
  .rename_i hu;simp[Instr.checkKey,kn hu]
  .rename_i hu;simp[Instr.checkKey,kn hu]
  .cases h;cases m<;>simp[jl]at Q
  .rename_i hu;simp[Instr.checkKey,kn hu]
  .rename_i hu;simp[Instr.checkKey,kn hu]
  .rename_i hu;simp[Instr.checkKey,kn hu]
  .rename_i fs hu;rw[aS]at h
   split at h
   .cases h
   .split at h
    .rename_i l o;cases h;simp only[mN]at b
     split at b
     .rename_i s1;cases hv with
      |agg _ lv G hh=>
       cases m with
       |zero=>cases Q
       |succ m=>
        have fJ:=Qf (P:=P) fs.toList l o b;simp only[Instr.checkKey,Sem.run_bind,kn hu,Result.andThen_ok];rw[<-Array.forIn_toList]
        have NT:∀(q:Nat) (r:î) (I:List Field),qU P (gO P f) I=some r->jl.Oi q r=true->∀g∈I,∀p,gO P f g.type=some p->∃X,jl X p=true:=by
         intro q
         induction q with
         |zero=>intro r I _ C;cases C
         |succ q aa=>
          intro r I T C g D p Av;cases I with
          |nil=>cases D
          |cons g0 I=>
           simp only[qU]at T
           split at T
           .rename_i i0 u0 d0 r0 af Zz ae ad vq;cases T;simp only[jl.Oi,mZ]at C;rcases ip.1 D with rfl|D
            .rw[ad]at Av;cases Av;exact⟨q,C.1⟩
            .exact aa r0 I vq C.2 g D p Av
           .cases T
        have D:∀g∈fs.toList,g.name≠ "_" /\∃y',(part g.type lv.toArray g.offset).run P w=.ok y' w/\(Instr.checkKey e n g.type y').run P w=.ok () w:=by
         intro g S;obtain⟨L,i,u,p,y,h2,h3,h4,h5,h6⟩:=fJ g S;obtain⟨y',N,M⟩:=jF (P:=P) (w:=w) h5 ⟨G,hh⟩ h2 rfl h3 rfl;obtain⟨X,ab⟩:=NT m l fs.toList o Q g S p h4;exact⟨L,y',N,ih g.type p h4 X ab n J e y y' h6 M⟩
        generalize fs.toList=z at D;refine Eq.trans (congrArg (λr:Result PUnit=>r.andThen _) (?_:_=Result.ok PUnit.unit w)) rfl
        induction z with
        |nil=>rfl
        |cons g z c=>
         obtain⟨L,y',N,M⟩:=D g V;rw[List.forIn_cons];simp only[ne_eq,L,not_false_eq_true,ix,Sem.run_bind,N,M,Result.andThen_ok,Sem.run_pure];exact c (λg' ac=>D g' (by simp[ac]))
     .cases b
    .cases h
  .rename_i len el hu
   split at h
   .rename_i i hi W;rw[aS]at h
    split at h
    .rename_i L;rw[md]at L;cases h;simp only[mN]at b
     split at b
     .rename_i n1 sl;cases F:Ka sl with
      |none=>rw[F]at b;cases b
      |some a=>
      rw[F]at b;dsimp only at b;rw[aS]at b
      split at b
      .rename_i C;simp only[mZ,ws]at C;obtain⟨rfl,_⟩:=C;have e1:=xM F;subst e1;rw[hv.vH];have hs:(Go.sizeOf el).run P w=.ok 1 w:=by simp[Go.sizeOf,typeInfo,hi,L]
       simp only[Instr.checkKey,Sem.run_bind,kn hu,Result.andThen_ok,Std.Legacy.Range.forIn_eq_forIn_range',Std.Legacy.Range.size,Nat.sub_zero,Nat.add_one_sub_one,Nat.div_one];obtain⟨n',rfl⟩:∃k,n=k+1:=⟨n-1,J⟩;refine Eq.trans (congrArg (λr:Result PUnit=>r.andThen _) (?_:_=Result.ok PUnit.unit w)) rfl;have o:∀j∈List.range' 0 a.length 1,j<a.length:=λj hj=>aeC
       generalize List.range' 0 a.length 1=z at o
       induction z with
       |nil=>rfl
       |cons j z c=>
        have hj:=o j V
        have hp:(part el (a.map Extern.Stop.cell).toArray (j*1)).run P w=.ok (Extern.Stop.cell (a[j]' aem)) w:=by
         simp[part,isAgg,kn W,hj]
        rw[List.forIn_cons];simp only[Sem.run_bind,hs,hp,Result.andThen_ok,Instr.checkKey,kn W,Sem.run_pure];exact c (λY H=>o Y (by simp[H]))
      .cases b
     .cases b
    .cases h
   .rename_i i u jg hi W
    split at h
    .rename_i p hd;cases h;simp only[mN]at b
     split at b
     .rename_i s1;cases hv with
      |agg _ lv G hh=>
       cases m with
       |zero=>cases Q
       |succ m=>
        have BO:jl m p=true:=Q;have hs:(Go.sizeOf el).run P w=.ok i.size w:=adO
        have fJ:=Qg (s:=s1) 0 b;simp only[Instr.checkKey,Sem.run_bind,kn hu,Result.andThen_ok,Std.Legacy.Range.forIn_eq_forIn_range',Std.Legacy.Range.size,Nat.sub_zero,Nat.add_one_sub_one,Nat.div_one];refine Eq.trans (congrArg (λr:Result PUnit=>r.andThen _) (?_:_=Result.ok PUnit.unit w)) rfl;have o:∀j∈List.range' 0 len 1,j<len:=λj hj=>aeC
        generalize List.range' 0 len 1=z at o
        induction z with
        |nil=>rfl
        |cons j z c=>
         have hj:=o j V;obtain⟨y,b1,b2⟩:=fJ j hj;rw[oa]at b1;obtain⟨y',N,M⟩:=jF (P:=P) (w:=w) b1 ⟨G,hh⟩ hi rfl W rfl;have:=ih el p hd m BO n J e y y' b2 M;rw[List.forIn_cons];simp only[Sem.run_bind,hs,N,this,Result.andThen_ok,Sem.run_pure];exact c (λY H=>o Y (by simp[H]))
     .cases b
    .cases h
   .cases h
  .cases h
end
end
section
variable {e:fh}{es:δ fh}{es':δ MapEntry}{f:Nat}{d:lB}{t:TypeId}{m:Nat}{k:K}{k':Value}{a:Int}{z:K}{kt et:TypeId}{i:TypeInfo}{z':Value}{x:K}{x':Value}{es2:δ fh}{clock clock2 r sz:Nat}{es2':δ MapEntry}{o:Obj}{r0:Nat}{y:K}{y':Value}
def xp (x:K)(Z:O):υ (δ fh):=
 match x with
 | .gM=>Φ []
 | .map b=>(match Z.m.g b with|some (.map es _)=>Φ es|_=>ν)
 |_=>ν
def qh (x:K)(Z:O):υ (δ fh):=
 match x with
 | .map b=>(match Z.m.g b with|some (.lmap es)=>Φ es|_=>ν)
 |_=>ν
def Gf (a:Int)(v:K):Bool:=match v with| .int .i64 n=>zeq a n|_=>φ
def yq (a:Int)(es:δ fh):υ K:=List.rec (motive:=λ_=>υ K) ν (λe _ b=>bF (Gf a e.1) (Φ e.2.1) b) es
def sU (a:Int)(x:K)(es:δ fh):δ fh:=List.rec (motive:=λ_=>δ fh) [] (λe _ b=>bF (Gf a e.1) ((e.1,x,e.2.2)::b) (e::b)) es
def LV (d:lB)(k:K):υ Int:=match d,k with| .int,.int .i64 a=>Φ a|_,_=>ν
def xY (d:lB)(z:K)(b:Bool)(es:δ fh)(k:K)(Z:O):OR:=
 match LV d k with
 |some a=>(match yq a es with
  |some u=>bF b (.ok (.tuple [u,.bool θ]) Z) (.ok u Z)
  |none=>bF b (.ok (.tuple [z,.bool φ]) Z) (.ok z Z))
 |none=>.bad
def jk (d:lB)(z:K)(b:Bool)(x k:K)(Z:O):OR:=
 bF (tD d k) (match qh x Z with
  |some es=>xY d z b es k Z
  |none=>(match xp x Z with
  |some es=>(match kT d k es 0 with
   |some (some (_,u))=>bF b (.ok (.tuple [u,.bool θ]) Z) (.ok u Z)
   |some none=>bF b (.ok (.tuple [z,.bool φ]) Z) (.ok z Z)
   |none=>.bad)
  |none=>.bad)) .bad
def zT (es:δ fh)(i:Nat)(e:fh):δ fh:=
 List.rec (motive:=λ_=>Nat->δ fh) (λ_=>[]) (λx r b i=>Nat.rec (e::r) (λj _=>x::b j) i) es i
def ED (es:δ fh)(i:Nat):υ fh:=List.rec (motive:=λ_=>Nat->υ fh) (λ_=>ν) (λx _ b i=>Nat.rec (Φ x) (λj _=>b j) i) es i
def Jw (es:δ fh)(i:Nat):δ fh:=
 List.rec (motive:=λ_=>Nat->δ fh) (λ_=>[]) (λx r b i=>Nat.rec r (λj _=>x::b j) i) es i
def Bi (d:lB)(b:Nat)(es:δ fh)(k x:K)(Z:O):OR:=
 match LV d k with
 |some a=>(match yq a es with
  |some _=>.ok .undef ⟨Z.m.put b (Φ (.lmap (sU a x es))),Z.nx⟩
  |none=>.ok .undef ⟨Z.m.put b (Φ (.lmap (es++[(k,x,0)]))),Z.nx⟩)
 |none=>.bad
def fe (d:lB)(m k x:K)(Z:O):OR:=
 bF (tD d k) (match m with
  | .map b=>(match Z.m.g b with
    |some (.lmap es)=>Bi d b es k x Z
    |some (.map es clock)=>(match kT d k es 0 with
     |some (some (i,_))=>(match ED es i with
      |some (j,_,born)=>bF (wi j k) (.ok .undef ⟨Z.m.put b (Φ (.map (zT es i (k,x,born)) clock)),Z.nx⟩) .bad
      |none=>.bad)
     |some none=>qT (Nat.succ clock) λc=>.ok .undef ⟨Z.m.put b (Φ (.map (es++[(k,x,clock)]) c)),Z.nx⟩
     |none=>.bad)
    |_=>.bad)
  |_=>.bad) .bad
def gp (d:lB)(z:K)(m k:K)(Z:O):OR:=
 bF (tD d k) (match m with
  | .map b=>(match Z.m.g b with
    |some (.map es clock)=>(match kT d k es 0 with
     |some (some (i,u))=>(match ED es i with
      |some (j,_,born)=>bF (wi j k) (.ok (.tuple [u,.int .i64 (.ofNat born)]) ⟨Z.m.put b (Φ (.map (zT es i (k,u,born)) clock)),Z.nx⟩) .bad
      |none=>.bad)
     |some none=>qT (Nat.succ clock) λc=>.ok (.tuple [z,.int .i64 (.ofNat clock)]) ⟨Z.m.put b (Φ (.map (es++[(k,z,clock)]) c)),Z.nx⟩
     |none=>.bad)
    |_=>.bad)
  |_=>.bad) .bad
def uO (b:Nat)(es:δ fh):Nat->υ (Nat×fh):=
 List.rec (motive:=λ_=>Nat->υ (Nat×fh)) (λ_=>ν) (λx _ c i=>bF (Nat.beq x.2.2 b) (Φ (i,x)) (c (Nat.succ i))) es
def eA (m s x:K)(Z:O):OR:=
 match m,s with
 | .map b,.int _ (.ofNat born)=>(match Z.m.g b with
   |some (.map es clock)=>(match uO born es 0 with
    |some (i,(k,_,bn))=>.ok .undef ⟨Z.m.put b (Φ (.map (zT es i (k,x,bn)) clock)),Z.nx⟩
    |none=>.bad)
   |_=>.bad)
 |_,_=>.bad
def qM (d:lB)(m k:K)(Z:O):OR:=
 bF (tD d k) (match m with
  | .gM=>.ok .undef Z
  | .map b=>(match Z.m.g b with
    |some (.map es clock)=>(match kT d k es 0 with
     |some (some (i,_))=>.ok .undef ⟨Z.m.put b (Φ (.map (Jw es i) clock)),Z.nx⟩
     |some none=>.ok .undef Z
     |none=>.bad)
    |_=>.bad)
  |_=>.bad) .bad
def mF (r:Option K)(Z:O):OR:=
 match r with
 |none|some (.int _ _)=>qT (Z.nx+1) λn=>.ok (.map Z.nx) ⟨Z.m.put Z.nx (some (.map [] 0)),n⟩
 |_=>.bad
section
variable {P:Program} {ρ:Ren} {Z Z':O} {w:World} {v:K}
def tn (ρ:Ren)(es:δ fh)(es':δ MapEntry):Prop:=
 es.length=es'.length/\∀(i:Nat) (e:fh) (e':MapEntry),es[i]?=Φ e->es'[i]?=Φ e'->VR ρ e.1 e'.key/\VR ρ e.2.1 e'.val/\e.2.2=e'.born
def tn.nil:tn ρ [] []:=⟨rfl,λi e e' h=>Vu⟩
def tn.cons {e':MapEntry}(h:VR ρ e.1 e'.key/\VR ρ e.2.1 e'.val/\e.2.2=e'.born)(t:tn ρ es es'):tn ρ (e::es) (e'::es'):=
 ⟨by simp[t.1],λi x x' a b=>by
  cases i with
  |zero=>simp at a b;subst a;subst b;exact h
  |succ i=>exact t.2 i x x' afS afT⟩
def tn.inv (h:tn ρ (e::es) es'):∃e' c,es'=e'::c/\(VR ρ e.1 e'.key/\VR ρ e.2.1 e'.val/\e.2.2=e'.born)/\tn ρ es c:=by
 cases es' with
 |nil=>have:=h.1;simp at this
 |cons e' c=>exact⟨e',c,rfl,h.2 0 e e' rfl rfl,by have:=h.1;simpa using this,λi x x' a b=>h.2 (i+1) x x' afS afT⟩
def tn.app {c:δ fh}{b:δ MapEntry}(h:tn ρ es es')(t:tn ρ c b):tn ρ (es++c) (es'++b):=by
 induction es generalizing es' with
 |nil=>have:es'=[]:=by have:=h.1;simpa using this.symm
       subst this;exact t
 |cons e es g=>obtain⟨e',n,rfl,l,j⟩:=h.inv;exact tn.cons l (g j)
def tn.mod {f:MapEntry->MapEntry}:∀{es:δ fh} {es':δ MapEntry} (i:Nat),tn ρ es es'->(∀e',es'[i]?=Φ e'->VR ρ e.1 (f e').key/\VR ρ e.2.1 (f e').val/\e.2.2=(f e').born)->tn ρ (zT es i e) (es'.modify i f):=by
 intro es
 induction es with
 |nil=>
  intro es' i h _;have:es'=[]:=by have:=h.1;simpa using this.symm
  subst this;rw[List.modify_nil];exact h
 |cons x es g=>
  intro es' i h b;obtain⟨x',l,rfl,j,c⟩:=h.inv;cases i with
  |zero=>
   show tn ρ (e::es) _;rw[List.modify_zero_cons];exact tn.cons (b x' rfl) c
  |succ i=>
   show tn ρ (x::zT es i e) _;rw[List.modify_succ_cons];exact tn.cons j (g i c (λe' he=>b e' õ))
def tn.del:∀{es:δ fh} {es':δ MapEntry} (i:Nat),tn ρ es es'->tn ρ (Jw es i) (es'.eraseIdx i):=by
 intro es
 induction es with
 |nil=>
  intro es' i h;have:es'=[]:=by have:=h.1;simpa using this.symm
  subst this;rw[List.eraseIdx_nil];exact h
 |cons x es c=>
  intro es' i h;obtain⟨x',j,rfl,g,b⟩:=h.inv;cases i with
  |zero=>exact b
  |succ i=>
   show tn ρ (x::Jw es i) _;rw[List.eraseIdx_cons_succ];exact tn.cons g (c i b)
def Js:∀(es:δ fh) (i:Nat),ED es i=es[i]?:=by
 intro es
 induction es with
 |nil=>intro i;rfl
 |cons x es b=>intro i;cases i with
  |zero=>rfl
  |succ i=>show ED es i=_;rw[b];simp
def oz (h:tD d k=θ)(l:gO P f t=Φ d)(j:f<10000)(c:jl m d=θ)(g:VR ρ k k')(e:Bool):(Instr.checkKey e 10000 t k').run P w=.ok () w:=by
 unfold tD at h;simp only[mZ]at h
 have:mN d k k=Φ θ:=by
  cases hc:mN d k k with
  |none=>rw[hc]at h;cases h.2
  |some b=>rw[hc]at h;rw[show b=θ from h.2]
 exact WN f t d l m c 10000 j e k k' this g
def fp.two {a b:K}{g c:Value}(l:VR ρ a g)(j:VR ρ b c):fp ρ [a,b] [g,c]:=fp.cons l (fp.cons j (fp.nil ρ))
def qQ {v:K}:Gf a v=θ↔v=.int .i64 a:=by
 unfold Gf
 split
 .rw[Ay];constructor
  .intro h;rw[h]
  .intro h;cases h;rfl
 .rename_i h;constructor
  .intro hh;cases hh
  .intro hh;subst hh;exact(h _ rfl).elim
def Ef (a:Int)(e:fh)(es:δ fh):yq a (e::es)=bF (Gf a e.1) (Φ e.2.1) (yq a es):=rfl
def Pr (a:Int)(x:K)(e:fh)(es:δ fh):sU a x (e::es)=bF (Gf a e.1) ((e.1,x,e.2.2)::sU a x es) (e::sU a x es):=rfl
def qg (a:Int)(x:K)(es:δ fh):sU a x es=es.map λe=>if Gf a e.1=θ then (e.1,x,e.2.2)else e:=by
 induction es with
 |nil=>rfl
 |cons e es b=>
  rw[Pr,pw,<-b,aS]
  split<;>rfl
def zk :∀{es:δ fh} {u:K},yq a es=Φ u->∃e∈es,e.1=.int .i64 a/\e.2.1=u:=by
 intro es
 induction es with
 |nil=>intro u h;cases h
 |cons e es b=>
  intro u h;rw[Ef,aS]at h
  split at h
  .rename_i hh;cases h;exact⟨e,zt ..,qQ.1 hh,rfl⟩
  .obtain⟨e',h1,h2⟩:=b h;exact⟨e',EQ _ h1,h2⟩
def vn :∀{es:δ fh},yq a es=ν->∀e∈es,e.1≠ .int .i64 a:=by
 intro es
 induction es with
 |nil=>intro _ e j;cases j
 |cons e es g=>
  intro h x b;rw[Ef,aS]at h
  split at h
  .cases h
  .rename_i hh;rcases ip.1 b with rfl|b
   .exact λc=>hh (qQ.2 c)
   .exact g h x b
def Pk (c:(es.map (·.1)).Nodup){f:fh}(j:e∈es)(g:f∈es)(h:e.1=f.1):e=f:=by
 induction es with
 |nil=>cases j
 |cons x es l=>
  rw[pw,me]at c;rcases ip.1 j with b|b
  .rcases ip.1 g with hf1|hf1
   .rw[b,hf1]
   .exact absurd (by rw[<-b,h];exact Ey (f:=(·.1)) hf1) c.1
  .rcases ip.1 g with hf1|hf1
   .exact absurd (by rw[<-hf1,<-h];exact Ey (f:=(·.1)) b) c.1
   .exact l c.2 b hf1
def zW {l:δ fh}(hd:gO P f t=Φ .int)(Y:f<10000)(X:VR ρ (.int .i64 a) k')(hi:∀e∈l,∃n:Int,e.1=.int .i64 n)(hl:l.length=es'.length)
 (h:∀(i:Nat) (e:fh) (e':MapEntry),l[i]?=Φ e->es'[i]?=Φ e'->VR ρ e.1 e'.key/\VR ρ e.2.1 e'.val):
 ∃r',(Instr.findKey t k' es').run P w=.ok r' w/\(match r' with
  |none=>∀e∈l,e.1≠ .int .i64 a
  |some (j,W)=>∃e e',l[j]?=Φ e/\es'[j]?=Φ e'/\e.1=.int .i64 a/\e'.val=W):=by
 have key:∀(l:δ fh) (i:Nat),(∀e∈l,∃n:Int,e.1=.int .i64 n)->
  (∃j e,l[j]?=Φ e/\e.1=.int .i64 a/\kT .int (.int .i64 a) l i=Φ (Φ (i+j,e.2.1)))\/((∀e∈l,e.1≠ .int .i64 a)/\kT .int (.int .i64 a) l i=Φ ν):=by
  intro l
  induction l with
  |nil=>intro i _;exact .inr ⟨λe C=>(by cases C),rfl⟩
  |cons e l ih=>
   intro i hi;obtain⟨n,Q⟩:=hi e (zt ..);have g:kT .int (.int .i64 a) (e::l) i=Option.rec ν (λb=>bF b (Φ (Φ (i,e.2.1))) (kT .int (.int .i64 a) l (Nat.succ i))) (mN .int (.int .i64 a) e.1):=rfl;rw[g,Q];have T:mN .int (.int .i64 a) (.int .i64 n)=Φ (zeq a n):=rfl;rw[T];dsimp only;rw[aS]
   by_cases H:zeq a n=θ
   .rw[gq H];have:=(Ay a n).1 H;subst this;exact .inl ⟨0,e,rfl,Q,rfl⟩
   .rw[B H];rcases ih (i+1) (λe C=>hi e (EQ _ C))with⟨j,e',h1,c,D⟩|⟨h1,c⟩
    .exact .inl ⟨j+1,e',QM,c,by rw[show i+(j+1)=i+1+j from J];exact D⟩
    .refine .inr ⟨λx N=>?_,c⟩;rcases ip.1 N with rfl|N
     .rw[Q];intro hh;cases hh;exact H ((Ay _ _).2 rfl)
     .exact h1 x N
 have s:∀(i:Nat) (e:fh) (e':MapEntry),(List.zipWith (λ(e:fh) (e':MapEntry)=>((e.1,e.2.1,e'.born):fh)) l es')[i]?=Φ e->es'[i]?=Φ e'->∃g,l[i]?=Φ g/\e=(g.1,g.2.1,e'.born):=by
  intro i e e' h1 c;rw[List.getElem?_zipWith]at h1;cases D:l[i]? with
  |none=>rw[D]at h1;simp at h1
  |some g=>rw[D,c]at h1;simp at h1;exact⟨g,rfl,h1.symm⟩
 have M:∀e∈List.zipWith (λ(e:fh) (e':MapEntry)=>((e.1,e.2.1,e'.born):fh)) l es',∃n:Int,e.1=.int .i64 n:=by
  intro e C;obtain⟨i,L,rfl⟩:=Di C;have u:i<es'.length:=by simp at L;omega
  obtain⟨g,S,I⟩:=s i _ es'[i] (li L) (li u);rw[I];exact hi g (Do S)
 have q:(List.zipWith (λ(e:fh) (e':MapEntry)=>((e.1,e.2.1,e'.born):fh)) l es').length=es'.length:=by simp[hl]
 have Zn:∀(i:Nat) (e:fh) (e':MapEntry),(List.zipWith (λ(e:fh) (e':MapEntry)=>((e.1,e.2.1,e'.born):fh)) l es')[i]?=Φ e->es'[i]?=Φ e'->VR ρ e.1 e'.key/\VR ρ e.2.1 e'.val/\e.2.2=e'.born:=by
  intro i e e' h1 c;obtain⟨g,S,I⟩:=s i e e' h1 c;obtain⟨F,G⟩:=h i g e' S c;rw[I];exact⟨F,G,rfl⟩
 rcases key _ 0 M with⟨j,e,h1,c,D⟩|⟨h1,c⟩
 .obtain⟨r',f1,f2⟩:=nz (P:=P) (w:=w) hd Y X q Zn D;cases r' with
  |none=>exact f2.elim
  |some p=>
   obtain⟨j',W⟩:=p;obtain⟨rfl,I,T,e',F,G,g5,g6⟩:=f2;rw[oa]at F G f1;obtain⟨g,k1,k2⟩:=s j T e' F G;rw[h1]at F;cases F;refine⟨_,f1,g,e',k1,G,?_,g6⟩;rw[k2]at c;exact c
 .obtain⟨r',f1,f2⟩:=nz (P:=P) (w:=w) hd Y X q Zn c;cases r' with
  |some p=>exact f2.elim
  |none=>
   refine⟨_,f1,λe C=>?_⟩;obtain⟨i,L,rfl⟩:=Di C;have u:i<es'.length:=J
   have hm:(List.zipWith (λ(e:fh) (e':MapEntry)=>((e.1,e.2.1,e'.born):fh)) l es')[i]?=Φ (l[i].1,l[i].2.1,es'[i].born):=by
    rw[List.getElem?_zipWith,li L,li u]
   exact h1 (l[i].1,l[i].2.1,es'[i].born) (Do hm)
def C7 {n:Bool}(h:jk d z n x k Z=.ok v Z')(s:WR ρ Z w)(hx:VR ρ x x')(hk:VR ρ k k')
 (hu:P.underlying t=Φ (.map kt et)) (hd:gO P f kt=Φ d) (hf:f<10000) (hm:jl m d=θ) (hi:P.info? et=Φ i) (hz:i.zero=Φ z') (N:VR ρ z z'):bH P (Instr.lookup t x' k' n) ρ Z w v Z':=by
 unfold jk at h;rw[aS]at h
 split at h
 .rename_i I6;have W:=λe=>oz (w:=w) I6 hd hf hm hk e
  by_cases C:∃es,qh x Z=Φ es
  .obtain⟨es,C⟩:=C;rw[C]at h;dsimp only at h;have T:(zeroValue et).run P w=.ok z' w:=by simp[zeroValue,typeInfo,hi,hz]
   unfold qh at C
   split at C
   .rename_i b
    split at C
    .rename_i aa X;cases C;cases hx with
     |map _ r0 sz Y=>
      obtain⟨l,clock,es',h1,H,h3,h4,h5,h6,h7⟩:=s.lmap X Y;unfold xY at h
      split at h
      .rename_i a ha;unfold LV at ha
       split at ha
       .cases ha;obtain⟨r',S,G⟩:=zW (P:=P) (w:=w) hd hf hk (λe g=>h3 e (H.mem_iff.1 g)) h6 h7
        have I:∀c q,(match r' with|some (_,u)=>(.ok (u,θ) w:Result (Value×Bool))|none=>.ok (z',φ) w)=.ok (c,q) w->
         (Instr.lookup t (.map (Φ r0)) k' n).run P w=.ok (if n then .tuple #[c,.bool q]else c) w:=by
         intro c q F;simp only[Instr.lookup,Ψ,kn hu,Ξ,Ω,dQ h1,W,S];cases r' with
         |none=>cases F;simp[T]
         |some p=>cases F;simp
        cases hg:yq a es with
        |some u=>
         rw[hg]at h;obtain⟨e,g,Mn,NS⟩:=zk hg;cases r' with
         |none=>exact absurd Mn (G e (H.mem_iff.2 g))
         |some p=>
          obtain⟨j,c⟩:=p;obtain⟨M,e',Q,L,g3,g4⟩:=G;have Vg:=Pk h4 (H.mem_iff.1 (Do Q)) g (by rw[g3,Mn]);subst Vg;have hv:=(h7 j _ _ Q L).2;rw[NS,g4]at hv;have D:=I c θ rfl;cases n with
          |false=>cases h;exact bH.still s D hv
          |true=>cases h;exact bH.still s D (VR.tuple' (fp.two hv (.bool θ)))
        |none=>
         rw[hg]at h;cases r' with
         |some p=>
          obtain⟨j,c⟩:=p;obtain⟨M,e',Q,L,g3,g4⟩:=G;exact absurd g3 (vn hg M (H.mem_iff.1 (Do Q)))
         |none=>
          have D:=I z' φ rfl;cases n with
          |false=>cases h;exact bH.still s D N
          |true=>cases h;exact bH.still s D (VR.tuple' (fp.two N (.bool φ)))
       .cases ha
      .cases h
    .cases C
   .cases C
  have ab:qh x Z=ν:=by
   cases hh:qh x Z with
   |none=>rfl
   |some es=>exact absurd ⟨es,hh⟩ C
  rw[ab]at h;dsimp only at h;cases g:xp x Z with
  |none=>rw[g]at h;cases h
  |some es=>
   rw[g]at h;dsimp only at h
   have key:∃es':δ MapEntry,tn ρ es es'/\∀(r:υ (Nat×Value)),(Instr.findKey kt k' es').run P w=.ok r w->∀c q,(match r with|some (_,u)=>(.ok (u,θ) w:Result (Value×Bool))|none=>.ok (z',φ) w)=.ok (c,q) w->
    (Instr.lookup t x' k' n).run P w=.ok (if n then .tuple #[c,.bool q]else c) w:=by
    have T:(zeroValue et).run P w=.ok z' w:=aaC
    unfold xp at g
    split at g
    .cases g;cases hx;refine⟨[],tn.nil,λr D c q F=>?_⟩;simp only[Instr.lookup,Ψ,kn hu,Ξ,Ω,W,D];cases r with
     |none=>cases F;simp[T]
     |some p=>cases F;simp
    .rename_i b
     split at g
     .rename_i aa clock X;cases g;cases hx with
      |map _ r0 sz Y=>
       obtain⟨es',h1,H,h3⟩:=s.map X Y;refine⟨es',⟨H,h3⟩,λr D c q F=>?_⟩;simp only[Instr.lookup,Ψ,kn hu,Ξ,Ω,dQ h1,W,D];cases r with
       |none=>cases F;simp[T]
       |some p=>cases F;simp
     .cases g
    .cases g
   obtain⟨es',M,e2⟩:=key;cases hc:kT d k es 0 with
   |none=>rw[hc]at h;cases h
   |some r=>
    rw[hc]at h;obtain⟨r',S,G⟩:=nz (P:=P) (w:=w) hd hf hk M.1 M.2 hc;cases r with
    |none=>
     cases r' with
     |some _=>exact G.elim
     |none=>
      have:=e2 ν S z' φ rfl;cases n with
      |false=>cases h;exact bH.still s this N
      |true=>cases h;exact bH.still s this (VR.tuple' (fp.two N (.bool φ)))
    |some p=>
     obtain⟨j,u⟩:=p;cases r' with
     |none=>exact G.elim
     |some p'=>
      obtain⟨j',c⟩:=p';obtain⟨_,L,_⟩:=G;have:=e2 _ S c θ rfl;cases n with
      |false=>cases h;exact bH.still s this L
      |true=>cases h;exact bH.still s this (VR.tuple' (fp.two L (.bool θ)))
 .cases h
def br.zj {b:Nat}(j:WR ρ Z w)(n:Z.m.g b=Φ (.map es clock))(l:ρ b=Φ (r,sz))(p:tn ρ es2 es2'):
 br ρ Z w ρ (Z.set b (.map es2 clock2)) {w with heap:=w.heap.setIfInBounds r (.map es2'.toArray clock2)}:=by
 obtain⟨es',s,_⟩:=j.map n l;have c:=(IH.1 s).1;exact br.set j n l (by simp[c]) (.map es2 clock2 es2' p.1 p.2 sz) (λk q=>by simp[Xj (ny q)]) V rfl rfl
def fQ {es:Array MapEntry}(h:w.heap[r]?=Φ (.map es clock)):(setObj r o).run P w=.ok () {w with heap:=w.heap.setIfInBounds r o}:=by
 simp only[setObj,Sem.run,h]
def br.Nt {b:Nat}{l2:δ fh}(j:WR ρ Z w)(p:Z.m.g b=Φ (.lmap es))(l:ρ b=Φ (r,sz))(s:l2.Perm es2)(hi:∀e∈es2,∃n:Int,e.1=.int .i64 n)(u:(es2.map (·.1)).Nodup)
 (q:Go.MapKept.Stamped es2'.toArray clock2) (C:l2.length=es2'.length) (h:∀(i:Nat) (e:fh) (e':MapEntry),l2[i]?=Φ e->es2'[i]?=Φ e'->VR ρ e.1 e'.key/\VR ρ e.2.1 e'.val):
 br ρ Z w ρ (Z.set b (.lmap es2)) {w with heap:=w.heap.setIfInBounds r (.map es2'.toArray clock2)}:=by
 obtain⟨_,_,es',F,_⟩:=j.lmap p l;have c:=(IH.1 F).1;exact br.set j p l (by simp[c]) (.lmap es2 l2 clock2 es2' s hi u q C h sz) (λk D=>by simp[Xj (ny D)]) V rfl rfl
def xe {n:Int}{v':Value}(h:VR ρ (.int .i64 n) v'):v'=.int .i64 n:=by cases h;rfl
def DY {b:Nat}(h:Bi d b es k y Z=.ok v Z')(hw:WR ρ Z w)(wz:Z.m.g b=Φ (.lmap es))(vq:ρ b=Φ (r0,sz))(hk:VR ρ k k')(D:VR ρ y y')
 (hu:P.underlying t=Φ (.map kt et)) (hd:gO P f kt=Φ d) (hf:f<10000) (xm:∀e,(Instr.checkKey e 10000 kt k').run P w=.ok () w):v=.undef/\∃(es2':δ MapEntry) (clock2:Nat),(Instr.mapUpdate t (.map (Φ r0)) k' y').run P w=.ok () {w with heap:=w.heap.setIfInBounds r0 (.map es2'.toArray clock2)}/\br ρ Z w ρ Z' {w with heap:=w.heap.setIfInBounds r0 (.map es2'.toArray clock2)}:=by
 obtain⟨l,clock,es',h1,Q,h3,h4,h5,h6,W⟩:=hw.lmap wz vq;obtain⟨s1,s2,s3⟩:=h5;unfold Bi at h
 split at h
 .rename_i a ha;unfold LV at ha
  split at ha
  .cases ha;obtain⟨r',f1,f2⟩:=zW (P:=P) (w:=w) hd hf hk (λe s=>h3 e (Q.mem_iff.1 s)) h6 W;have wB:=xe hk;subst wB;cases hg:yq a es with
   |none=>
    rw[hg]at h;cases h;cases r' with
    |some p=>
     obtain⟨j,u'⟩:=p;obtain⟨Y,e',g1,I,X,g4⟩:=f2;exact absurd X (vn hg Y (Q.mem_iff.1 (Do g1)))
    |none=>
     have oT:∀e'∈es',e'.key≠ .int .i64 a:=by
      intro e' QA hh;obtain⟨i,hi,rfl⟩:=Di QA;have G:i<l.length:=J
      have S:=(W i l[i] _ (li G) (li hi)).1;obtain⟨n,T⟩:=h3 _ (Q.mem_iff.1 (mp G));rw[T,hh]at S;cases S;exact f2 _ (mp G) T
     refine⟨rfl,es'++[{key:=Value.int IntKind.i64 a,val:=y',born:=clock}],clock+1,?_,?_⟩
     .simp only[Instr.mapUpdate,Ψ,kn hu,Ξ,dQ h1,xm,f1,fQ h1];simp
     refine br.Nt (es2:=es++[(K.int IntKind.i64 a,y,0)]) (l2:=l++[(K.int IntKind.i64 a,y,0)]) (clock2:=clock+1) (es2':=es'++[{key:=Value.int IntKind.i64 a,val:=y',born:=clock}]) hw wz vq (Q.append_right _) ?_ ?_ ⟨?_,?_,?_⟩ (by simp[h6]) ?_
     .intro e s;rcases lh.1 s with s|s
      .exact h3 e s
      .rw[If.1 s];exact⟨a,rfl⟩
     .rw[wd,zy];refine⟨h4,V,?_⟩;intro x c y D H;obtain⟨e,s,rfl⟩:=lm.1 c;simp at D;subst D;exact vn hg e s H
     .intro x c;rw[lh]at c;rcases c with c|c
      .have:=s1 x c;omega
      .rw[If.1 c];exact ã _
     .rw[wd,zy];refine⟨s2,V,?_⟩;intro x c y D H;obtain⟨e,s,rfl⟩:=lm.1 c;simp at D;subst D;have:=s1 e s;omega
     .rw[wd,zy];refine⟨s3,V,?_⟩;intro x c y D H;obtain⟨e,s,rfl⟩:=lm.1 c;simp at D;subst D;exact oT e s H
     .intro i e e' a1 C;rcases wl i l.length with G|tE
      .rw[Å G]at a1;rw[Å J]at C;exact W i e e' a1 C
      .rw[é tE]at a1;rw[é J,<-h6]at C;generalize i-l.length=q at a1 C;cases q with
       |zero=>simp at a1 C;subst a1;subst C;exact⟨hk,D⟩
       |succ q=>simp at a1
   |some u=>
    rw[hg]at h;cases h;obtain⟨e,s,Mn,NS⟩:=zk hg;cases r' with
    |none=>exact absurd Mn (f2 e (Q.mem_iff.2 s))
    |some p=>
     obtain⟨j,u'⟩:=p;obtain⟨Y,e',g1,I,X,g4⟩:=f2
     have Dn:e'.key=.int .i64 a:=by
      have S:=(W j _ _ g1 I).1;rw[X]at S;exact xe S
     have Qw:∀(l:δ fh),(sU a y l).map (·.1)=l.map (·.1):=by
      intro l;rw[qg,Xf];apply List.map_congr_left;intro x _;show(if Gf a x.1=θ then (x.1,y,x.2.2)else x).1=x.1
      split<;>rfl
     have Tc:((es'.modify j λe=>{e with key:=.int .i64 a,val:=y'}).map (·.key))=es'.map (·.key):=by
      apply aNF;intro i;rw[ul,ul,List.getElem?_modify]
      by_cases L:j=i
      .subst L;rw[I];simp[Dn]
      .simp[L]
     have Tr:((es'.modify j λe=>{e with key:=.int .i64 a,val:=y'}).map (·.born))=es'.map (·.born):=by
      apply aNF;intro i;rw[ul,ul,List.getElem?_modify]
      by_cases L:j=i
      .subst L;rw[I];simp
      .simp[L]
     refine⟨rfl,es'.modify j λe=>{e with key:=.int .i64 a,val:=y'},clock,?_,?_⟩
     .have aa:Instr.sameBits 10000 (.int .i64 a) (.int .i64 a)=θ:=by simp[Instr.sameBits]
      simp only[Instr.mapUpdate,Ψ,kn hu,Ξ,dQ h1,xm,f1,Instr.keyThatStays,Rh,I,AR,Jd,Dn,aa,ix,Ω,fQ h1];simp
     refine br.Nt (l2:=sU a y l) (clock2:=clock) (es2':=es'.modify j λe=>{e with key:=.int .i64 a,val:=y'}) hw wz vq (by rw[qg,qg];exact Q.map _) ?_ (by rw[Qw];exact h4) ⟨?_,?_,?_⟩ (by rw[qg];simp[h6]) ?_
     .intro x c;rw[qg,lm]at c;obtain⟨N,F,rfl⟩:=c;obtain⟨n,T⟩:=h3 N F
      split
      .exact⟨n,T⟩
      .exact⟨n,T⟩
     .intro x c;have:x.born∈(es'.modify j λe=>{e with key:=.int .i64 a,val:=y'}).map (·.born):=Ey c;rw[Tr,lm]at this;obtain⟨N,F,e0⟩:=this;rw[<-e0];exact s1 N F
     .show((es'.modify j λe=>{e with key:=.int .i64 a,val:=y'}).map (·.born)).Nodup;rw[Tr];exact s2
     .show((es'.modify j λe=>{e with key:=.int .i64 a,val:=y'}).map (·.key)).Nodup;rw[Tc];exact s3
     .intro i x x' a1 C;rw[qg,ul]at a1;rw[List.getElem?_modify]at C
      by_cases L:j=i
      .subst L;rw[g1]at a1;rw[I]at C;simp at a1 C;subst C;rw[gq (qQ.2 X)]at a1;subst a1;exact⟨by rw[X];exact hk,D⟩
      .cases M:l[i]? with
       |none=>rw[M]at a1;simp at a1
       |some N=>
        rw[M]at a1;have Yd:es'[i]?=Φ x':=by simpa[L]using C
        obtain⟨b1,b2⟩:=W i N x' M Yd
        have jg:¬Gf a N.1=θ:=by
         intro hh;have F:=qQ.1 hh;rw[F]at b1;have Tf:=xe b1;have Xp:=(qo.1 I).1;have SS:=(qo.1 Yd).1;have lp:=aNB.1 s3
         have Y:(es'.map (·.key))[j]'(by simpa using Xp)=.int .i64 a:=by
          have:=(qo.1 I).2;rw[S7,this,Dn]
         have e2:(es'.map (·.key))[i]'(by simpa using SS)=.int .i64 a:=by
          have:=(qo.1 Yd).2;rw[S7,this,Tf]
         rcases wl j i with BT|BT
         .exact lp j i (by simpa using Xp) (by simpa using SS) BT (by exact Y.trans e2.symm)
         .exact lp i j (by simpa using SS) (by simpa using Xp) J (by exact e2.trans Y.symm)
        simp only[AR,S2]at a1;rw[B jg]at a1;subst a1;exact⟨b1,b2⟩
  .cases ha
 .cases h
def Il {b:Nat}(h:Bi d b es k y Z=.ok v Z')(p:WR ρ Z w)(j:Z.m.g b=Φ (.lmap es))(l:ρ b=Φ (r0,sz))(s:VR ρ k k')(n:VR ρ y y')
 (q:P.underlying t=Φ (.map kt et)) (C:gO P f kt=Φ d) (u:f<10000) (c:∀e,(Instr.checkKey e 10000 kt k').run P w=.ok () w):ES P (Instr.mapUpdate t (.map (Φ r0)) k' y') ρ Z w v Z':=by
 obtain⟨G,es2,clock2,F,D⟩:=DY h p j l s n q C u c;exact⟨_,ρ,F,G,D⟩
def rL (h:fe d x k y Z=.ok v Z')(n:WR ρ Z w)(N:VR ρ x x')(c:VR ρ k k')(D:VR ρ y y')
 (F:P.underlying t=Φ (.map kt et)) (H:gO P f kt=Φ d) (G:f<10000) (X:jl m d=θ):ES P (Instr.mapUpdate t x' k' y') ρ Z w v Z':=by
 unfold fe at h;rw[aS]at h
 split at h
 .rename_i I6;have C:=λe=>oz (w:=w) I6 H G X c e
  split at h
  .rename_i b
   split at h
   .rename_i es g;cases N with
    |map _ r0 sz l=>exact Il h n g l c D F H G C
   .rename_i es clock g;cases N with
    |map _ r0 sz l=>
     obtain⟨es',s,I,q⟩:=n.map g l;cases hc:kT d k es 0 with
     |none=>rw[hc]at h;cases h
     |some r=>
      rw[hc]at h;obtain⟨r',S,M⟩:=nz (P:=P) (w:=w) H G c I q hc;cases r with
      |none=>
       cases r' with
       |some _=>exact M.elim
       |none=>
        dsimp only at h;rw[dR]at h;cases h;refine⟨_,ρ,?_,rfl,br.zj (clock2:=clock+1) n g l (tn.app ⟨I,q⟩ (tn.cons (e:=(k,y,clock)) (e':={key:=k',val:=y',born:=clock}) ⟨c,D,rfl⟩ tn.nil))⟩;simp only[Instr.mapUpdate,Ψ,kn F,Ξ,dQ s,C,S,fQ s];simp
      |some p=>
       obtain⟨j,u⟩:=p;cases r' with
       |none=>exact M.elim
       |some W=>
        obtain⟨j',u'⟩:=W;obtain⟨rfl,g2,e,e',Q,L,g5,g6⟩:=M;dsimp only at h;rw[Js,Q]at h;obtain⟨k0,u0,born⟩:=e;dsimp only at h;rw[aS]at h
        split at h
        .rename_i hs;cases h;obtain⟨a1,a2,Y⟩:=q j _ _ Q L;obtain⟨s1,s2⟩:=zN hs a1 c
         refine⟨_,ρ,?_,rfl,br.zj (clock2:=clock) n g l (tn.mod (e:=(k,y,born)) (f:=λe=>{e with key:=k',val:=y'}) j ⟨I,q⟩ (λe2 T=>by
          rw[L]at T;cases T;exact⟨c,D,Y⟩))⟩
         simp only[Instr.mapUpdate,Ψ,kn F,Ξ,dQ s,C,S,Instr.keyThatStays,Rh,L,AR,Jd,s2,ix,Ω,fQ s];simp
        .cases h
   .cases h
  .cases h
 .cases h
def Ap (h:gp d z x k Z=.ok v Z')(s:WR ρ Z w)(hx:VR ρ x x')(c:VR ρ k k')
 (L:P.underlying t=Φ (.map kt et)) (N:gO P f kt=Φ d) (M:f<10000) (hm:jl m d=θ) (hi:P.info? et=Φ i) (hz:i.zero=Φ z') (I:VR ρ z z'):bH P (Instr.mapEntry t x' k') ρ Z w v Z':=by
 have U6:(zeroValue et).run P w=.ok z' w:=aaC
 unfold gp at h;rw[aS]at h
 split at h
 .rename_i I6;have H:=λe=>oz (w:=w) I6 N M hm c e
  split at h
  .rename_i b
   split at h
   .rename_i es clock n;cases hx with
    |map _ r0 sz q=>
     obtain⟨es',l,C,g⟩:=s.map n q;cases hc:kT d k es 0 with
     |none=>rw[hc]at h;cases h
     |some r=>
      rw[hc]at h;obtain⟨r',T,F⟩:=nz (P:=P) (w:=w) N M c C g hc;cases r with
      |none=>
       cases r' with
       |some _=>exact F.elim
       |none=>
        dsimp only at h;rw[dR]at h;cases h;refine⟨.tuple #[z',goInt clock],_,ρ,?_,VR.tuple' (fp.two I (.int .i64 _)),br.zj (clock2:=clock+1) s n q (tn.app ⟨C,g⟩ (tn.cons (e:=(k,z,clock)) (e':={key:=k',val:=z',born:=clock}) ⟨c,I,rfl⟩ tn.nil))⟩;simp only[Instr.mapEntry,Ψ,kn L,Ξ,dQ l,H,T,U6,fQ l,Ω];simp
      |some p=>
       obtain⟨j,u⟩:=p;cases r' with
       |none=>exact F.elim
       |some p'=>
        obtain⟨j',Y⟩:=p';obtain⟨rfl,S,e,e',Q,D,g5,g6⟩:=F;dsimp only at h;rw[Js,Q]at h;obtain⟨k0,u0,born⟩:=e;dsimp only at h;rw[aS]at h
        split at h
        .rename_i hs;cases h;obtain⟨a1,a2,W⟩:=g j _ _ Q D;obtain⟨s1,s2⟩:=zN hs a1 c;have G:born=e'.born:=W
         refine⟨.tuple #[Y,goInt e'.born],_,ρ,?_,VR.tuple' (fp.two S (by rw[G];exact .int .i64 _)),br.zj (clock2:=clock) s n q (tn.mod (e:=(k,u,born)) (f:=λe=>{e with key:=k'}) j ⟨C,g⟩ (λe2 X=>by
          rw[D]at X;cases X;exact⟨c,by rw[g6];exact S,W⟩))⟩
         simp only[Instr.mapEntry,Ψ,kn L,Ξ,dQ l,H,T,Instr.keyThatStays,Rh,D,AR,Jd,s2,ix,Ω,fQ l];simp
        .cases h
   .cases h
  .cases h
 .cases h
def GI {b:Nat}:∀{es:δ fh} {es':δ MapEntry} {j i:Nat} {e:fh},tn ρ es es'->uO b es j=Φ (i,e)->
 j<=i/\es[i-j]?=Φ e/\es'.findIdx? (λe=>(e.born:Int)==(b:Int))=Φ (i-j):=by
 intro es
 induction es with
 |nil=>intro es' j i e _ h;cases h
 |cons x es n=>
  intro es' j i e h c;obtain⟨x',C,rfl,l,p⟩:=h.inv;have q:uO b (x::es) j=bF (Nat.beq x.2.2 b) (Φ (j,x)) (uO b es (j+1)):=rfl;simp only[q,aS,md]at c
  split at c
  .rename_i g;cases c;refine⟨hI _,V,?_⟩;rw[List.findIdx?_cons];have:((x'.born:Int)==(b:Int))=θ:=by rw[beq_iff_eq,<-l.2.2,g]
   simp[this]
  .rename_i g;obtain⟨D,u,s⟩:=n p c;refine⟨J,by rw[show i-j=(i-(j+1))+1 from J];simpa using u,?_⟩;rw[List.findIdx?_cons]
   have:((x'.born:Int)==(b:Int))=φ:=by
    rw[beq_eq_false_iff_ne,<-l.2.2];exact λe=>g (by exact_mod_cast e)
   simp only[this,pi,ii,s,AR]
   congr 1;omega
def ya {s:K}{s':Value}(h:eA x s y Z=.ok v Z')(n:WR ρ Z w)(G:VR ρ x x')(H:VR ρ s s')(F:VR ρ y y'):ES P (Instr.entryStore t x' s' y') ρ Z w v Z':=by
 unfold eA at h
 split at h
 .rename_i b k born
  split at h
  .rename_i es clock g;cases H;cases G with
   |map _ r0 sz l=>
    obtain⟨es',q,p,c⟩:=n.map g l
    split at h
    .rename_i j D N bn hb;cases h;obtain⟨T,C,u⟩:=GI (ρ:=ρ) (es':=es') ⟨p,c⟩ hb;rw[Nat.sub_zero]at C u
     refine⟨_,ρ,?_,rfl,br.zj (clock2:=clock) n g l (tn.mod (e:=(D,y,bn)) (f:=λe=>{e with val:=y'}) j ⟨p,c⟩ (λQ M=>by
      obtain⟨L,S,I⟩:=c j _ _ C M;exact⟨L,F,I⟩))⟩
     simp only[Instr.entryStore,Ψ,dQ q,Ξ,asInt,asIntOf,Ω]
     have:es'.toArray.findIdx? (λe=>(e.born:Int)==Int.ofNat born)=Φ j:=by
      rw[<-u];simp
     rw[this];simp only[fQ q];simp
    .cases h
  .cases h
 .cases h
def Rt {w:World}(h:w.heap[r]?=Φ o):({w with heap:=w.heap.setIfInBounds r o}:World)=w:=by
 have:w.heap.setIfInBounds r o=w.heap:=by
  apply Array.ext_getElem?;intro i
  by_cases e:r=i
  .subst e;have:=(IH.1 h).1;rw[h];simp[this]
  .rw[Xj e]
 rw[this]
def Db {ty:TypeId}{ats:Array TypeId}(q:ats[0]?=Φ t)(h:qM d x k Z=.ok v Z')(l:WR ρ Z w)(G:VR ρ x x')(H:VR ρ k k')
 (s:P.underlying t=Φ (.map kt et)) (L:gO P f kt=Φ d) (I:f<10000) (T:jl m d=θ):bH P (Builtin.delete_ ats ty #[x',k']) ρ Z w v Z':=by
 have c:VR ρ .undef (.tuple #[]):=.undef;unfold qM at h;rw[aS]at h
 split at h
 .rename_i W;have n:=λe=>oz (w:=w) W L I T H e
  split at h
  .cases h;cases G;exact bH.still l (by simp[Builtin.delete_,q,kn s,n]) c
  .rename_i b
   split at h
   .rename_i es clock D;cases G with
    |map _ r0 sz F=>
     obtain⟨es',g,N,M⟩:=l.map D F;cases hc:kT d k es 0 with
     |none=>rw[hc]at h;cases h
     |some r=>
      rw[hc]at h;obtain⟨r',Q,C⟩:=nz (P:=P) (w:=w) L I H N M hc;cases r with
      |none=>
       cases r' with
       |some _=>exact C.elim
       |none=>
        cases h;refine bH.still l ?_ c;simp only[Builtin.delete_,q,Rh,io,kc,Ψ,kn s,Ξ,dQ g,n,Q,fQ g,Ω];rw[Rt g]
      |some p=>
       obtain⟨j,u⟩:=p;cases r' with
       |none=>exact C.elim
       |some S=>
        obtain⟨Y,X⟩:=S;obtain⟨rfl,g2,e,e',g3,g4,g5,g6⟩:=C;cases h;refine⟨.tuple #[],_,ρ,?_,.undef,br.zj (clock2:=clock) l D F (tn.del j ⟨N,M⟩)⟩;simp only[Builtin.delete_,q,Rh,io,kc,Ψ,kn s,Ξ,dQ g,n,Q,fQ g,Ω]
        congr 3
        congr 1
        apply Array.ext';simp
   .cases h
  .cases h
 .cases h
def FK {r:Option K}{r':Option Value}(h:mF r Z=.ok v Z')(j:WR ρ Z w)(b:U0 ρ r r')(l:P.underlying t=some (.map kt et)):bH P (Instr.makeMap t r') ρ Z w v Z':=by
 have key:∀n,OR.ok (.map Z.nx) ⟨Z.m.put Z.nx (some (.map [] 0)),(Z.nx+1)⟩=OR.ok v Z'->n=w.heap.size->(Instr.makeMap t r').run P w=.ok (.map (some w.heap.size)) {w with heap:=w.heap.push (.map #[] 0)}->bH P (Instr.makeMap t r') ρ Z w v Z':=by
  intro n h _ g;cases h;have c:=br.new j (BR.map (ρ:=ρ.set Z.nx (w.heap.size,0)) [] 0 [] rfl (λi e e' h=>Vu) 0);exact⟨_,_,_,g,.map _ _ _ c.2,c.1⟩
 unfold mF at h
 split at h
 .rw[dR]at h;cases r' with
  |some _=>exact b.elim
  |none=>exact key _ h rfl (by simp[Instr.makeMap])
 .rw[dR]at h;cases r' with
  |none=>exact b.elim
  |some x'=>
   have p:VR ρ _ x':=b;cases p;exact key _ h rfl (by simp[Instr.makeMap,kn l,asInt,asIntOf])
 .cases h
end
end
section
variable {parts':Array (Nat×Value)}{β γ:Type}{t:TypeId}{i:TypeInfo}{z:δ K}{z':Value}{e:TypeId}
abbrev wa:=Nat×Nat×K
def gY (a:δ wa):δ K->υ (δ K):=
 List.rec (motive:=λ_=>δ K->υ (δ K)) (λs=>Φ s)
  (λp _ b s=>bF (Nat.beq p.2.2.bY.length p.2.1&& !p.2.2.isAny) (Option.rec ν (λs'=>b s') (eB s p.1 p.2.2.bY)) ν) a
def P5 (off:Nat):∀(l:δ Value) (k:Nat) (cells:Array Value),off+k+l.length<=cells.size->
 ((l.zipIdx k).foldl (λcs (p:Value×Nat)=>cs.setIfInBounds (off+p.2) p.1) cells).toList=cells.toList.take (off+k)++l++cells.toList.drop (off+k+l.length):=by
 intro l
 induction l with
 |nil=>intro k cells _;simp
 |cons v l a=>
  intro k cells h;rw[List.zipIdx_cons,List.foldl_cons,a (k+1) _ (by simp at h⊢;omega)];have e:=list_seg_step cells.toList (off+k) v l (by simp at h⊢;omega);simp only[Array.toList_setIfInBounds];rw[<-ç,e];simp
section
variable {P:Program} {ρ:Ren} {Z Z':O} {w:World} {v:K}
inductive tk (ρ:Ren)(place:Nat->Option (Nat×Nat)):List wa->List (Nat×Value)->Prop where
 |nil:tk ρ place [] []
 |cons (i off size:Nat) (x:K) (x':Value) (l:List wa) (l':List (Nat×Value)) (hp:place i=some (off,size)) (hx:VR ρ x x') (t:tk ρ place l l'):
  tk ρ place ((off,size,x)::l) ((i,x')::l')
def tb {a:Nat->υ (Nat×Nat)}{b:δ wa}{parts':δ (Nat×Value)}(h:tk ρ a b parts'):∀{s s':δ K} {cells:Array Value},gY b s=Φ s'->fp ρ s cells.toList->
 ∃j,Instr.fill a cells parts'=Φ j/\fp ρ s' j.toList:=by
 induction h with
 |nil=>intro s s' cells h f;cases h;exact⟨cells,rfl,f⟩
 |cons i off size x x' l l' hp hx t q=>
  intro s s' cells h f;have C:gY ((off,size,x)::l) s=bF (Nat.beq x.bY.length size&& !x.isAny) (Option.rec ν (λs'=>gY l s') (eB s off x.bY)) ν:=rfl;simp only[C,aS,mZ,md,å]at h
  split at h
  .rename_i hsz0;obtain⟨g,k⟩:=hsz0;cases hw:eB s off x.bY with
   |none=>rw[hw]at h;cases h
   |some s2=>
    rw[hw]at h;obtain⟨F,o⟩:=zU hw;have d:=hx.bY k;have c:x'.cells.size=size:=by have:=d.len;rw[g]at this;simpa using this.symm
    have G:cells.size=s.length:=by have:=f.len;simpa using this.symm
    have D:off+x'.cells.size<=cells.size:=J
    let n:=x'.cells.zipIdx.foldl (λcs (p:Value×Nat)=>cs.setIfInBounds (off+p.2) p.1) cells
    have m:n.toList=cells.toList.take off++(x'.cells.toList++cells.toList.drop (off+x'.cells.size)):=by
     have:=P5 off x'.cells.toList 0 cells (by simpa using D);show(Array.foldl _ cells x'.cells.zipIdx).toList=_;rw[<-Array.foldl_toList,Array.toList_zipIdx,this];simp
    obtain⟨j,u,r⟩:=q (cells:=n) h (by
     rw[o,m];have y:x.bY.length=x'.cells.size:=by rw[g,c]
     rw[y];exact(f.take off).app (d.app (f.drop _)))
    refine⟨j,?_,r⟩;simp only[Instr.fill,hp];rw[B (by simp[c];omega)];exact u
  .cases h
def aR (z:δ K)(a:δ wa)(Z:O):OR:=Option.rec .bad (λs=>.ok (.agg s) Z) (gY a z)
def bB (e len:Nat)(z:δ K)(a:δ wa)(Z:O):OR:=
 Option.rec .bad (λs=>.ok (.slice Z.nx 0 len len 0) ⟨Z.m.put Z.nx (Φ (.cells s e φ)),Z.nx+1⟩) (gY a z)
def C2 (l:δ β)(f:β->Sem γ)(g:β->γ)(h:∀x∈l,(f x).run P w=.ok (g x) w):(l.mapM f).run P w=.ok (l.map g) w:=by
 induction l with
 |nil=>simp
 |cons a l b=>simp[List.mapM_cons,h a V,b (λx hx=>h x Hs)]
def A8 (l:Array β)(f:β->Sem γ)(g:β->γ)(h:∀x∈l.toList,(f x).run P w=.ok (g x) w):(l.mapM f).run P w=.ok (l.map g) w:=by
 rw[Array.mapM_eq_mapM_toList,Sem.run_map,C2 l.toList f g h];simp only[Ξ]
 congr 1
 apply Array.ext';simp
def FE (P:Program)(a:Array Field)(i:Nat):υ (Nat×Nat):=(a[i]?).map λf=>(f.offset,P.cellsOf f.type)
def oP (size:Nat)(i:Nat):υ (Nat×Nat):=Φ (i*size,size)
def Dc {fs:Array Field}{a:δ wa}(h:aR z a Z=.ok v Z')(l:WR ρ Z w)(m:P.underlying t=Φ (.struct fs))(hi:P.info? t=Φ i)
 (k:i.zero=Φ z') (d:∀ρ,fp ρ z z'.cells.toList) (n:tk ρ (FE P fs) a parts'.toList) (c:∀f∈fs.toList,∃j,P.info? f.type=Φ j):bH P (Instr.build t parts') ρ Z w v Z':=by
 unfold aR at h;cases b:gY a z with
 |none=>rw[b]at h;cases h
 |some s=>
  rw[b]at h;dsimp only at h;cases h;obtain⟨g,r,q⟩:=tb n b (d ρ);refine bH.still l (v':=.agg g) ?_ (by have:=VR.GN q;simpa using this)
  have o:=A8 (P:=P) (w:=w) fs (λf=>do pure (f.offset,<-Go.sizeOf f.type)) (λf=>(f.offset,P.cellsOf f.type)) (λf b=>by
   obtain⟨j,p⟩:=c f b;simp[Go.sizeOf,typeInfo,p,Program.cellsOf])
  have u:(λi=>(fs.map λf=>(f.offset,P.cellsOf f.type))[i]?)=FE P fs:=by
   funext i;simp[FE]
  simp only[Instr.build,zeroValue,typeInfo,Ψ,run_program,Ξ,hi,k,Ω,kn m];rw[o];simp only[Ξ];rw[u,r]
  rfl
def FU {n:Nat}{j:TypeInfo}{a:δ wa}(h:aR z a Z=.ok v Z')(f:WR ρ Z w)(g:P.underlying t=Φ (.array n e))(hi:P.info? t=Φ i)
 (d:i.zero=Φ z') (b:∀ρ,fp ρ z z'.cells.toList) (l:P.info? e=Φ j) (k:tk ρ (oP j.size) a parts'.toList):bH P (Instr.build t parts') ρ Z w v Z':=by
 unfold aR at h;cases hf:gY a z with
 |none=>rw[hf]at h;cases h
 |some s=>
  rw[hf]at h;dsimp only at h;cases h;obtain⟨c,o,m⟩:=tb k hf (b ρ);refine bH.still f (v':=.agg c) ?_ (by have:=VR.GN m;simpa using this);have p:(λi=>Φ (i*j.size,j.size))=oP j.size:=rfl;simp only[Instr.build,zeroValue,Go.sizeOf,typeInfo,Ψ,run_program,Ξ,hi,l,d,Ω,kn g];rw[p,o]
  rfl
def yc {len:Nat}{a:List wa}(h:bB e len (cr len z) a Z=.ok v Z')(x:WR ρ Z w)(y:P.underlying t=some (.slice e))(hi:P.info? e=some i)
 (u:i.zero=some z') (d:z'.cells.size=i.size) (p:∀ρ,fp ρ z z'.cells.toList) (C:tk ρ (oP i.size) a parts'.toList) (n:len*i.size<=16777216):bH P (Instr.buildSlice t len parts') ρ Z w v Z':=by
 unfold bB at h;cases hf:gY a (cr len z)with
 |none=>rw[hf]at h;cases h
 |some s=>
  rw[hf]at h;dsimp only at h;cases h
  have r:(List.replicate len z'.cells.toList).flatten=((Array.range (len*i.size)).map (z'.cells[·%z'.cells.size]!)).toList:=by
   rw[<-d,ì,aNU];exact(rI z'.cells len).symm
  have c:fp ρ (cr len z) ((Array.range (len*i.size)).map (z'.cells[·%z'.cells.size]!)).toList:=by
   rw[<-r];exact(p ρ).flatten len
  obtain⟨q,m,G⟩:=tb C hf c;obtain⟨b,g,F,o⟩:=br.newRow (P:=P) (t:=e) (s:=s) (l:=q.toList) x (λb f=>G.mono f) false;rw[Ä]at g o;refine⟨.slice (some ⟨w.heap.size,0,none⟩) len len,_,b,?_,.slice _ _ _ _ _ _ F,o⟩;have I:(λk=>some (k*i.size,i.size))=oP i.size:=rfl;have D:¬(len*i.size>2^24):=by show¬(len*i.size>16777216);omega
  simp only[Instr.buildSlice,Sem.run_bind,kn y,Result.andThen_ok,Go.sizeOf,typeInfo,run_program,hi,Sem.run_pure,B D]
  by_cases j:len*i.size=0
  .have H:((Array.range (len*i.size)).map (z'.cells[·%z'.cells.size]!))=((Array.range (len*i.size)).map ((#[]:Array Value)[·%(#[]:Array Value).size]!)):=by
    rw[j,Array.range_zero'];simp
   rw[H]at m;rw[gq j]
   show Sem.run P (do
    let some cells:=Instr.fill (oP i.size) ((Array.range (len*i.size)).map ((#[]:Array Value)[·%(#[]:Array Value).size]!)) parts'.toList|stuck "buildSlice: a part of the wrong size"
    pure (Value.slice (some (<-newRow e cells)) len len)) w=_
   rw[m];simp only[Sem.run_bind,g,Result.andThen_ok,Sem.run_pure]
  .rw[B j];simp only[zeroValue,typeInfo,Sem.run_bind,run_program,Result.andThen_ok,hi,u,Sem.run_pure];rw[I,m];simp only[Sem.run_bind,g,Result.andThen_ok,Sem.run_pure]
def oi (a:Fn)(f c:δ K)(Z:O):OR:=.ok (.func a f c) Z
def Ir {a:Fn}{f c:δ K}{b d:Array Value}(h:oi a f c Z=.ok v Z')(k:WR ρ Z w)(g:fp ρ f b.toList)(j:fp ρ c d.toList):bH P (Instr.makeFunc a b d) ρ Z w v Z':=by
 cases h;refine bH.still k rfl ?_;have:=VR.func (ρ:=ρ) a f c b.toList d.toList g.len j.len g.at' j.at'
 simpa using this
end
end
