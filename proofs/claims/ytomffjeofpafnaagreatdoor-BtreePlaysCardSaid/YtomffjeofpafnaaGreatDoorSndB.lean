import Derived.Test.YtomffjeofpafnaaGreatDoorSndA
import Derived.Maps.RangeRun
import Derived.Laws.IdiomRangeMap
namespace Lim
open Go
noncomputable section
open Go.ChangeMaps (setBlock)
def qg (es:List eE):Prop:=∀e∈es,∃n:Int,e.1= .int .i64 n
theorem fU (es:List eE):gC es=es.map fun e=>(e.1,e.2.1,0):=rfl
theorem ie.ints {es:List eE}(h:ie es):qg es:=fun e he=>by obtain⟨a,h1,_⟩:=h.1 e he;exact⟨a,h1⟩
theorem ie.nodup {es:List eE}(h:ie es):(es.map (·.1)).Nodup:=by
 have hn:=h.2.1;unfold iy at hn;unfold List.Nodup at hn⊢;rw[aCG]at hn⊢;exact hn.imp fun vj e=>vj (by rw[e])
theorem tK {es:List eE}(h:qg es):qg (gC es):=by
 rw[fU];intro e he;obtain⟨x,hx,rfl⟩:=aBd.1 he;exact h x hx
theorem nQ {es:List eE}(h:(es.map (·.1)).Nodup):((gC es).map (·.1)).Nodup:=by
 rw[fU,aCX];exact h
theorem tV (d s:List eE)(x:eE):x∈jX d s↔x∈gC s\/(x∈gC d/\∀e∈gC s,e.1≠x.1):=by
 unfold jX;rw[aAM,aCs]
 have hs:∀k:CV,(∃y∈s,y.1=k)↔∃y∈gC s,y.1=k:=by
  intro k;rw[fU];constructor
  ·rintro⟨y,h1,h2⟩;exact⟨_,aBd.2 ⟨y,h1,rfl⟩,h2⟩
  ·rintro⟨y,h1,h2⟩;obtain⟨z,hz,rfl⟩:=aBd.1 h1;exact⟨z,hz,h2⟩
 constructor
 ·rintro(⟨h1,h2⟩|h)
  ·refine .inr ⟨h1,fun e he NQ=> ?_⟩;have h2:¬∃y∈s,y.1=x.1:=by simpa using h2
   exact h2 ((hs _).2 ⟨e,he,NQ⟩)
  ·exact .inl h
 ·rintro(h|⟨h1,h2⟩)
  ·exact .inr h
  ·refine .inl ⟨h1, ?_⟩;simp only[aBR];intro hh;obtain⟨y,hy,hyx⟩:=(hs _).1 hh;exact h2 y hy hyx
theorem Ey {d s:List eE}(hd:qg d)(hs:qg s):qg (jX d s):=fun x hx=>by
 rcases(tV d s x).1 hx with h|⟨h,_⟩
 ·exact tK hs x h
 ·exact tK hd x h
theorem vd {d s:List eE}(hd:(d.map (·.1)).Nodup)(hs:(s.map (·.1)).Nodup):((jX d s).map (·.1)).Nodup:=by
 have h1:=nQ hs;have h2:=nQ hd;unfold jX;rw[aBP,aBy];refine⟨h2.sublist (List.filter_sublist.map _),h1, ?_⟩;intro a ha b hb e;subst e;obtain⟨x,hx,rfl⟩:=aBd.1 ha;obtain⟨y,hy,hyx⟩:=aBd.1 hb;have V0:x∈jX d s:=by unfold jX;exact aCt _ hx
 rcases(tV d s x).1 V0 with h|⟨_,h⟩
 ·have h3:=(aCs.1 hx).2;have h3:¬∃y∈s,y.1=x.1:=by simpa using h3
  apply h3;rw[fU]at h;obtain⟨z,hz,e⟩:=aBd.1 h;exact⟨z,hz,by rw[<-e]⟩
 ·exact h y hy hyx
structure Pk (P:Program)(f:Nat)(n:Nat):Prop where
 out:∃(fn:Func) (t kt et:TypeId) (d:Nat) (R0:Array Oper) (R1 R2 R3:Array Oper) (o0 o1 o2 o3 o4 o5 o6 o7 o8 o9 p0 p1 p2 p3:Oper),P.funcs[f]?=some fn/\Lim.gM P f=true/\fn.results= #[]/\16<=fn.ntmps/\
  fn.body=some (Code.seq (.region 0 R0 false) (.block 0 (.loop (.seq (.region 1 R1 false) (.seq (.cond (.tmp 9) .skip (.exit 0)) (.block 1 (.seq (.region 2 R2 false) (.region 3 R3 false))))))))/\
  R0.toList=[o0,o1]/\R1.toList=[o2,o3]/\R2.toList=[o4,o5,o6,o7,o8,o9]/\R3.toList=[p0,p1,p2,p3]/\
  (∀o∈[o0,o1,o2,o3,o4,o5,o6,o7,o8,o9,p0,p1,p2,p3],o.guard=none)/\
  (o0.op= .move (.tmp 1)/\o0.dst=some 6)/\(o1.op= .range t (.tmp 6)/\o1.dst=some 7)/\(o2.op= .next (.tmp 7) false/\o2.dst=some 8)/\(o3.op= .extract (.tmp 8) 0/\o3.dst=some 9)/\
  (o4.op= .entry (.tmp 7)/\o4.dst=some 10)/\(o5.op= .extract (.tmp 10) 0/\o5.dst=some 11)/\(o6.op= .extract (.tmp 10) 1/\o6.dst=some 12)/\(o7.op= .alloc et/\o7.dst=some 5)/\(o8.op= .assign (.tmp 11)/\o8.dst=some 4)/\
  (o9.op= .store et (.tmp 5) (.tmp 12)/\o9.dst=none)/\(p0.op= .move (.tmp 0)/\p0.dst=some 13)/\(p1.op= .move (.tmp 4)/\p1.dst=some 14)/\(p2.op= .load et (.tmp 5)/\p2.dst=some 15)/\(p3.op= .mapUpdate t (.tmp 13) (.tmp 14) (.tmp 15)/\p3.dst=none)/\
  P.underlying t=some (.map kt et)/\fN P d kt=some .int/\d<10000/\gY 40 .int=true/\(∃i z,P.info? et=some i/\i.zero=some z/\i.size=n/\z.cells.size=n)/\(∀w,(isAgg et).run P w= .ok true w)
theorem As {a:Act}{d:Nat}{v:Value}(h:d<a.tmps.size):(a.put (some d) v).eval (.tmp d)=v:=by simp[Act.eval,Act.put,h]
theorem Fx {a:Act}{d k:Nat}{v:Value}(h:d≠k):(a.put (some d) v).eval (.tmp k)=a.eval (.tmp k):=by
 simp only[Act.eval,Act.put];simp[aBH h]
section
variable {P:Program} {ρ:Ren} {st:St} {w:World}
theorem yA {b:Nat}{es:List eE}{r sz:Nat}(hw:WR ρ st w)(he:mU (st.mem.get b) es)(hk:ie es)(hr:ρ b=some (r,sz)):
 ∃(clock:Nat) (es':List MapEntry) (l:List eE),w.heap[r]?=some (.map es'.toArray clock)/\l.Perm es/\(∀(i:Nat) (e:eE) (e':MapEntry),l[i]?=some e->es'[i]?=some e'->VR ρ e.1 e'.key/\VR ρ e.2.1 e'.val)/\
  Go.MapKept.Stamped es'.toArray clock/\qg es/\(es.map (·.1)).Nodup/\l.length=es'.length:=by
 obtain⟨es',clock,pl,h1,h2,h3,h4,h5,h6⟩:=Jr hw he hk hr;refine⟨clock,es',pl,h1,h2,h4,⟨fun x hx=>h5 x (by simpa using hx),by simpa using h6, ?_⟩,hk.ints,hk.nodup,h3⟩;show((es'.toArray.toList).map (·.key)).Nodup;rw[List.toList_toArray];have hn:(pl.map (·.1)).Nodup:=(h2.map (·.1)).nodup_iff.2 hk.nodup;unfold List.Nodup at hn⊢;rw[aCG]at hn⊢;rw[aCT]at hn⊢;intro i j hi hj HL e;refine hn i j (by omega) (by omega) HL ?_;obtain⟨a,ha⟩:=hk.ints pl[i] (h2.mem_iff.1 (aAW (by omega)));obtain⟨b,hb⟩:=hk.ints pl[j] (h2.mem_iff.1 (aAW (by omega)));have v1:=(h4 i pl[i] es'[i] (aAC (by omega)) (aAC hi)).1;have v2:=(h4 j pl[j] es'[j] (aAC (by omega)) (aAC hj)).1;rw[ha]at v1;rw[hb]at v2;have w1:=ub v1;have w2:=ub v2;rw[w1,w2]at e;cases e;rw[ha,hb]
theorem bf.VF {b:Nat}{es:List eE}{r sz:Nat}(hw:WR ρ st w)(he:mU (st.mem.get b) es)(hk:ie es)(hr:ρ b=some (r,sz)):bf ρ st w ρ (st.set b (.lmap (gC es))) w:=by
 obtain⟨clock,es',l,h1,h2,h3,h4,h5,h6,h7⟩:=yA hw he hk hr
 obtain⟨blk,Xu⟩:∃blk,st.mem.get b=some blk:=by
  cases hb:st.mem.get b with
  |some x=>exact⟨x,rfl⟩
  |none=>rw[hb]at he;exact he.elim
 refine bf.set hw Xu hr h1 (.lmap (gC es) (gC l) clock es' (by rw[fU,fU];exact h2.map _) (tK h5) (nQ h6) h4 (by rw[fU];simp[h7]) (fun i e e' g1 g2=> ?_) sz) (fun _ _=>rfl) rfl rfl rfl;rw[fU,aBw]at g1;cases hl:l[i]? with
 |none=>rw[hl]at g1;simp at g1
 |some x=>rw[hl]at g1;simp at g1;subst g1;exact h3 i x e' hl g2
theorem bf.unk {ρ0:Ren}{mu M:St}{w0 w':World}(h:bf ρ0 mu w0 ρ M w)(it:Nat)(hi:w0.heap.size<=it)(hu:∀b blk sz,M.mem.get b=some blk->ρ b≠some (it,sz))(hs:w.heap.size<=w'.heap.size)(hk:∀r,r<w.heap.size->r≠it->w'.heap[r]?=w.heap[r]?)(YV:w'.os=w.os)(Nx:w'.output=w.output):bf ρ0 mu w0 ρ M w' where
 wr:=⟨fun b blk r sz h1 h2=>by
    obtain⟨o,e2,e3⟩:=h.wr.at' b blk r sz h1 h2;exact⟨o,by rw[hk r (aBr.1 e2).1 (fun e=>hu b blk sz h1 (by rw[h2,e]))];exact e2,e3⟩,h.wr.inj,h.wr.fresh⟩
 ext:=h.ext
 Jt:=h.Jt
 next:=h.next
 origin:=h.origin
 kept:=fun r hr hn=>by
  rw[hk r (aAZ hr h.size) (by omega)];exact h.kept r hr hn
 size:=aBS h.size hs
 os:=YV.trans h.os
 output:=Nx.trans h.output
end
section
variable {P:Program} {ops:Array Oper} {Q:Exit->Act->World->Prop}
theorem nR {rest:List Oper}{o:Oper}{a:Act}{w w':World}{v:Value}(hg:o.guard=none)(hr:(execOp a.eval o).run P w= .ok (.value v) w')(h:wpList P ops Q rest (a.put o.dst v) w'):wpList P ops Q (o::rest) a w:=
 wpList_plain hg fun K hK=>by unfold Oper.wp;rw[hr];exact hK _ _ h
theorem SL {rest:List Oper}{o:Oper}{a:Act}{w w':World}(hg:o.guard=none)(hr:(execOp a.eval o).run P w= .ok .skip w')(h:wpList P ops Q rest (a.put o.dst undef) w'):wpList P ops Q (o::rest) a w:=
 wpList_plain hg fun K hK=>by unfold Oper.wp;rw[hr];exact hK _ _ h
end
section
variable {P:Program} {a:Act} {w:World} {o:Oper}
theorem ya {x:Operand}(ho:o.op= .move x):(execOp a.eval o).run P w= .ok (.value (a.eval x)) w:=by unfold execOp;rw[ho];rfl
theorem GW {x:Operand}(ho:o.op= .assign x):(execOp a.eval o).run P w= .ok (.value (a.eval x)) w:=by unfold execOp;rw[ho];rfl
theorem nW {x:Operand}{i:Nat}{vs:Array Value}{v:Value}(ho:o.op= .extract x i)(hx:a.eval x= .tuple vs)(hv:vs[i]?=some v):(execOp a.eval o).run P w= .ok (.value v) w:=by
 unfold execOp;rw[ho];dsimp only;rw[hx];simp[Instr.extract,hv]
theorem DX {x:Operand}{v:Value}{w':World}(ho:o.op= .next x false)(h:(Instr.next (a.eval x) false o.type).run P w= .ok v w'):(execOp a.eval o).run P w= .ok (.value v) w':=by
 unfold execOp;rw[ho];simp[h]
theorem JW {x:Operand}{v:Value}{w':World}(ho:o.op= .entry x)(h:(Instr.entry (a.eval x)).run P w= .ok v w'):(execOp a.eval o).run P w= .ok (.value v) w':=by
 unfold execOp;rw[ho];simp[h]
theorem JU {t:TypeId}{x:Operand}{v:Value}{w':World}(ho:o.op= .range t x)(h:(Instr.range t (a.eval x)).run P w= .ok v w'):(execOp a.eval o).run P w= .ok (.value v) w':=by
 unfold execOp;rw[ho];simp[h]
theorem GU {t:TypeId}{m k x:Operand}{w':World}(ho:o.op= .mapUpdate t m k x)(h:(Instr.mapUpdate t (a.eval m) (a.eval k) (a.eval x)).run P w= .ok () w'):(execOp a.eval o).run P w= .ok .skip w':=by
 unfold execOp;rw[ho];simp[h]
theorem GX {t:TypeId}{i:TypeInfo}{z:Value}(ho:o.op= .alloc t)(hi:P.info? t=some i)(hz:i.zero=some z):
 (execOp a.eval o).run P w= .ok (.value (.pointer (some ⟨w.heap.size,0,none⟩))) {w with heap:=w.heap.push (.cells z.cells t)}:=by
 unfold execOp;rw[ho];simp[Instr.alloc,zeroValue,typeInfo,hi,hz,newVar]
 rfl
theorem GV {t:TypeId}{p x:Operand}{r n:Nat}{c l:Array Value}{ty:TypeId}(ho:o.op= .store t p x)(hp:a.eval p= .pointer (some ⟨r,0,none⟩))(hx:a.eval x= .agg l)(hn:(Go.sizeOf t).run P w= .ok n w)(hl:l.size=n)
 (hr:w.heap[r]?=some (.cells c ty (0,0))) (hc:c.size=n) (h1:∀v∈l.toList,v.oneCell'=true):
 (execOp a.eval o).run P w= .ok .skip (w.setRow r l):=by
 unfold execOp;rw[ho];have h:=gh P r 0 ty 0 0 l.toList 0 c w hr (by omega) (by simp;omega) h1
 have e:(c.toList.take (0+0)++l.toList++c.toList.drop (0+0+l.toList.length)).toArray=l:=by
  rw[aBl,aCr,aBf,aBj (by simp;omega),aBz]
 rw[e]at h;have LJ:(Value.agg l).cells=l:=rfl;simp[hp,hx,Instr.storeAt,Instr.sureAddr,storeVar,hn,LJ,hl,h]
theorem JV {t:TypeId}{p:Operand}{r n:Nat}{l:Array Value}{ty:TypeId}(ho:o.op= .load t p)(hp:a.eval p= .pointer (some ⟨r,0,none⟩))(hn:(Go.sizeOf t).run P w= .ok n w)(hl:l.size=n)(ht:(isAgg t).run P w= .ok true w)
 (hr:w.heap[r]?=some (.cells l ty (0,0))):(execOp a.eval o).run P w= .ok (.value (.agg l)) w:=by
 unfold execOp;rw[ho];have h:=dU P w r 0 n l ty (0,0) hr (by omega)
 have e:((l.toList.drop 0).take n).toArray=l:=by
  rw[aBg,aAK (by simp;omega)]
 rw[e]at h;simp[hp,Instr.loadAt,Instr.sureAddr,loadVar,ht,hn,h]
end
def JJ (a:Int)(x:CV)(es:List eE):List eE:=match vf a es with|some _=>pU a x es|none=>es++[(.int .i64 a,x,0)]
theorem Qi (bd:Nat)(a:Int)(x:CV)(es:List eE)(st:St):yn .int bd es (.int .i64 a) x st= .ok .undef (st.set bd (.lmap (JJ a x es))):=by
 unfold yn JJ;have:Hx .int (.int .i64 a)=some a:=rfl;rw[this];dsimp only;cases vf a es with
 |some u=>rfl
 |none=>rfl
theorem DI {a:Int}{x:CV}{es:List eE}(hz:∀e∈es,e.2.2=0):(∀y∈JJ a x es,y.2.2=0)/\∀y,y∈JJ a x es↔y=(.int .i64 a,x,0)\/(y∈es/\y.1≠ .int .i64 a):=by
 unfold JJ;cases hg:vf a es with
 |none=>
  have qw:=si hg;refine⟨fun y hy=> ?_,fun y=> ?_⟩
  ·rcases aAM.1 hy with h|h
   ·exact hz y h
   ·rw[aBM.1 h]
  ·constructor
   ·intro h;rcases aAM.1 h with h|h
    ·exact .inr ⟨h,qw y h⟩
    ·exact .inl (aBM.1 h)
   ·rintro(rfl|⟨h,_⟩)
    ·exact aAM.2 (.inr (aBM.2 rfl))
    ·exact aAM.2 (.inl h)
 |some u=>
  obtain⟨e0,h1,h2,_⟩:=vY hg
  have hm:∀y,y∈pU a x es↔y=(.int .i64 a,x,0)\/(y∈es/\y.1≠ .int .i64 a):=by
   intro y;rw[nw,aBd];constructor
   ·rintro⟨e,he,rfl⟩
    split
    ·rename_i hi;have h3:=oi.1 hi;exact .inl (by rw[h3,hz e he])
    ·rename_i hi;exact .inr ⟨he,fun hh=>hi (oi.2 hh)⟩
   ·rintro(rfl|⟨h,hn⟩)
    ·refine⟨e0,h1, ?_⟩;rw[aAI (oi.2 h2),h2,hz e0 h1]
    ·exact⟨y,h,by rw[aAH (fun hh=>hn (oi.1 hh))]⟩
  refine⟨fun y hy=> ?_,hm⟩;rcases(hm y).1 hy with rfl|⟨h,_⟩
  ·rfl
  ·exact hz y h
theorem tm {es:List eE}(h:(es.map (·.1)).Nodup):es.Nodup:=by
 unfold List.Nodup at h⊢;rw[aCG]at h;exact h.imp fun vj e=>vj (by rw[e])
theorem Kg {es:List eE}(h:(es.map (·.1)).Nodup){x y:eE}(hx:x∈es)(hy:y∈es)(he:x.1=y.1):x=y:=by
 obtain⟨i,hi,rfl⟩:=aBD hx;obtain⟨j,hj,rfl⟩:=aBD hy;have:=(List.getElem_inj (i:=i) (j:=j) (h₀:=by simpa using hi) (h₁:=by simpa using hj) h).1 (by simpa using he);subst this;rfl
theorem fQ {a:Act}{d:Nat}{v:Value}(h:16<=a.tmps.size)(hd:d<16):∃a',a.put (some d) v=a'/\16<=a'.tmps.size/\a'.defers=a.defers/\a'.eval (.tmp d)=v/\∀k,k≠d->a'.eval (.tmp k)=a.eval (.tmp k):=
 ⟨_,rfl,by simpa[Act.put]using h,rfl,As (by omega),fun k hk=>Fx (fun e=>hk e.symm)⟩
section
variable {P:Program} {ρ:Ren} {st:St} {w:World}
theorem bf.Mn {mu:St}{w0:World}{b:Nat}{x y:qJ}(h:bf ρ mu w0 ρ ((mu.set b x).set b y) w):bf ρ mu w0 ρ (mu.set b y) w:=
 bf.qS h (fun q _ _=>by
  by_cases e:q=b
  ·subst e;simp[St.set,PT.cI]
  ·simp[St.set,PT.c9 _ _ _ _ e]) rfl
structure SH (ρ:Ren)(mu:St)(w0:World)(bd:Nat)(rd rs it FJ:Nat)(es':List MapEntry)(pl S D:List eE)(n:Nat)(a:Act)(w:World):Prop where
 out:∃(cur q:List eE) (seen:Array Nat) (c0:Nat),bf ρ mu w0 ρ (mu.set bd (.lmap cur)) w/\(∀x∈cur,x.2.2=0)/\(∀x,x∈cur↔x∈q\/(x∈D/\∀y∈q,y.1≠x.1))/\(∀y∈q,y∈S)/\
  (∀(i:Nat) (e:eE) (e':MapEntry),pl[i]?=some e->es'[i]?=some e'->seen.contains e'.born=true->((e.1,e.2.1,0):eE)∈q)/\
  w.heap[it]?=some (.mapIter (some rs) FJ seen c0)/\FJ<=c0/\(leftOf es'.toArray seen).size<n
 src:w.heap[rs]?=some (.map es'.toArray FJ)
 size:16<=a.tmps.size
 dst:a.eval (.tmp 0)= .map (some rd)
 iter:a.eval (.tmp 7)= .pointer (some ⟨it,0,none⟩)
 defers:a.defers=[]
theorem FG {f n:Nat}(hf:Pk P f n){args:List CV}{st':St}{v:CV}(h:FH n args st=some (.ok v st')):qi P f args st v st':=by
 obtain⟨fn,t,kt,et,d0,R0,R1,R2,R3,o0,o1,o2,o3,o4,o5,o6,o7,o8,o9,p0,p1,p2,p3,hfn,Fg,HB,htm,acJ,hR0,hR1,hR2,hR3,hg,⟨x0,y0⟩,⟨x1,y1⟩,⟨x2,y2⟩,⟨x3,y3⟩,⟨x4,y4⟩,⟨x5,y5⟩,⟨x6,y6⟩,⟨x7,y7⟩,⟨x8,y8⟩,⟨x9,y9⟩,⟨z0,u0⟩,⟨z1,u1⟩,⟨z2,u2⟩,⟨z3,u3⟩,aba,TP,hd0,Jk,⟨ti,tz,V7,htz,htn,htc⟩,amo⟩:=hf.out;unfold FH at h
 split at h
 ·rename_i bd bs
  split at h
  ·rename_i hh;obtain⟨gL,hd,hs,TE,lI,aaX⟩:=hh;generalize lM (st.mem.get bd)=d at*;generalize lM (st.mem.get bs)=s at*;cases h
   ··
      refine .inl ⟨Fg,fun ρ w args' hw ha=> ?_⟩;obtain⟨x',t1,e1,hx,Dz⟩:=ha.inv;obtain⟨y',t2,e2,hy,RY⟩:=Dz.inv;have e3:t2=[]:=by have:=RY.len;simpa using this.symm
      subst e3;subst e2;have e4:args'= #[x',y']:=by rw[<-aCf (xs:=args'),e1]
      subst e4;cases hx with
      |map _ rd szd An=>
      cases hy with
      |map _ rs szs hrs=>
      obtain⟨FJ,es',pl,Bg,HE,hval,hst,E8,iQ,hlen⟩:=yA hw hs lI hrs;obtain⟨_,_,_,_,_,_,_,alh,abA,_⟩:=yA hw hd TE An
      obtain⟨bld,acN⟩:∃blk,st.mem.get bd=some blk:=by
       cases hb:st.mem.get bd with
       |some x=>exact⟨x,rfl⟩
       |none=>rw[hb]at hd;exact hd.elim
      obtain⟨bls,acM⟩:∃blk,st.mem.get bs=some blk:=by
       cases hb:st.mem.get bs with
       |some x=>exact⟨x,rfl⟩
       |none=>rw[hb]at hs;exact hs.elim
      have ajV:rd≠rs:=fun e=>gL (hw.inj bd bs _ _ rd szd szs acN acM An (by rw[e];exact hrs))
      have Bd:∀b blk r sz,st.mem.get b=some blk->ρ b=some (r,sz)->r<w.heap.size:=fun b blk r sz h1 h2=>by
       obtain⟨o,g1,_⟩:=hw.at' b blk r sz h1 h2;exact(aBr.1 g1).1
      have avb:rd<w.heap.size:=Bd _ _ _ _ acN An;have ajS:rs<w.heap.size:=Bd _ _ _ _ acM hrs;have hA0:=bf.VF hw hd TE An
      have Rn:∀(k:Nat) (cur:qJ),w.heap.size<=k->∀b blk sz,(st.set bd cur).mem.get b=some blk->ρ b≠some (k,sz):=fun k cur hk b blk sz h1 h2=>by
       by_cases e:b=bd
       ·subst e;rw[An]at h2;cases h2;omega
       ·simp only[St.set,PT.c9 _ _ _ _ e]at h1;have:=Bd b blk k sz h1 h2;omega
      have hsz:∀w:World,(Go.sizeOf et).run P w= .ok n w:=fun w=>by rw[gR V7,htn]
      have rounds:∀(m:Nat) (a:Act) (w1:World),SH ρ st w bd rd rs w.heap.size FJ es' pl (gC s) (gC d) m a w1->
       Code.rounds P (.seq (.region 1 R1 false) (.seq (.cond (.tmp 9) .skip (.exit 0)) (.block 1 (.seq (.region 2 R2 false) (.region 3 R3 false)))))
        (Exit.inBlock 0 (bodyPost P fn fun e w'=>∃v' ρ',e= .returned v'/\VR ρ' .undef v'/\bf ρ st w ρ' ⟨st.mem.put bd (some (.lmap (jX d s))),st.next⟩ w')) m a w1:=by
       intro m
       induction m with
       |zero=>intro a w1 hI;obtain⟨_,_,_,_,_,_,_,_,_,_,_,hlt⟩:=hI.out;omega
       |succ m ih=>
        intro a w1 hI;obtain⟨cur,q,seen,c0,hA,hzc,HI,hqS,Tp,hit,Fe,hlt⟩:=hI.out;rw[rounds_succ];apply wp_seq;apply wp_region_list;rw[hR1];rcases run_next_at (P:=P) w1 o2.type w.heap.size rs FJ c0 seen es'.toArray FJ hit hI.src (fun x hx=>hst.1 x hx) Fe with⟨hz,jx⟩|⟨e,he,w1',V2,jx⟩
        ·refine nR (hg o2 (by simp)) (DX x2 (by rw[hI.iter];exact jx)) ?_;rw[y2];obtain⟨a1,ea1,s1,f1,v1,k1⟩:=fQ (v:= .tuple #[.bool false]) hI.size (show 8<16 by decide);rw[ea1];refine nR (hg o3 (by simp)) (nW (v:= .bool false) x3 v1 rfl) ?_;rw[y3];obtain⟨a2,ea2,s2,f2,v2,k2⟩:=fQ (v:= .bool false) s1 (show 9<16 by decide);rw[ea2];refine wpList_nil ?_;apply wp_seq;refine wp_cond_false v2 (wp_exit ?_);refine⟨by rw[f2,f1];exact hI.defers, .tuple #[], ?_, .tuple #[],ρ,rfl, .undef, ?_⟩
         ·unfold results;rw[HB,Array.mapM_eq_mapM_toList]
          rfl
         ·have fP:=all_seen es'.toArray seen hz
          have hSq:∀y∈gC s,y∈q:=by
           intro y hy;rw[fU]at hy;obtain⟨e,he,rfl⟩:=aBd.1 hy;obtain⟨i,hi,rfl⟩:=aBD (HE.mem_iff.2 he);have wY:i<es'.length:=by omega
           exact Tp i pl[i] es'[i] (aAC hi) (aAC wY) (fP _ (by simp))
          obtain⟨o,g1,g2⟩:=hA.wr.at' bd (.lmap cur) rd szd (by simp[St.set,PT.cI]) An;cases g2 with
          |lmap _ l X5 es2 hp hi hn LD hl hv=>
           have Jc:cur.Perm (jX d s):=by
            refine(List.perm_ext_iff_of_nodup (tm hn) (tm (vd abA iQ))).2 fun x=> ?_;rw[HI x,tV d s x];constructor
            ·rintro(h|⟨h1,h2⟩)
             ·exact .inl (hqS x h)
             ·exact .inr ⟨h1,fun y hy=>h2 y (hSq y hy)⟩
            ·rintro(h|⟨h1,h2⟩)
             ·exact .inl (hSq x h)
             ·exact .inr ⟨h1,fun y hy=>h2 y (hqS y hy)⟩
           refine bf.Mn (x:= .lmap cur) (hA.trans ?_)
           exact bf.set (blk0:= .lmap cur) hA.wr (by simp[St.set,PT.cI]) An g1
            (.lmap _ l X5 es2 (hp.trans Jc) (Ey alh E8) (vd abA iQ) LD hl hv szd) (fun _ _=>rfl) rfl rfl rfl
        ·obtain⟨NQ,hns⟩:=mem_left he;obtain⟨i,hi,hei⟩:=aBD (show e∈es' from by simpa using NQ);have Dw:i<pl.length:=by omega
         obtain⟨hvk,hvv⟩:=hval i pl[i] e (aAC Dw) (by rw[<-hei];exact aAC hi);have Gj:pl[i]∈s:=HE.mem_iff.1 (aAW Dw);obtain⟨ka,hka⟩:=E8 _ Gj;have Gq:e.key= .int .i64 ka:=by rw[hka]at hvk;exact ub hvk
         obtain⟨sg,Rq,auV,jh⟩:=aaX _ Gj
         obtain⟨l',Gn,hVl⟩:∃l':List Value,e.val= .agg l'.toArray/\eu ρ sg l':=by
          have V4:=hvv;rw[Rq]at V4;generalize e.val=ev at V4;cases V4 with
          |agg _ l hl hh=>exact⟨l,rfl,eu.mk hl hh⟩
         have hll:l'.toArray.size=n:=by
          have:=hVl.len;simp;omega
         refine nR (hg o2 (by simp)) (DX x2 (by rw[hI.iter];exact jx)) ?_;rw[y2];obtain⟨a1,ea1,s1,f1,v1,k1⟩:=fQ (v:= .tuple #[.bool true,e.key,e.val]) hI.size (show 8<16 by decide);rw[ea1];refine nR (hg o3 (by simp)) (nW (v:= .bool true) x3 v1 rfl) ?_;rw[y3];obtain⟨a2,ea2,s2,f2,v2,k2⟩:=fQ (v:= .bool true) s1 (show 9<16 by decide);rw[ea2];refine wpList_nil ?_;apply wp_seq;refine wp_cond_true v2 (wp_skip ?_);apply wp_block;apply wp_seq;apply wp_region_list;rw[hR2];generalize I3:setBlock w1' w.heap.size (.mapIter (some rs) FJ (seen.push e.born) FJ)=w2;have RN:w1'.heap=w1.heap/\w1'.os=w1.os/\w1'.output=w1.output:=by rcases V2 with rfl|rfl<;>exact⟨rfl,rfl,rfl⟩
         have auS:=hA.size;have alf:w.heap.size<w1.heap.size:=(aBr.1 hit).1;have h2s:w2.heap.size=w1.heap.size:=by rw[<-I3];simp[setBlock,RN.1]
         have h2o:∀r,r≠w.heap.size->w2.heap[r]?=w1.heap[r]?:=fun r hr=>by rw[<-I3];simp only[setBlock,RN.1];rw[aBH (fun e=>hr e.symm)]
         have h2i:w2.heap[w.heap.size]?=some (.mapIter (some rs) FJ (seen.push e.born) FJ):=by rw[<-I3];simp[setBlock,RN.1,alf]
         have amJ:w2.os=w.os:=by rw[<-I3];exact RN.2.1.trans hA.os
         have adr:w2.output=w.output:=by rw[<-I3];exact RN.2.2.trans hA.output
         have Ol:bf ρ st w ρ (st.set bd (.lmap cur)) w2:=hA.unk w.heap.size (aAE _) (Rn _ _ (aAE _)) (by omega) (fun r _ hr=>h2o r hr) (amJ.trans hA.os.symm) (adr.trans hA.output.symm);have Ue:w2.heap[rs]?=some (.map es'.toArray FJ):=by rw[h2o rs (by omega)];exact hI.src
         have i2:a2.eval (.tmp 7)= .pointer (some ⟨w.heap.size,0,none⟩):=by rw[k2 7 (by decide),k1 7 (by decide)];exact hI.iter
         refine nR (hg o4 (by simp)) (JW x4 (by rw[i2];exact run_entry_at w2 w.heap.size rs FJ seen es'.toArray FJ e h2i Ue NQ hst.2.1)) ?_;rw[y4];obtain⟨a3,ea3,s3,f3,v3,k3⟩:=fQ (v:= .tuple #[e.key,e.val]) s2 (show 10<16 by decide);rw[ea3];refine nR (hg o5 (by simp)) (nW (v:=e.key) x5 v3 rfl) ?_;rw[y5];obtain⟨a4,ea4,s4,f4,v4,k4⟩:=fQ (v:=e.key) s3 (show 11<16 by decide);rw[ea4];refine nR (hg o6 (by simp)) (nW (v:=e.val) x6 (by rw[k4 10 (by decide)];exact v3) rfl) ?_;rw[y6];obtain⟨a5,ea5,s5,f5,v5,k5⟩:=fQ (v:=e.val) s4 (show 12<16 by decide);rw[ea5];refine nR (hg o7 (by simp)) (GX x7 V7 htz) ?_;rw[y7];obtain⟨a6,ea6,s6,f6,v6,k6⟩:=fQ (v:= .pointer (some ⟨w2.heap.size,0,none⟩)) s5 (show 5<16 by decide);rw[ea6];generalize Px:({w2 with heap:=w2.heap.push (.cells tz.cells et)}:World)=w3;have h3s:w3.heap.size=w2.heap.size+1:=by rw[<-Px];simp
         have h3o:∀r,r<w2.heap.size->w3.heap[r]?=w2.heap[r]?:=fun r hr=>by rw[<-Px];show(w2.heap.push _)[r]?=_;rw[aCY,aAH (by omega)]
         have h3n:w3.heap[w2.heap.size]?=some (.cells tz.cells et (0,0)):=by rw[<-Px];show(w2.heap.push _)[_]?=_;simp
         have hA3:bf ρ st w ρ (st.set bd (.lmap cur)) w3:=Ol.unk w2.heap.size Ol.size (Rn _ _ Ol.size) (by omega) (fun r hr _=>h3o r hr) (by rw[<-Px]) (by rw[<-Px]);refine nR (hg o8 (by simp)) (GW x8) ?_;rw[y8,show a6.eval (.tmp 11)=e.key from by rw[k6 11 (by decide),k5 11 (by decide)];exact v4];obtain⟨a7,ea7,s7,f7,v7,k7⟩:=fQ (v:=e.key) s6 (show 4<16 by decide);rw[ea7];refine SL (hg o9 (by simp)) (GV (l:=l'.toArray) (n:=n) x9 (by rw[k7 5 (by decide)];exact v6) (by rw[k7 12 (by decide),k6 12 (by decide),v5,Gn]) (hsz w3) hll h3n htc (fun v hv=> ?_)) ?_
         ·obtain⟨j,hj,rfl⟩:=aBD hv;have hj2:j<l'.length:=by simpa using hj
          have hj3:j<sg.length:=by rw[hVl.len];exact hj2
          exact mS (hVl.at' j sg[j] _ (by simp) (by simp)) (mR sg jh _ (aAW _))
         rw[y9];generalize hw4:w3.setRow w2.heap.size l'.toArray=w4;have h4s:w4.heap.size=w3.heap.size:=by rw[<-hw4];exact nV _ _ _
         have h4o:∀r,r≠w2.heap.size->w4.heap[r]?=w3.heap[r]?:=fun r hr=>by rw[<-hw4];exact mP _ _ _ _ hr
         have h4n:w4.heap[w2.heap.size]?=some (.cells l'.toArray et (0,0)):=by rw[<-hw4];exact setRow_heap _ _ _ _ _ _ h3n
         have hA4:bf ρ st w ρ (st.set bd (.lmap cur)) w4:=hA3.unk w2.heap.size Ol.size (Rn _ _ Ol.size) (by omega) (fun r _ hr=>h4o r hr) (by rw[<-hw4];rfl) (by rw[<-hw4];rfl);refine wpList_nil ?_;apply wp_region_list;rw[hR3];have a7e:∀k,a7.put none undef=a7\/k=0:=fun _=> .inl rfl;have anQ:a7.put none undef=a7:=rfl;rw[anQ];have e0:a7.eval (.tmp 0)= .map (some rd):=by rw[k7 0 (by decide),k6 0 (by decide),k5 0 (by decide),k4 0 (by decide),k3 0 (by decide),k2 0 (by decide),k1 0 (by decide)];exact hI.dst
         have e7:a7.eval (.tmp 7)= .pointer (some ⟨w.heap.size,0,none⟩):=by rw[k7 7 (by decide),k6 7 (by decide),k5 7 (by decide),k4 7 (by decide),k3 7 (by decide)];exact i2
         have e5:a7.eval (.tmp 5)= .pointer (some ⟨w2.heap.size,0,none⟩):=by rw[k7 5 (by decide)];exact v6
         refine nR (hg p0 (by simp)) (ya z0) ?_;rw[u0,e0];obtain⟨a8,ea8,s8,f8,v8,k8⟩:=fQ (v:= .map (some rd)) s7 (show 13<16 by decide);rw[ea8];refine nR (hg p1 (by simp)) (ya z1) ?_;rw[u1,show a8.eval (.tmp 4)=e.key from by rw[k8 4 (by decide)];exact v7];obtain⟨a9,ea9,s9,f9,v9,k9⟩:=fQ (v:=e.key) s8 (show 14<16 by decide);rw[ea9];refine nR (hg p2 (by simp)) (JV z2 (by rw[k9 5 (by decide),k8 5 (by decide)];exact e5) (hsz w4) hll (amo w4) h4n) ?_;rw[u2];obtain⟨aa,eaa,sa,fa,va,kka⟩:=fQ (v:= .agg l'.toArray) s9 (show 15<16 by decide);rw[eaa]
         have alg:tq .int (.int .i64 ka)=true:=by
          unfold tq;have:mK .int (.int .i64 ka) (.int .i64 ka)=some (Zq ka ka):=rfl;rw[this,(xt ka ka).2 rfl];rfl
         obtain⟨_,es5,anX,hr5,hA5⟩:=AU (Qi bd ka (.agg sg) cur (st.set bd (.lmap cur))) hA4.wr (by simp[St.set,PT.cI]) An (k':=e.key) (y':= .agg l'.toArray) (by rw[<-hka];exact hvk) (by rw[<-Rq,<-Gn];exact hvv) aba TP hd0
          (fun ee=>mc alg TP hd0 Jk (by rw[<-hka];exact hvk) ee)
         refine SL (hg p3 (by simp)) (GU z3 (by rw[kka 13 (by decide),kka 14 (by decide),va,k9 13 (by decide),v8,v9];exact hr5)) ?_;rw[u3,show aa.put none undef=aa from rfl];refine wpList_nil ?_;apply ih;generalize hw5:({w4 with heap:=w4.heap.setIfInBounds rd (.map es5.toArray anX)}:World)=w5;rw[hw5]at hA5;have h5o:∀r,r≠rd->w5.heap[r]?=w4.heap[r]?:=fun r hr=>by rw[<-hw5];show(w4.heap.setIfInBounds rd _)[r]?=_;rw[aBH (fun e=>hr e.symm)]
         have NX:∀r,r≠rd->r<w2.heap.size->w5.heap[r]?=w2.heap[r]?:=fun r h1 h2=>by rw[h5o r h1,h4o r (by omega),h3o r h2]
         refine⟨⟨JJ ka (.agg sg) cur,(pl[i].1,pl[i].2.1,0)::q,seen.push e.born,FJ,(hA4.trans hA5).Mn, ?_, ?_, ?_, ?_, ?_,aAE _, ?_⟩, ?_,sa, ?_, ?_, ?_⟩
         ·exact(DI hzc).1
         ·intro x;have hS:((pl[i].1,pl[i].2.1,0):eE)∈gC s:=by rw[fU];exact aBd.2 ⟨_,Gj,rfl⟩
          have I5:∀x∈gC s,x.1=pl[i].1->x=(pl[i].1,pl[i].2.1,0):=fun x hx LA=>Kg (nQ iQ) hx hS LA;rw[(DI hzc).2 x,HI x,<-Rq,<-hka];constructor
          ·rintro(rfl|⟨h1|⟨h1,h2⟩,h3⟩)
           ·exact .inl (aBF ..)
           ·exact .inl (aBk _ h1)
           ·refine .inr ⟨h1,fun y hy=> ?_⟩;rcases aAD.1 hy with rfl|hy
            ·exact fun e=>h3 e.symm
            ·exact h2 y hy
          ·rintro(h1|⟨h1,h2⟩)
           ·rcases aAD.1 h1 with rfl|h1
            ·exact .inl rfl
            ·by_cases hx:x.1=pl[i].1
             ·exact .inl (I5 x (hqS x h1) hx)
             ·exact .inr ⟨.inl h1,hx⟩
           ·exact .inr ⟨.inr ⟨h1,fun y hy=>h2 y (aBk _ hy)⟩,fun e=>h2 _ (aBF ..) e.symm⟩
         ·intro y hy;rcases aAD.1 hy with rfl|hy
          ·rw[fU];exact aBd.2 ⟨_,Gj,rfl⟩
          ·exact hqS y hy
         ·intro j e1 e1' g1 g2 g3;rw[contains_push,aBB]at g3;rcases g3 with g3|g3
          ·exact aBk _ (Tp j e1 e1' g1 g2 g3)
          ·have hb:=beq_iff_eq.1 g3;have hj:j<es'.length:=(aAP.1 g2).1;have hje:es'[j]=e1':=(aAP.1 g2).2
           have HL:j=i:=by
            have EU:=hst.2.1;rw[List.toList_toArray]at EU;have:=(List.getElem_inj (i:=j) (j:=i) (h₀:=by simpa using hj) (h₁:=by simpa using hi) EU).1 (by simp[hje,hei,hb]);exact this
           subst HL;have:e1=pl[j]:=by rw[aAC Dw]at g1;exact(aCd g1).symm
           rw[this];exact aBF ..
         ·rw[NX _ (by omega) (by omega)];exact h2i
         ·have:=left_shrinks es'.toArray seen e he;omega
         ·rw[NX rs (fun e=>ajV e.symm) (by omega)];exact Ue
         ·rw[kka 0 (by decide),k9 0 (by decide),k8 0 (by decide)];exact e0
         ·rw[kka 7 (by decide),k9 7 (by decide),k8 7 (by decide)];exact e7
         ·rw[fa,f9,f8,f7,f6,f5,f4,f3,f2,f1];exact hI.defers
      refine calls_of_wp hfn acJ ?_;apply wp_seq;apply wp_region_list;rw[hR0];generalize Zb:({tmps:= #[Value.map (some rd),Value.map (some rs)]++Array.replicate (fn.ntmps-(#[Value.map (some rd),Value.map (some rs)]:Array Value).size) undef,defers:=[]}:Act)=a0;have s0:16<=a0.tmps.size:=by rw[<-Zb];simp;omega
      have g0:a0.eval (.tmp 0)= .map (some rd):=by rw[<-Zb];simp[Act.eval,aDh]
      have g1:a0.eval (.tmp 1)= .map (some rs):=by rw[<-Zb];simp[Act.eval,aDh]
      refine nR (hg o0 (by simp)) (ya x0) ?_;rw[y0,g1];obtain⟨a1,ea1,s1,f1,v1,k1⟩:=fQ (v:= .map (some rs)) s0 (show 6<16 by decide);rw[ea1];refine nR (hg o1 (by simp)) (JU x1 (by rw[v1];exact run_range_map w t kt et rs es'.toArray FJ aba Bg)) ?_;rw[y1];obtain⟨a2,ea2,s2,f2,v2,k2⟩:=fQ (v:= .pointer (some ⟨w.heap.size,0,none⟩)) s1 (show 7<16 by decide);rw[ea2];refine wpList_nil ?_;apply wp_block;refine wp_loop_rounds ((leftOf es'.toArray #[]).size+1) (rounds _ _ _ ⟨⟨gC d,[], #[],FJ, ?_, ?_, ?_, ?_, ?_,heap_alloc_new _ _,aAE _,by omega⟩, ?_,s2, ?_,v2, ?_⟩)
      ·exact hA0.unk w.heap.size (aAE _) (Rn _ _ (aAE _)) (by show _<=(w.heap.push _).size;simp) (fun r hr _=>heap_alloc_old w _ hr) rfl rfl
      ·intro x hx;rw[fU]at hx;obtain⟨e,_,rfl⟩:=aBd.1 hx;rfl
      ·intro x;simp
      ·intro y hy;cases hy
      ·intro i e e' _ _ hc;simp at hc
      ·rw[heap_alloc_old w _ ajS];exact Bg
      ·rw[k2 0 (by decide),k1 0 (by decide)];exact g0
      ·rw[f2,f1,<-Zb]
  ·cases h
 ·cases h
end
