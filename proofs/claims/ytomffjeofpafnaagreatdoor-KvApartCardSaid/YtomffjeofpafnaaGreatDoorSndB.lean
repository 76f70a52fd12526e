import Derived.Test.YtomffjeofpafnaaGreatDoorSndA
import Derived.Maps.RangeRun
import Derived.Laws.IdiomRangeMap
namespace Lim
open Go
noncomputable section
set_option linter.defProp false
section
variable {es:List eS}{d:Nat}{s:List eS}{v:Value}{r sz:Nat}{kK:St}{w0 w':World}{rest:List Oper}{x:Operand}{t:TypeId}{p:Operand}{n:Nat}{l:Array Value}{ty:TypeId}
open Go.ChangeMaps (setBlock)
def rA (es:List eS):Prop:=∀e∈es,∃n:Int,e.1=.int .i64 n
def gw (es:List eS):gT es=es.map λe=>(e.1,e.2.1,0):=rfl
def iG.ints (h:iG es):rA es:=λe he=>by obtain⟨a,h1,_⟩:=h.1 e he;exact⟨a,h1⟩
def iG.nodup (h:iG es):(es.map (·.1)).Nodup:=by
 have hn:=h.2.1;unfold jr at hn;unfold List.Nodup at hn⊢;rw[aGR]at hn⊢;exact hn.imp λtN e=>tN (by rw[e])
def ve (h:rA es):rA (gT es):=by
 rw[gw];intro e he;obtain⟨x,hx,rfl⟩:=aFq.1 he;exact h x hx
def oR (h:(es.map (·.1)).Nodup):((gT es).map (·.1)).Nodup:=by
 rw[gw,aHl];exact h
def vq (d s:List eS)(x:eS):x∈kO d s↔x∈gT s\/(x∈gT d/\∀e∈gT s,e.1≠x.1):=by
 unfold kO;rw[aEY,aGm]
 have hs:∀k:CV,(∃y∈s,y.1=k)↔∃y∈gT s,y.1=k:=by
  intro k;rw[gw];constructor
  .rintro⟨y,h1,h2⟩;exact⟨_,aFq.2 ⟨y,h1,rfl⟩,h2⟩
  .rintro⟨y,h1,h2⟩;obtain⟨z,hz,rfl⟩:=aFq.1 h1;exact⟨z,hz,h2⟩
 constructor
 .rintro(⟨h1,h2⟩|h)
  .refine .inr ⟨h1,λe he TB=>?_⟩;have h2:¬∃y∈s,y.1=x.1:=by simpa using h2
   exact h2 ((hs _).2 ⟨e,he,TB⟩)
  .exact .inl h
 .rintro(h|⟨h1,h2⟩)
  .exact .inr h
  .refine .inl ⟨h1,?_⟩;simp only[aGa];intro hh;obtain⟨y,hy,hyx⟩:=(hs _).1 hh;exact h2 y hy hyx
def GA {d:List eS}(hd:rA d)(hs:rA s):rA (kO d s):=λx hx=>by
 rcases(vq d s x).1 hx with h|⟨h,_⟩
 .exact ve hs x h
 .exact ve hd x h
def wD {d:List eS}(hd:(d.map (·.1)).Nodup)(hs:(s.map (·.1)).Nodup):((kO d s).map (·.1)).Nodup:=by
 have h1:=oR hs;have h2:=oR hd;unfold kO;rw[aFR,aFM];refine⟨h2.sublist (List.filter_sublist.map _),h1,?_⟩;intro a ha b hb e;subst e;obtain⟨x,hx,rfl⟩:=aFq.1 ha;obtain⟨y,hy,hyx⟩:=aFq.1 hb;have Tr:x∈kO d s:=by unfold kO;exact aGO _ hx
 rcases(vq d s x).1 Tr with h|⟨_,h⟩
 .have h3:=(aGm.1 hx).2;have h3:¬∃y∈s,y.1=x.1:=by simpa using h3
  apply h3;rw[gw]at h;obtain⟨z,hz,e⟩:=aFq.1 h;exact⟨z,hz,by rw[<-e]⟩
 .exact h y hy hyx
structure Tb (P:Program)(f:Nat)(n:Nat):Prop where
 out:∃(fn:Func) (t kt et:TypeId) (d:Nat) (R0:Array Oper) (R1 R2 R3:Array Oper) (o0 o1 o2 o3 o4 o5 o6 o7 o8 o9 p0 p1 p2 p3:Oper),P.funcs[f]?=some fn/\Lim.ia P f=true/\fn.results= #[]/\16<=fn.ntmps/\
  fn.body=some (Code.seq (.region 0 R0 false) (.block 0 (.loop (.seq (.region 1 R1 false) (.seq (.cond (.tmp 9) .skip (.exit 0)) (.block 1 (.seq (.region 2 R2 false) (.region 3 R3 false))))))))/\
  R0.toList=[o0,o1]/\R1.toList=[o2,o3]/\R2.toList=[o4,o5,o6,o7,o8,o9]/\R3.toList=[p0,p1,p2,p3]/\
  (∀o∈[o0,o1,o2,o3,o4,o5,o6,o7,o8,o9,p0,p1,p2,p3],o.guard=none)/\
  (o0.op=.move (.tmp 1)/\o0.dst=some 6)/\(o1.op=.range t (.tmp 6)/\o1.dst=some 7)/\(o2.op=.next (.tmp 7) false/\o2.dst=some 8)/\(o3.op=.extract (.tmp 8) 0/\o3.dst=some 9)/\
  (o4.op=.entry (.tmp 7)/\o4.dst=some 10)/\(o5.op=.extract (.tmp 10) 0/\o5.dst=some 11)/\(o6.op=.extract (.tmp 10) 1/\o6.dst=some 12)/\(o7.op=.alloc et/\o7.dst=some 5)/\(o8.op=.assign (.tmp 11)/\o8.dst=some 4)/\
  (o9.op=.store et (.tmp 5) (.tmp 12)/\o9.dst=none)/\(p0.op=.move (.tmp 0)/\p0.dst=some 13)/\(p1.op=.move (.tmp 4)/\p1.dst=some 14)/\(p2.op=.load et (.tmp 5)/\p2.dst=some 15)/\(p3.op=.mapUpdate t (.tmp 13) (.tmp 14) (.tmp 15)/\p3.dst=none)/\
  P.underlying t=some (.map kt et)/\fZ P d kt=some .int/\d<10000/\iw 40 .int=true/\(∃i z,P.info? et=some i/\i.zero=some z/\i.size=n/\z.cells.size=n)/\(∀w,(isAgg et).run P w=.ok true w)
def Ca {a:Act}(h:d<a.tmps.size):(a.put (some d) v).eval (.tmp d)=v:=by simp[Act.eval,Act.put,h]
def Hy {a:Act}{k:Nat}(h:d≠k):(a.put (some d) v).eval (.tmp k)=a.eval (.tmp k):=by
 simp only[Act.eval,Act.put];simp[aFV h]
section
variable {P:Program} {ρ:Ren} {st:St} {w:World}
def Am {b:Nat}(hw:WR ρ st w)(he:nG (st.m.g b) es)(hk:iG es)(hr:ρ b=some (r,sz)):
 ∃(clock:Nat) (es':List MapEntry) (l:List eS),w.heap[r]?=some (.map es'.toArray clock)/\l.Perm es/\(∀(i:Nat) (e:eS) (e':MapEntry),l[i]?=some e->es'[i]?=some e'->VR ρ e.1 e'.key/\VR ρ e.2.1 e'.val)/\
  Go.MapKept.Stamped es'.toArray clock/\rA es/\(es.map (·.1)).Nodup/\l.length=es'.length:=by
 obtain⟨es',clock,pl,h1,h2,h3,h4,h5,h6⟩:=LY hw he hk hr;refine⟨clock,es',pl,h1,h2,h4,⟨λx hx=>h5 x O5,by simpa using h6,?_⟩,hk.ints,hk.nodup,h3⟩;show((es'.toArray.toList).map (·.key)).Nodup;rw[List.toList_toArray];have hn:=(h2.map (·.1)).nodup_iff.2 hk.nodup;unfold List.Nodup at hn⊢;rw[aGR]at hn⊢;rw[aHg]at hn⊢;intro i j hi hj JX e;refine hn i j qE qE JX ?_;obtain⟨a,ha⟩:=hk.ints pl[i] (h2.mem_iff.1 (aFj qE));obtain⟨b,hb⟩:=hk.ints pl[j] (h2.mem_iff.1 (aFj qE));have v1:=(h4 i pl[i] es'[i] (aES qE) (aES hi)).1;have v2:=(h4 j pl[j] es'[j] (aES qE) (aES hj)).1;rw[ha]at v1;rw[hb]at v2;have w1:=vC v1;have w2:=vC v2;rw[w1,w2]at e;cases e;rw[ha,hb]
def br.YZ {b:Nat}(hw:WR ρ st w)(he:nG (st.m.g b) es)(hk:iG es)(hr:ρ b=some (r,sz)):br ρ st w ρ (st.set b (.lmap (gT es))) w:=by
 obtain⟨clock,es',l,h1,h2,h3,h4,h5,h6,h7⟩:=Am hw he hk hr
 obtain⟨blk,aaw⟩:∃blk,st.m.g b=some blk:=by
  cases hb:st.m.g b with
  |some x=>exact⟨x,rfl⟩
  |none=>rw[hb]at he;exact he.elim
 refine br.set hw aaw hr h1 (.lmap (gT es) (gT l) clock es' (by rw[gw,gw];exact h2.map _) (ve h5) (oR h6) h4 (by rw[gw];simp[h7]) (λi e e' g1 g2=>?_) sz) (λ_ _=>rfl) rfl rfl rfl;rw[gw,aFA]at g1;cases hl:l[i]? with
 |none=>rw[hl]at g1;simp at g1
 |some x=>rw[hl]at g1;simp at g1;subst g1;exact h3 i x e' hl g2
def br.unk {ρ0:Ren}{M:St}(h:br ρ0 kK w0 ρ M w)(it:Nat)(hi:w0.heap.size<=it)(hu:∀b blk sz,M.m.g b=some blk->ρ b≠some (it,sz))(hs:w.heap.size<=w'.heap.size)(hk:∀r,r<w.heap.size->r≠it->w'.heap[r]?=w.heap[r]?)(hos:w'.os=w.os)(QZ:w'.output=w.output):br ρ0 kK w0 ρ M w' where
 wr:=⟨λb blk r sz h1 h2=>by
    obtain⟨o,e2,e3⟩:=h.wr.at' b blk r sz h1 h2;exact⟨o,by rw[hk r (aFB.1 e2).1 (λe=>hu b blk sz h1 (by rw[h2,e]))];exact e2,e3⟩,h.wr.inj,h.wr.fresh⟩
 ext:=h.ext
 L0:=h.L0
 nx:=h.nx
 origin:=h.origin
 kept:=λr hr hn=>by
  rw[hk r (aFg hr h.size) qE];exact h.kept r hr hn
 size:=aGb h.size hs
 os:=hos.trans h.os
 output:=QZ.trans h.output
end
section
variable {P:Program} {ops:Array Oper} {Q:Exit->Act->World->Prop}
def oT {o:Oper}{a:Act}{w:World}(hg:o.guard=none)(hr:(execOp a.eval o).run P w=.ok (.value v) w')(h:wpList P ops Q rest (a.put o.dst v) w'):wpList P ops Q (o::rest) a w:=
 wpList_plain hg λK hK=>by unfold Oper.wp;rw[hr];exact hK _ _ h
def Wt {o:Oper}{a:Act}{w:World}(hg:o.guard=none)(hr:(execOp a.eval o).run P w=.ok .skip w')(h:wpList P ops Q rest (a.put o.dst undef) w'):wpList P ops Q (o::rest) a w:=
 wpList_plain hg λK hK=>by unfold Oper.wp;rw[hr];exact hK _ _ h
end
section
variable {P:Program} {a:Act} {w:World} {o:Oper}
def zQ (ho:o.op=.move x):(execOp a.eval o).run P w=.ok (.value (a.eval x)) w:=by unfold execOp;rw[ho];rfl
def Jf (ho:o.op=.assign x):(execOp a.eval o).run P w=.ok (.value (a.eval x)) w:=by unfold execOp;rw[ho];rfl
def oX {i:Nat}{vs:Array Value}(ho:o.op=.extract x i)(hx:a.eval x=.tuple vs)(hv:vs[i]?=some v):(execOp a.eval o).run P w=.ok (.value v) w:=by
 unfold execOp;rw[ho];dsimp only;rw[hx];simp[Instr.extract,hv]
def FY (ho:o.op=.next x false)(h:(Instr.next (a.eval x) false o.type).run P w=.ok v w'):(execOp a.eval o).run P w=.ok (.value v) w':=by
 unfold execOp;rw[ho];simp[h]
def MI (ho:o.op=.entry x)(h:(Instr.entry (a.eval x)).run P w=.ok v w'):(execOp a.eval o).run P w=.ok (.value v) w':=by
 unfold execOp;rw[ho];simp[h]
def MG (ho:o.op=.range t x)(h:(Instr.range t (a.eval x)).run P w=.ok v w'):(execOp a.eval o).run P w=.ok (.value v) w':=by
 unfold execOp;rw[ho];simp[h]
def Jd {m k:Operand}(ho:o.op=.mapUpdate t m k x)(h:(Instr.mapUpdate t (a.eval m) (a.eval k) (a.eval x)).run P w=.ok () w'):(execOp a.eval o).run P w=.ok .skip w':=by
 unfold execOp;rw[ho];simp[h]
def Jg {i:TypeInfo}{z:Value}(ho:o.op=.alloc t)(hi:P.info? t=some i)(hz:i.zero=some z):
 (execOp a.eval o).run P w=.ok (.value (.pointer (some ⟨w.heap.size,0,none⟩))) {w with heap:=w.heap.push (.cells z.cells t)}:=by
 unfold execOp;rw[ho];simp[Instr.alloc,zeroValue,typeInfo,hi,hz,newVar]
 rfl
def Je {c:Array Value}(ho:o.op=.store t p x)(hp:a.eval p=.pointer (some ⟨r,0,none⟩))(hx:a.eval x=.agg l)(hn:(Go.sizeOf t).run P w=.ok n w)(hl:l.size=n)
 (hr:w.heap[r]?=some (.cells c ty (0,0))) (hc:c.size=n) (h1:∀v∈l.toList,v.oneCell'=true):
 (execOp a.eval o).run P w=.ok .skip (w.setRow r l):=by
 unfold execOp;rw[ho];have h:=gI P r 0 ty 0 0 l.toList 0 c w hr qE vR h1
 have e:(c.toList.take (0+0)++l.toList++c.toList.drop (0+0+l.toList.length)).toArray=l:=by
  rw[aFC,aGM,aFt,aFu vR,aFN]
 rw[e]at h;have Nu:(Value.agg l).cells=l:=rfl;simp[hp,hx,Instr.storeAt,Instr.sureAddr,storeVar,hn,Nu,hl,h]
def MH (ho:o.op=.load t p)(hp:a.eval p=.pointer (some ⟨r,0,none⟩))(hn:(Go.sizeOf t).run P w=.ok n w)(hl:l.size=n)(ht:(isAgg t).run P w=.ok true w)
 (hr:w.heap[r]?=some (.cells l ty (0,0))):(execOp a.eval o).run P w=.ok (.value (.agg l)) w:=by
 unfold execOp;rw[ho];have h:=eh P w r 0 n l ty (0,0) hr qE
 have e:((l.toList.drop 0).take n).toArray=l:=by
  rw[aFr,aEX vR]
 rw[e]at h;simp[hp,Instr.loadAt,Instr.sureAddr,loadVar,ht,hn,h]
end
def Mt (a:Int)(x:CV)(es:List eS):List eS:=match wF a es with|some _=>rb a x es|none=>es++[(.int .i64 a,x,0)]
def TZ (bd:Nat)(a:Int)(x:CV)(es:List eS)(st:St):Ae .int bd es (.int .i64 a) x st=.ok .undef (st.set bd (.lmap (Mt a x es))):=by
 unfold Ae Mt;have:JJ .int (.int .i64 a)=some a:=rfl;rw[this];dsimp only;cases wF a es with
 |some u=>rfl
 |none=>rfl
def FA {a:Int}{x:CV}(hz:∀e∈es,e.2.2=0):(∀y∈Mt a x es,y.2.2=0)/\∀y,y∈Mt a x es↔y=(.int .i64 a,x,0)\/(y∈es/\y.1≠ .int .i64 a):=by
 unfold Mt;cases hg:wF a es with
 |none=>
  have qy:=tL hg;refine⟨λy hy=>?_,λy=>?_⟩
  .rcases aEY.1 hy with h|h
   .exact hz y h
   .rw[aGd.1 h]
  .constructor
   .intro h;rcases aEY.1 h with h|h
    .exact .inr ⟨h,qy y h⟩
    .exact .inl (aGd.1 h)
   .rintro(rfl|⟨h,_⟩)
    .exact aEY.2 (.inr (aGd.2 rfl))
    .exact aEY.2 (.inl h)
 |some u=>
  obtain⟨e0,h1,h2,_⟩:=xH hg
  have hm:∀y,y∈rb a x es↔y=(.int .i64 a,x,0)\/(y∈es/\y.1≠ .int .i64 a):=by
   intro y;rw[om,aFq];constructor
   .rintro⟨e,he,rfl⟩
    split
    .rename_i hi;have h3:=pw.1 hi;exact .inl (by rw[h3,hz e he])
    .rename_i hi;exact .inr ⟨he,λhh=>hi (pw.2 hh)⟩
   .rintro(rfl|⟨h,hn⟩)
    .refine⟨e0,h1,?_⟩;rw[aEW (pw.2 h2),h2,hz e0 h1]
    .exact⟨y,h,by rw[aET (λhh=>hn (pw.1 hh))]⟩
  refine⟨λy hy=>?_,hm⟩;rcases(hm y).1 hy with rfl|⟨h,_⟩
  .rfl
  .exact hz y h
def uN (h:(es.map (·.1)).Nodup):es.Nodup:=by
 unfold List.Nodup at h⊢;rw[aGR]at h;exact h.imp λtN e=>tN (by rw[e])
def M0 (h:(es.map (·.1)).Nodup){x y:eS}(hx:x∈es)(hy:y∈es)(he:x.1=y.1):x=y:=by
 obtain⟨i,hi,rfl⟩:=aFP hx;obtain⟨j,hj,rfl⟩:=aFP hy;have:=(List.getElem_inj (i:=i) (j:=j) (h₀:=O1) (h₁:=acw) h).1 aaT;subst this;rfl
def gj {a:Act}(h:16<=a.tmps.size)(hd:d<16):∃a',a.put (some d) v=a'/\16<=a'.tmps.size/\a'.defers=a.defers/\a'.eval (.tmp d)=v/\∀k,k≠d->a'.eval (.tmp k)=a.eval (.tmp k):=
 ⟨_,rfl,by simpa[Act.put]using h,rfl,Ca qE,λk hk=>Hy (λe=>hk e.symm)⟩
section
variable {P:Program} {ρ:Ren} {st:St} {w:World}
def br.PB {b:Nat}{x y:qB}(h:br ρ kK w0 ρ ((kK.set b x).set b y) w):br ρ kK w0 ρ (kK.set b y) w:=
 br.sy h (λq _ _=>by
  by_cases e:q=b
  .subst e;simp[St.set,PT.dn]
  .simp[St.set,PT.dv _ _ _ _ e]) rfl
structure Wo (ρ:Ren)(kK:St)(w0:World)(bd:Nat)(rd rs it HK:Nat)(es':List MapEntry)(pl S D:List eS)(n:Nat)(a:Act)(w:World):Prop where
 out:∃(cur q:List eS) (seen:Array Nat) (c0:Nat),br ρ kK w0 ρ (kK.set bd (.lmap cur)) w/\(∀x∈cur,x.2.2=0)/\(∀x,x∈cur↔x∈q\/(x∈D/\∀y∈q,y.1≠x.1))/\(∀y∈q,y∈S)/\
  (∀(i:Nat) (e:eS) (e':MapEntry),pl[i]?=some e->es'[i]?=some e'->seen.contains e'.born=true->((e.1,e.2.1,0):eS)∈q)/\
  w.heap[it]?=some (.mapIter (some rs) HK seen c0)/\HK<=c0/\(leftOf es'.toArray seen).size<n
 src:w.heap[rs]?=some (.map es'.toArray HK)
 size:16<=a.tmps.size
 dst:a.eval (.tmp 0)=.map (some rd)
 iter:a.eval (.tmp 7)=.pointer (some ⟨it,0,none⟩)
 defers:a.defers=[]
def HH {f:Nat}(hf:Tb P f n){args:List CV}{st':St}{v:CV}(h:HI n args st=some (.ok v st')):rD P f args st v st':=by
 obtain⟨fn,t,kt,et,d0,R0,R1,R2,R3,o0,o1,o2,o3,o4,o5,o6,o7,o8,o9,p0,p1,p2,p3,hfn,Hl,JO,htm,agx,hR0,hR1,hR2,hR3,hg,⟨x0,y0⟩,⟨x1,y1⟩,⟨x2,y2⟩,⟨x3,y3⟩,⟨x4,y4⟩,⟨x5,y5⟩,⟨x6,y6⟩,⟨x7,y7⟩,⟨x8,y8⟩,⟨x9,y9⟩,⟨z0,u0⟩,⟨z1,u1⟩,⟨z2,u2⟩,⟨z3,u3⟩,aeU,XI,hd0,LP,⟨ti,tz,Zv,htz,htn,htc⟩,aqo⟩:=hf.out;unfold HI at h
 split at h
 .rename_i bd bs
  split at h
  .rename_i hh;obtain⟨ij,hd,hs,Xw,mr,aeQ⟩:=hh;generalize mi (st.m.g bd)=d at*;generalize mi (st.m.g bs)=s at*;cases h
   ··
      refine .inl ⟨Hl,λρ w args' hw ha=>?_⟩;obtain⟨x',t1,e1,hx,Fj⟩:=ha.inv;obtain⟨y',t2,e2,hy,VB⟩:=Fj.inv;have e3:t2=[]:=by have:=VB.len;simpa using this.symm
      subst e3;subst e2;have e4:args'= #[x',y']:=acG
      subst e4;cases hx with
      |map _ rd szd BS=>
      cases hy with
      |map _ rs szs hrs=>
      obtain⟨HK,es',pl,CR,JR,hval,hst,Hh,ja,hlen⟩:=Am hw hs mr hrs;obtain⟨_,_,_,_,_,_,_,apc,aft,_⟩:=Am hw hd Xw BS
      obtain⟨bld,agC⟩:∃blk,st.m.g bd=some blk:=by
       cases hb:st.m.g bd with
       |some x=>exact⟨x,rfl⟩
       |none=>rw[hb]at hd;exact hd.elim
      obtain⟨bls,agB⟩:∃blk,st.m.g bs=some blk:=by
       cases hb:st.m.g bs with
       |some x=>exact⟨x,rfl⟩
       |none=>rw[hb]at hs;exact hs.elim
      have anH:rd≠rs:=λe=>ij (hw.inj bd bs _ _ rd szd szs agC agB BS (by rw[e];exact hrs))
      have CQ:∀b blk r sz,st.m.g b=some blk->ρ b=some (r,sz)->r<w.heap.size:=λb blk r sz h1 h2=>by
       obtain⟨o,g1,_⟩:=hw.at' b blk r sz h1 h2;exact(aFB.1 g1).1
      have azi:=CQ _ _ _ _ agC BS;have anD:=CQ _ _ _ _ agB hrs;have hA0:=br.YZ hw hd Xw BS
      have U6:∀(k:Nat) (cur:qB),w.heap.size<=k->∀b blk sz,(st.set bd cur).m.g b=some blk->ρ b≠some (k,sz):=λk cur hk b blk sz h1 h2=>by
       by_cases e:b=bd
       .subst e;rw[BS]at h2;cases h2;omega
       .simp only[St.set,PT.dv _ _ _ _ e]at h1;have:=CQ b blk k sz h1 h2;omega
      have hsz:∀w:World,(Go.sizeOf et).run P w=.ok n w:=λw=>by rw[ie Zv,htn]
      have rounds:∀(m:Nat) (a:Act) (w1:World),Wo ρ st w bd rd rs w.heap.size HK es' pl (gT s) (gT d) m a w1->
       Code.rounds P (.seq (.region 1 R1 false) (.seq (.cond (.tmp 9) .skip (.exit 0)) (.block 1 (.seq (.region 2 R2 false) (.region 3 R3 false)))))
        (Exit.inBlock 0 (bodyPost P fn λe w'=>∃v' ρ',e=.returned v'/\VR ρ' .undef v'/\br ρ st w ρ' ⟨st.m.put bd (some (.lmap (kO d s))),st.nx⟩ w')) m a w1:=by
       intro m
       induction m with
       |zero=>intro a w1 hI;obtain⟨_,_,_,_,_,_,_,_,_,_,_,hlt⟩:=hI.out;omega
       |succ m ih=>
        intro a w1 hI;obtain⟨cur,q,seen,c0,hA,hzc,Rc,hqS,Xd,hit,EM,hlt⟩:=hI.out;rw[rounds_succ];apply wp_seq;apply wp_region_list;rw[hR1];rcases run_next_at (P:=P) w1 o2.type w.heap.size rs HK c0 seen es'.toArray HK hit hI.src (λx hx=>hst.1 x hx) EM with⟨hz,jZ⟩|⟨e,he,w1',Zp,jZ⟩
        .refine oT (hg o2 uG) (FY x2 (by rw[hI.iter];exact jZ)) ?_;rw[y2];obtain⟨a1,ea1,s1,f1,v1,k1⟩:=gj (v:=.tuple #[.bool false]) hI.size (show 8<16 from u7);rw[ea1];refine oT (hg o3 uG) (oX (v:=.bool false) x3 v1 rfl) ?_;rw[y3];obtain⟨a2,ea2,s2,f2,v2,k2⟩:=gj (v:=.bool false) s1 (show 9<16 from u7);rw[ea2];refine wpList_nil ?_;apply wp_seq;refine wp_cond_false v2 (wp_exit ?_);refine⟨by rw[f2,f1];exact hI.defers,.tuple #[],?_,.tuple #[],ρ,rfl,.undef,?_⟩
         .unfold results;rw[JO,Array.mapM_eq_mapM_toList]
          rfl
         .have eU:=all_seen es'.toArray seen hz
          have hSq:∀y∈gT s,y∈q:=by
           intro y hy;rw[gw]at hy;obtain⟨e,he,rfl⟩:=aFq.1 hy;obtain⟨i,hi,rfl⟩:=aFP (JR.mem_iff.2 he);have yz:i<es'.length:=qE
           exact Xd i pl[i] es'[i] (aES hi) (aES yz) (eU _ uG)
          obtain⟨o,g1,g2⟩:=hA.wr.at' bd (.lmap cur) rd szd (by simp[St.set,PT.dn]) BS;cases g2 with
          |lmap _ l abh es2 hp hi hn Ou hl hv=>
           have LF:cur.Perm (kO d s):=by
            refine(List.perm_ext_iff_of_nodup (uN hn) (uN (wD aft ja))).2 λx=>?_;rw[Rc x,vq d s x];constructor
            .rintro(h|⟨h1,h2⟩)
             .exact .inl (hqS x h)
             .exact .inr ⟨h1,λy hy=>h2 y (hSq y hy)⟩
            .rintro(h|⟨h1,h2⟩)
             .exact .inl (hSq x h)
             .exact .inr ⟨h1,λy hy=>h2 y (hqS y hy)⟩
           refine br.PB (x:=.lmap cur) (hA.trans ?_)
           exact br.set (blk0:=.lmap cur) hA.wr (by simp[St.set,PT.dn]) BS g1
            (.lmap _ l abh es2 (hp.trans LF) (GA apc Hh) (wD aft ja) Ou hl hv szd) (λ_ _=>rfl) rfl rfl rfl
        .obtain⟨TB,hns⟩:=mem_left he;obtain⟨i,hi,hei⟩:=aFP (show e∈es' from by simpa using TB);have Ff:i<pl.length:=by omega
         obtain⟨hvk,hvv⟩:=hval i pl[i] e (aES Ff) (by rw[<-hei];exact aES hi);have Ip:=JR.mem_iff.1 (aFj Ff);obtain⟨ka,hka⟩:=Hh _ Ip;have It:e.key=.int .i64 ka:=by rw[hka]at hvk;exact vC hvk
         obtain⟨sg,U8,azc,kz⟩:=aeQ _ Ip
         obtain⟨l',Is,hVl⟩:∃l':List Value,e.val=.agg l'.toArray/\eK ρ sg l':=by
          have Zr:=hvv;rw[U8]at Zr;generalize e.val=ev at Zr;cases Zr with
          |agg _ l hl hh=>exact⟨l,rfl,eK.mk hl hh⟩
         have hll:l'.toArray.size=n:=by
          have:=hVl.len;simp;omega
         refine oT (hg o2 uG) (FY x2 (by rw[hI.iter];exact jZ)) ?_;rw[y2];obtain⟨a1,ea1,s1,f1,v1,k1⟩:=gj (v:=.tuple #[.bool true,e.key,e.val]) hI.size (show 8<16 from u7);rw[ea1];refine oT (hg o3 uG) (oX (v:=.bool true) x3 v1 rfl) ?_;rw[y3];obtain⟨a2,ea2,s2,f2,v2,k2⟩:=gj (v:=.bool true) s1 (show 9<16 from u7);rw[ea2];refine wpList_nil ?_;apply wp_seq;refine wp_cond_true v2 (wp_skip ?_);apply wp_block;apply wp_seq;apply wp_region_list;rw[hR2];generalize Lv:setBlock w1' w.heap.size (.mapIter (some rs) HK (seen.push e.born) HK)=w2;have Vr:w1'.heap=w1.heap/\w1'.os=w1.os/\w1'.output=w1.output:=by rcases Zp with rfl|rfl<;>exact⟨rfl,rfl,rfl⟩
         have ayZ:=hA.size;have apa:=(aFB.1 hit).1;have h2s:w2.heap.size=w1.heap.size:=by rw[<-Lv];simp[setBlock,Vr.1]
         have h2o:∀r,r≠w.heap.size->w2.heap[r]?=w1.heap[r]?:=λr hr=>by rw[<-Lv];simp only[setBlock,Vr.1];rw[aFV (λe=>hr e.symm)]
         have h2i:w2.heap[w.heap.size]?=some (.mapIter (some rs) HK (seen.push e.born) HK):=by rw[<-Lv];simp[setBlock,Vr.1,apa]
         have aqJ:w2.os=w.os:=by rw[<-Lv];exact Vr.2.1.trans hA.os
         have ahf:w2.output=w.output:=by rw[<-Lv];exact Vr.2.2.trans hA.output
         have RS:=hA.unk w.heap.size (aEQ _) (U6 _ _ (aEQ _)) qE (λr _ hr=>h2o r hr) (aqJ.trans hA.os.symm) (ahf.trans hA.output.symm);have XV:w2.heap[rs]?=some (.map es'.toArray HK):=by rw[h2o rs qE];exact hI.src
         have i2:a2.eval (.tmp 7)=.pointer (some ⟨w.heap.size,0,none⟩):=by rw[k2 7 u7,k1 7 u7];exact hI.iter
         refine oT (hg o4 uG) (MI x4 (by rw[i2];exact run_entry_at w2 w.heap.size rs HK seen es'.toArray HK e h2i XV TB hst.2.1)) ?_;rw[y4];obtain⟨a3,ea3,s3,f3,v3,k3⟩:=gj (v:=.tuple #[e.key,e.val]) s2 (show 10<16 from u7);rw[ea3];refine oT (hg o5 uG) (oX (v:=e.key) x5 v3 rfl) ?_;rw[y5];obtain⟨a4,ea4,s4,f4,v4,k4⟩:=gj (v:=e.key) s3 (show 11<16 from u7);rw[ea4];refine oT (hg o6 uG) (oX (v:=e.val) x6 (by rw[k4 10 u7];exact v3) rfl) ?_;rw[y6];obtain⟨a5,ea5,s5,f5,v5,k5⟩:=gj (v:=e.val) s4 (show 12<16 from u7);rw[ea5];refine oT (hg o7 uG) (Jg x7 Zv htz) ?_;rw[y7];obtain⟨a6,ea6,s6,f6,v6,k6⟩:=gj (v:=.pointer (some ⟨w2.heap.size,0,none⟩)) s5 (show 5<16 from u7);rw[ea6];generalize Ts:({w2 with heap:=w2.heap.push (.cells tz.cells et)}:World)=w3;have h3s:w3.heap.size=w2.heap.size+1:=by rw[<-Ts];simp
         have h3o:∀r,r<w2.heap.size->w3.heap[r]?=w2.heap[r]?:=λr hr=>by rw[<-Ts];show(w2.heap.push _)[r]?=_;rw[aHm,aET qE]
         have h3n:w3.heap[w2.heap.size]?=some (.cells tz.cells et (0,0)):=by rw[<-Ts];show(w2.heap.push _)[_]?=_;simp
         have hA3:=RS.unk w2.heap.size RS.size (U6 _ _ RS.size) qE (λr hr _=>h3o r hr) (by rw[<-Ts]) (by rw[<-Ts]);refine oT (hg o8 uG) (Jf x8) ?_;rw[y8,show a6.eval (.tmp 11)=e.key from by rw[k6 11 u7,k5 11 u7];exact v4];obtain⟨a7,ea7,s7,f7,v7,k7⟩:=gj (v:=e.key) s6 (show 4<16 from u7);rw[ea7];refine Wt (hg o9 uG) (Je (l:=l'.toArray) (n:=n) x9 (by rw[k7 5 u7];exact v6) (by rw[k7 12 u7,k6 12 u7,v5,Is]) (hsz w3) hll h3n htc (λv hv=>?_)) ?_
         .obtain⟨j,hj,rfl⟩:=aFP hv;have hj2:j<l'.length:=by simpa using hj
          have hj3:j<sg.length:=by rw[hVl.len];exact hj2
          exact nw (hVl.at' j sg[j] _ uG uG) (nv sg kz _ (aFj _))
         rw[y9];generalize hw4:w3.setRow w2.heap.size l'.toArray=w4;have h4s:w4.heap.size=w3.heap.size:=by rw[<-hw4];exact oW _ _ _
         have h4o:∀r,r≠w2.heap.size->w4.heap[r]?=w3.heap[r]?:=λr hr=>by rw[<-hw4];exact nt _ _ _ _ hr
         have h4n:w4.heap[w2.heap.size]?=some (.cells l'.toArray et (0,0)):=by rw[<-hw4];exact setRow_heap _ _ _ _ _ _ h3n
         have hA4:=hA3.unk w2.heap.size RS.size (U6 _ _ RS.size) qE (λr _ hr=>h4o r hr) (by rw[<-hw4];rfl) (by rw[<-hw4];rfl);refine wpList_nil ?_;apply wp_region_list;rw[hR3];have a7e:∀k,a7.put none undef=a7\/k=0:=λ_=>.inl rfl;have arV:a7.put none undef=a7:=rfl;rw[arV];have e0:a7.eval (.tmp 0)=.map (some rd):=by rw[k7 0 u7,k6 0 u7,k5 0 u7,k4 0 u7,k3 0 u7,k2 0 u7,k1 0 u7];exact hI.dst
         have e7:a7.eval (.tmp 7)=.pointer (some ⟨w.heap.size,0,none⟩):=by rw[k7 7 u7,k6 7 u7,k5 7 u7,k4 7 u7,k3 7 u7];exact i2
         have e5:a7.eval (.tmp 5)=.pointer (some ⟨w2.heap.size,0,none⟩):=by rw[k7 5 u7];exact v6
         refine oT (hg p0 uG) (zQ z0) ?_;rw[u0,e0];obtain⟨a8,ea8,s8,f8,v8,k8⟩:=gj (v:=.map (some rd)) s7 (show 13<16 from u7);rw[ea8];refine oT (hg p1 uG) (zQ z1) ?_;rw[u1,show a8.eval (.tmp 4)=e.key from by rw[k8 4 u7];exact v7];obtain⟨a9,ea9,s9,f9,v9,k9⟩:=gj (v:=e.key) s8 (show 14<16 from u7);rw[ea9];refine oT (hg p2 uG) (MH z2 (by rw[k9 5 u7,k8 5 u7];exact e5) (hsz w4) hll (aqo w4) h4n) ?_;rw[u2];obtain⟨aa,eaa,sa,fa,va,kka⟩:=gj (v:=.agg l'.toArray) s9 (show 15<16 from u7);rw[eaa]
         have apb:rL .int (.int .i64 ka)=true:=by
          unfold rL;have:lO .int (.int .i64 ka) (.int .i64 ka)=some (zeq ka ka):=rfl;rw[this,(zb ka ka).2 rfl];rfl
         obtain⟨_,es5,asa,hr5,hA5⟩:=Cx (TZ bd ka (.agg sg) cur (st.set bd (.lmap cur))) hA4.wr (by simp[St.set,PT.dn]) BS (k':=e.key) (y':=.agg l'.toArray) (by rw[<-hka];exact hvk) (by rw[<-U8,<-Is];exact hvv) aeU XI hd0
          (λee=>mI apb XI hd0 LP (by rw[<-hka];exact hvk) ee)
         refine Wt (hg p3 uG) (Jd z3 (by rw[kka 13 u7,kka 14 u7,va,k9 13 u7,v8,v9];exact hr5)) ?_;rw[u3,show aa.put none undef=aa from rfl];refine wpList_nil ?_;apply ih;generalize hw5:({w4 with heap:=w4.heap.setIfInBounds rd (.map es5.toArray asa)}:World)=w5;rw[hw5]at hA5;have h5o:∀r,r≠rd->w5.heap[r]?=w4.heap[r]?:=λr hr=>by rw[<-hw5];show(w4.heap.setIfInBounds rd _)[r]?=_;rw[aFV (λe=>hr e.symm)]
         have RC:∀r,r≠rd->r<w2.heap.size->w5.heap[r]?=w2.heap[r]?:=λr h1 h2=>by rw[h5o r h1,h4o r qE,h3o r h2]
         refine⟨⟨Mt ka (.agg sg) cur,(pl[i].1,pl[i].2.1,0)::q,seen.push e.born,HK,(hA4.trans hA5).PB,?_,?_,?_,?_,?_,aEQ _,?_⟩,?_,sa,?_,?_,?_⟩
         .exact(FA hzc).1
         .intro x;have hS:((pl[i].1,pl[i].2.1,0):eS)∈gT s:=by rw[gw];exact aFq.2 ⟨_,Ip,rfl⟩
          have Lx:∀x∈gT s,x.1=pl[i].1->x=(pl[i].1,pl[i].2.1,0):=λx hx Zo=>M0 (oR ja) hx hS Zo;rw[(FA hzc).2 x,Rc x,<-U8,<-hka];constructor
          .rintro(rfl|⟨h1|⟨h1,h2⟩,h3⟩)
           .exact .inl (aFT ..)
           .exact .inl (aFE _ h1)
           .refine .inr ⟨h1,λy hy=>?_⟩;rcases aEP.1 hy with rfl|hy
            .exact λe=>h3 e.symm
            .exact h2 y hy
          .rintro(h1|⟨h1,h2⟩)
           .rcases aEP.1 h1 with rfl|h1
            .exact .inl rfl
            .by_cases hx:x.1=pl[i].1
             .exact .inl (Lx x (hqS x h1) hx)
             .exact .inr ⟨.inl h1,hx⟩
           .exact .inr ⟨.inr ⟨h1,λy hy=>h2 y (aFE _ hy)⟩,λe=>h2 _ (aFT ..) e.symm⟩
         .intro y hy;rcases aEP.1 hy with rfl|hy
          .rw[gw];exact aFq.2 ⟨_,Ip,rfl⟩
          .exact hqS y hy
         .intro j e1 e1' g1 g2 g3;rw[contains_push,aFO]at g3;rcases g3 with g3|g3
          .exact aFE _ (Xd j e1 e1' g1 g2 g3)
          .have hb:=beq_iff_eq.1 g3;have hj:=(aFb.1 g2).1;have hje:es'[j]=e1':=(aFb.1 g2).2
           have JX:j=i:=by
            have G0:=hst.2.1;rw[List.toList_toArray]at G0;have:=(List.getElem_inj (i:=j) (j:=i) (h₀:=acw) (h₁:=O1) G0).1 (by simp[hje,hei,hb]);exact this
           subst JX;have:e1=pl[j]:=by rw[aES Ff]at g1;exact(aHj g1).symm
           rw[this];exact aFT ..
         .rw[RC _ qE qE];exact h2i
         .have:=left_shrinks es'.toArray seen e he;omega
         .rw[RC rs (λe=>anH e.symm) qE];exact XV
         .rw[kka 0 u7,k9 0 u7,k8 0 u7];exact e0
         .rw[kka 7 u7,k9 7 u7,k8 7 u7];exact e7
         .rw[fa,f9,f8,f7,f6,f5,f4,f3,f2,f1];exact hI.defers
      refine calls_of_wp hfn agx ?_;apply wp_seq;apply wp_region_list;rw[hR0];generalize ha0:({tmps:= #[Value.map (some rd),Value.map (some rs)]++Array.replicate (fn.ntmps-(#[Value.map (some rd),Value.map (some rs)]:Array Value).size) undef,defers:=[]}:Act)=a0;have s0:16<=a0.tmps.size:=by rw[<-ha0];simp;omega
      have g0:a0.eval (.tmp 0)=.map (some rd):=by rw[<-ha0];simp[Act.eval,aHu]
      have g1:a0.eval (.tmp 1)=.map (some rs):=by rw[<-ha0];simp[Act.eval,aHu]
      refine oT (hg o0 uG) (zQ x0) ?_;rw[y0,g1];obtain⟨a1,ea1,s1,f1,v1,k1⟩:=gj (v:=.map (some rs)) s0 (show 6<16 from u7);rw[ea1];refine oT (hg o1 uG) (MG x1 (by rw[v1];exact run_range_map w t kt et rs es'.toArray HK aeU CR)) ?_;rw[y1];obtain⟨a2,ea2,s2,f2,v2,k2⟩:=gj (v:=.pointer (some ⟨w.heap.size,0,none⟩)) s1 (show 7<16 from u7);rw[ea2];refine wpList_nil ?_;apply wp_block;refine wp_loop_rounds ((leftOf es'.toArray #[]).size+1) (rounds _ _ _ ⟨⟨gT d,[], #[],HK,?_,?_,?_,?_,?_,heap_alloc_new _ _,aEQ _,qE⟩,?_,s2,?_,v2,?_⟩)
      .exact hA0.unk w.heap.size (aEQ _) (U6 _ _ (aEQ _)) (by show _<=(w.heap.push _).size;simp) (λr hr _=>heap_alloc_old w _ hr) rfl rfl
      .intro x hx;rw[gw]at hx;obtain⟨e,_,rfl⟩:=aFq.1 hx;rfl
      .intro x;simp
      .intro y hy;cases hy
      .intro i e e' _ _ hc;simp at hc
      .rw[heap_alloc_old w _ anD];exact CR
      .rw[k2 0 u7,k1 0 u7];exact g0
      .rw[f2,f1,<-ha0]
  .cases h
 .cases h
end
end
