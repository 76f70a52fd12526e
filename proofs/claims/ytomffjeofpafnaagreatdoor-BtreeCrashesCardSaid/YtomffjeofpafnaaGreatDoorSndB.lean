import Derived.Test.YtomffjeofpafnaaGreatDoorSndA
import Derived.Maps.RangeRun
import Derived.Laws.IdiomRangeMap
namespace Lim
open Go
noncomputable section
set_option linter.defProp false
section
variable {es:List eH}{d:Nat}{s:List eH}{v:Value}{r sz:Nat}{jO:St}{w0 w':World}{rest:List Oper}{x:Operand}{t:TypeId}{p:Operand}{n:Nat}{l:Array Value}{ty:TypeId}
open Go.ChangeMaps (setBlock)
def qK (es:List eH):Prop:=∀e∈es,∃n:Int,e.1=.int .i64 n
def fX (es:List eH):gH es=es.map λe=>(e.1,e.2.1,0):=rfl
def iq.ints (h:iq es):qK es:=λe he=>by obtain⟨a,h1,_⟩:=h.1 e he;exact⟨a,h1⟩
def iq.nodup (h:iq es):(es.map (·.1)).Nodup:=by
 have hn:=h.2.1;unfold iX at hn;unfold List.Nodup at hn⊢;rw[aFx]at hn⊢;exact hn.imp λvZ e=>vZ (by rw[e])
def uw (h:qK es):qK (gH es):=by
 rw[fX];intro e he;obtain⟨x,hx,rfl⟩:=aDR.1 he;exact h x hx
def oB (h:(es.map (·.1)).Nodup):((gH es).map (·.1)).Nodup:=by
 rw[fX,aFN];exact h
def uF (d s:List eH)(x:eH):x∈kJ d s↔x∈gH s\/(x∈gH d/\∀e∈gH s,e.1≠x.1):=by
 unfold kJ;rw[aDB,aFk]
 have hs:∀k:CV,(∃y∈s,y.1=k)↔∃y∈gH s,y.1=k:=by
  intro k;rw[fX];constructor
  .rintro⟨y,h1,h2⟩;exact⟨_,aDR.2 ⟨y,h1,rfl⟩,h2⟩
  .rintro⟨y,h1,h2⟩;obtain⟨z,hz,rfl⟩:=aDR.1 h1;exact⟨z,hz,h2⟩
 constructor
 .rintro(⟨h1,h2⟩|h)
  .refine .inr ⟨h1,λe he PK=>?_⟩;have h2:¬∃y∈s,y.1=x.1:=by simpa using h2
   exact h2 ((hs _).2 ⟨e,he,PK⟩)
  .exact .inl h
 .rintro(h|⟨h1,h2⟩)
  .exact .inr h
  .refine .inl ⟨h1,?_⟩;simp only[aEJ];intro hh;obtain⟨y,hy,hyx⟩:=(hs _).1 hh;exact h2 y hy hyx
def FJ {d:List eH}(hd:qK d)(hs:qK s):qK (kJ d s):=λx hx=>by
 rcases(uF d s x).1 hx with h|⟨h,_⟩
 .exact uw hs x h
 .exact uw hd x h
def vS {d:List eH}(hd:(d.map (·.1)).Nodup)(hs:(s.map (·.1)).Nodup):((kJ d s).map (·.1)).Nodup:=by
 have h1:=oB hs;have h2:=oB hd;unfold kJ;rw[aEC,aEn];refine⟨h2.sublist (List.filter_sublist.map _),h1,?_⟩;intro a ha b hb e;subst e;obtain⟨x,hx,rfl⟩:=aDR.1 ha;obtain⟨y,hy,hyx⟩:=aDR.1 hb;have XZ:x∈kJ d s:=by unfold kJ;exact aEV _ hx
 rcases(uF d s x).1 XZ with h|⟨_,h⟩
 .have h3:=(aFk.1 hx).2;have h3:¬∃y∈s,y.1=x.1:=by simpa using h3
  apply h3;rw[fX]at h;obtain⟨z,hz,e⟩:=aDR.1 h;exact⟨z,hz,by rw[<-e]⟩
 .exact h y hy hyx
structure Rn (P:Program)(f:Nat)(n:Nat):Prop where
 out:∃(fn:Func) (t kt et:TypeId) (d:Nat) (R0:Array Oper) (R1 R2 R3:Array Oper) (o0 o1 o2 o3 o4 o5 o6 o7 o8 o9 p0 p1 p2 p3:Oper),P.funcs[f]?=some fn/\Lim.gR P f=true/\fn.results= #[]/\16<=fn.ntmps/\
  fn.body=some (Code.seq (.region 0 R0 false) (.block 0 (.loop (.seq (.region 1 R1 false) (.seq (.cond (.tmp 9) .skip (.exit 0)) (.block 1 (.seq (.region 2 R2 false) (.region 3 R3 false))))))))/\
  R0.toList=[o0,o1]/\R1.toList=[o2,o3]/\R2.toList=[o4,o5,o6,o7,o8,o9]/\R3.toList=[p0,p1,p2,p3]/\
  (∀o∈[o0,o1,o2,o3,o4,o5,o6,o7,o8,o9,p0,p1,p2,p3],o.guard=none)/\
  (o0.op=.move (.tmp 1)/\o0.dst=some 6)/\(o1.op=.range t (.tmp 6)/\o1.dst=some 7)/\(o2.op=.next (.tmp 7) false/\o2.dst=some 8)/\(o3.op=.extract (.tmp 8) 0/\o3.dst=some 9)/\
  (o4.op=.entry (.tmp 7)/\o4.dst=some 10)/\(o5.op=.extract (.tmp 10) 0/\o5.dst=some 11)/\(o6.op=.extract (.tmp 10) 1/\o6.dst=some 12)/\(o7.op=.alloc et/\o7.dst=some 5)/\(o8.op=.assign (.tmp 11)/\o8.dst=some 4)/\
  (o9.op=.store et (.tmp 5) (.tmp 12)/\o9.dst=none)/\(p0.op=.move (.tmp 0)/\p0.dst=some 13)/\(p1.op=.move (.tmp 4)/\p1.dst=some 14)/\(p2.op=.load et (.tmp 5)/\p2.dst=some 15)/\(p3.op=.mapUpdate t (.tmp 13) (.tmp 14) (.tmp 15)/\p3.dst=none)/\
  P.underlying t=some (.map kt et)/\fQ P d kt=some .int/\d<10000/\ic 40 .int=true/\(∃i z,P.info? et=some i/\i.zero=some z/\i.size=n/\z.cells.size=n)/\(∀w,(isAgg et).run P w=.ok true w)
def Bk {a:Act}(h:d<a.tmps.size):(a.put (some d) v).eval (.tmp d)=v:=by simp[Act.eval,Act.put,h]
def GQ {a:Act}{k:Nat}(h:d≠k):(a.put (some d) v).eval (.tmp k)=a.eval (.tmp k):=by
 simp only[Act.eval,Act.put];simp[aEy h]
section
variable {P:Program} {ρ:Ren} {st:St} {w:World}
def zE {b:Nat}(hw:WR ρ st w)(he:nu (st.m.g b) es)(hk:iq es)(hr:ρ b=some (r,sz)):
 ∃(clock:Nat) (es':List MapEntry) (l:List eH),w.heap[r]?=some (.map es'.toArray clock)/\l.Perm es/\(∀(i:Nat) (e:eH) (e':MapEntry),l[i]?=some e->es'[i]?=some e'->VR ρ e.1 e'.key/\VR ρ e.2.1 e'.val)/\
  Go.MapKept.Stamped es'.toArray clock/\qK es/\(es.map (·.1)).Nodup/\l.length=es'.length:=by
 obtain⟨es',clock,pl,h1,h2,h3,h4,h5,h6⟩:=KH hw he hk hr;refine⟨clock,es',pl,h1,h2,h4,⟨λx hx=>h5 x WL,by simpa using h6,?_⟩,hk.ints,hk.nodup,h3⟩;show((es'.toArray.toList).map (·.key)).Nodup;rw[List.toList_toArray];have hn:=(h2.map (·.1)).nodup_iff.2 hk.nodup;unfold List.Nodup at hn⊢;rw[aFx]at hn⊢;rw[aFI]at hn⊢;intro i j hi hj I8 e;refine hn i j pX pX I8 ?_;obtain⟨a,ha⟩:=hk.ints pl[i] (h2.mem_iff.1 (aDL pX));obtain⟨b,hb⟩:=hk.ints pl[j] (h2.mem_iff.1 (aDL pX));have v1:=(h4 i pl[i] es'[i] (aDu pX) (aDu hi)).1;have v2:=(h4 j pl[j] es'[j] (aDu pX) (aDu hj)).1;rw[ha]at v1;rw[hb]at v2;have w1:=uL v1;have w2:=uL v2;rw[w1,w2]at e;cases e;rw[ha,hb]
def bh.XE {b:Nat}(hw:WR ρ st w)(he:nu (st.m.g b) es)(hk:iq es)(hr:ρ b=some (r,sz)):bh ρ st w ρ (st.set b (.lmap (gH es))) w:=by
 obtain⟨clock,es',l,h1,h2,h3,h4,h5,h6,h7⟩:=zE hw he hk hr
 obtain⟨blk,Zj⟩:∃blk,st.m.g b=some blk:=by
  cases hb:st.m.g b with
  |some x=>exact⟨x,rfl⟩
  |none=>rw[hb]at he;exact he.elim
 refine bh.set hw Zj hr h1 (.lmap (gH es) (gH l) clock es' (by rw[fX,fX];exact h2.map _) (uw h5) (oB h6) h4 (by rw[fX];simp[h7]) (λi e e' g1 g2=>?_) sz) (λ_ _=>rfl) rfl rfl rfl;rw[fX,aEf]at g1;cases hl:l[i]? with
 |none=>rw[hl]at g1;simp at g1
 |some x=>rw[hl]at g1;simp at g1;subst g1;exact h3 i x e' hl g2
def bh.unk {ρ0:Ren}{M:St}(h:bh ρ0 jO w0 ρ M w)(it:Nat)(hi:w0.heap.size<=it)(hu:∀b blk sz,M.m.g b=some blk->ρ b≠some (it,sz))(hs:w.heap.size<=w'.heap.size)(hk:∀r,r<w.heap.size->r≠it->w'.heap[r]?=w.heap[r]?)(hos:w'.os=w.os)(Pn:w'.output=w.output):bh ρ0 jO w0 ρ M w' where
 wr:=⟨λb blk r sz h1 h2=>by
    obtain⟨o,e2,e3⟩:=h.wr.at' b blk r sz h1 h2;exact⟨o,by rw[hk r (aEh.1 e2).1 (λe=>hu b blk sz h1 (by rw[h2,e]))];exact e2,e3⟩,h.wr.inj,h.wr.fresh⟩
 ext:=h.ext
 KJ:=h.KJ
 nx:=h.nx
 origin:=h.origin
 kept:=λr hr hn=>by
  rw[hk r (aDM hr h.size) pX];exact h.kept r hr hn
 size:=aEB h.size hs
 os:=hos.trans h.os
 output:=Pn.trans h.output
end
section
variable {P:Program} {ops:Array Oper} {Q:Exit->Act->World->Prop}
def oC {o:Oper}{a:Act}{w:World}(hg:o.guard=none)(hr:(execOp a.eval o).run P w=.ok (.value v) w')(h:wpList P ops Q rest (a.put o.dst v) w'):wpList P ops Q (o::rest) a w:=
 wpList_plain hg λK hK=>by unfold Oper.wp;rw[hr];exact hK _ _ h
def UM {o:Oper}{a:Act}{w:World}(hg:o.guard=none)(hr:(execOp a.eval o).run P w=.ok .skip w')(h:wpList P ops Q rest (a.put o.dst undef) w'):wpList P ops Q (o::rest) a w:=
 wpList_plain hg λK hK=>by unfold Oper.wp;rw[hr];exact hK _ _ h
end
section
variable {P:Program} {a:Act} {w:World} {o:Oper}
def zb (ho:o.op=.move x):(execOp a.eval o).run P w=.ok (.value (a.eval x)) w:=by unfold execOp;rw[ho];rfl
def Ih (ho:o.op=.assign x):(execOp a.eval o).run P w=.ok (.value (a.eval x)) w:=by unfold execOp;rw[ho];rfl
def oI {i:Nat}{vs:Array Value}(ho:o.op=.extract x i)(hx:a.eval x=.tuple vs)(hv:vs[i]?=some v):(execOp a.eval o).run P w=.ok (.value v) w:=by
 unfold execOp;rw[ho];dsimp only;rw[hx];simp[Instr.extract,hv]
def E0 (ho:o.op=.next x false)(h:(Instr.next (a.eval x) false o.type).run P w=.ok v w'):(execOp a.eval o).run P w=.ok (.value v) w':=by
 unfold execOp;rw[ho];simp[h]
def Lu (ho:o.op=.entry x)(h:(Instr.entry (a.eval x)).run P w=.ok v w'):(execOp a.eval o).run P w=.ok (.value v) w':=by
 unfold execOp;rw[ho];simp[h]
def Lp (ho:o.op=.range t x)(h:(Instr.range t (a.eval x)).run P w=.ok v w'):(execOp a.eval o).run P w=.ok (.value v) w':=by
 unfold execOp;rw[ho];simp[h]
def Ie {m k:Operand}(ho:o.op=.mapUpdate t m k x)(h:(Instr.mapUpdate t (a.eval m) (a.eval k) (a.eval x)).run P w=.ok () w'):(execOp a.eval o).run P w=.ok .skip w':=by
 unfold execOp;rw[ho];simp[h]
def Ii {i:TypeInfo}{z:Value}(ho:o.op=.alloc t)(hi:P.info? t=some i)(hz:i.zero=some z):
 (execOp a.eval o).run P w=.ok (.value (.pointer (some ⟨w.heap.size,0,none⟩))) {w with heap:=w.heap.push (.cells z.cells t)}:=by
 unfold execOp;rw[ho];simp[Instr.alloc,zeroValue,typeInfo,hi,hz,newVar]
 rfl
def Ig {c:Array Value}(ho:o.op=.store t p x)(hp:a.eval p=.pointer (some ⟨r,0,none⟩))(hx:a.eval x=.agg l)(hn:(Go.sizeOf t).run P w=.ok n w)(hl:l.size=n)
 (hr:w.heap[r]?=some (.cells c ty (0,0))) (hc:c.size=n) (h1:∀v∈l.toList,v.oneCell'=true):
 (execOp a.eval o).run P w=.ok .skip (w.setRow r l):=by
 unfold execOp;rw[ho];have h:=gu P r 0 ty 0 0 l.toList 0 c w hr pX AI h1
 have e:(c.toList.take (0+0)++l.toList++c.toList.drop (0+0+l.toList.length)).toArray=l:=by
  rw[aEb,aFj,aDV,aEa AI,aEs]
 rw[e]at h;have Nb:(Value.agg l).cells=l:=rfl;simp[hp,hx,Instr.storeAt,Instr.sureAddr,storeVar,hn,Nb,hl,h]
def Lq (ho:o.op=.load t p)(hp:a.eval p=.pointer (some ⟨r,0,none⟩))(hn:(Go.sizeOf t).run P w=.ok n w)(hl:l.size=n)(ht:(isAgg t).run P w=.ok true w)
 (hr:w.heap[r]?=some (.cells l ty (0,0))):(execOp a.eval o).run P w=.ok (.value (.agg l)) w:=by
 unfold execOp;rw[ho];have h:=dW P w r 0 n l ty (0,0) hr pX
 have e:((l.toList.drop 0).take n).toArray=l:=by
  rw[aDX,aDA AI]
 rw[e]at h;simp[hp,Instr.loadAt,Instr.sureAddr,loadVar,ht,hn,h]
end
def KY (a:Int)(x:CV)(es:List eH):List eH:=match vU a es with|some _=>qu a x es|none=>es++[(.int .i64 a,x,0)]
def Sg (bd:Nat)(a:Int)(x:CV)(es:List eH)(st:St):zq .int bd es (.int .i64 a) x st=.ok .undef (st.set bd (.lmap (KY a x es))):=by
 unfold zq KY;have:IN .int (.int .i64 a)=some a:=rfl;rw[this];dsimp only;cases vU a es with
 |some u=>rfl
 |none=>rfl
def EJ {a:Int}{x:CV}(hz:∀e∈es,e.2.2=0):(∀y∈KY a x es,y.2.2=0)/\∀y,y∈KY a x es↔y=(.int .i64 a,x,0)\/(y∈es/\y.1≠ .int .i64 a):=by
 unfold KY;cases hg:vU a es with
 |none=>
  have qY:=ta hg;refine⟨λy hy=>?_,λy=>?_⟩
  .rcases aDB.1 hy with h|h
   .exact hz y h
   .rw[aEE.1 h]
  .constructor
   .intro h;rcases aDB.1 h with h|h
    .exact .inr ⟨h,qY y h⟩
    .exact .inl (aEE.1 h)
   .rintro(rfl|⟨h,_⟩)
    .exact aDB.2 (.inr (aEE.2 rfl))
    .exact aDB.2 (.inl h)
 |some u=>
  obtain⟨e0,h1,h2,_⟩:=wX hg
  have hm:∀y,y∈qu a x es↔y=(.int .i64 a,x,0)\/(y∈es/\y.1≠ .int .i64 a):=by
   intro y;rw[nV,aDR];constructor
   .rintro⟨e,he,rfl⟩
    split
    .rename_i hi;have h3:=oN.1 hi;exact .inl (by rw[h3,hz e he])
    .rename_i hi;exact .inr ⟨he,λhh=>hi (oN.2 hh)⟩
   .rintro(rfl|⟨h,hn⟩)
    .refine⟨e0,h1,?_⟩;rw[aDy (oN.2 h2),h2,hz e0 h1]
    .exact⟨y,h,by rw[aDv (λhh=>hn (oN.1 hh))]⟩
  refine⟨λy hy=>?_,hm⟩;rcases(hm y).1 hy with rfl|⟨h,_⟩
  .rfl
  .exact hz y h
def uc (h:(es.map (·.1)).Nodup):es.Nodup:=by
 unfold List.Nodup at h⊢;rw[aFx]at h;exact h.imp λvZ e=>vZ (by rw[e])
def LP (h:(es.map (·.1)).Nodup){x y:eH}(hx:x∈es)(hy:y∈es)(he:x.1=y.1):x=y:=by
 obtain⟨i,hi,rfl⟩:=aEv hx;obtain⟨j,hj,rfl⟩:=aEv hy;have:=(List.getElem_inj (i:=i) (j:=j) (h₀:=Wv) (h₁:=abk) h).1 aar;subst this;rfl
def fS {a:Act}(h:16<=a.tmps.size)(hd:d<16):∃a',a.put (some d) v=a'/\16<=a'.tmps.size/\a'.defers=a.defers/\a'.eval (.tmp d)=v/\∀k,k≠d->a'.eval (.tmp k)=a.eval (.tmp k):=
 ⟨_,rfl,by simpa[Act.put]using h,rfl,Bk pX,λk hk=>GQ (λe=>hk e.symm)⟩
section
variable {P:Program} {ρ:Ren} {st:St} {w:World}
def bh.Oc {b:Nat}{x y:qN}(h:bh ρ jO w0 ρ ((jO.set b x).set b y) w):bh ρ jO w0 ρ (jO.set b y) w:=
 bh.rE h (λq _ _=>by
  by_cases e:q=b
  .subst e;simp[St.set,PT.dg]
  .simp[St.set,PT.dn _ _ _ _ e]) rfl
structure UJ (ρ:Ren)(jO:St)(w0:World)(bd:Nat)(rd rs it Ha:Nat)(es':List MapEntry)(pl S D:List eH)(n:Nat)(a:Act)(w:World):Prop where
 out:∃(cur q:List eH) (seen:Array Nat) (c0:Nat),bh ρ jO w0 ρ (jO.set bd (.lmap cur)) w/\(∀x∈cur,x.2.2=0)/\(∀x,x∈cur↔x∈q\/(x∈D/\∀y∈q,y.1≠x.1))/\(∀y∈q,y∈S)/\
  (∀(i:Nat) (e:eH) (e':MapEntry),pl[i]?=some e->es'[i]?=some e'->seen.contains e'.born=true->((e.1,e.2.1,0):eH)∈q)/\
  w.heap[it]?=some (.mapIter (some rs) Ha seen c0)/\Ha<=c0/\(leftOf es'.toArray seen).size<n
 src:w.heap[rs]?=some (.map es'.toArray Ha)
 size:16<=a.tmps.size
 dst:a.eval (.tmp 0)=.map (some rd)
 iter:a.eval (.tmp 7)=.pointer (some ⟨it,0,none⟩)
 defers:a.defers=[]
def G0 {f:Nat}(hf:Rn P f n){args:List CV}{st':St}{v:CV}(h:G8 n args st=some (.ok v st')):qM P f args st v st':=by
 obtain⟨fn,t,kt,et,d0,R0,R1,R2,R3,o0,o1,o2,o3,o4,o5,o6,o7,o8,o9,p0,p1,p2,p3,hfn,GF,IV,htm,afd,hR0,hR1,hR2,hR3,hg,⟨x0,y0⟩,⟨x1,y1⟩,⟨x2,y2⟩,⟨x3,y3⟩,⟨x4,y4⟩,⟨x5,y5⟩,⟨x6,y6⟩,⟨x7,y7⟩,⟨x8,y8⟩,⟨x9,y9⟩,⟨z0,u0⟩,⟨z1,u1⟩,⟨z2,u2⟩,⟨z3,u3⟩,adv,VJ,hd0,Kz,⟨ti,tz,X7,htz,htn,htc⟩,aoT⟩:=hf.out;unfold G8 at h
 split at h
 .rename_i bd bs
  split at h
  .rename_i hh;obtain⟨gq,hd,hs,Vz,mc,ads⟩:=hh;generalize mi (st.m.g bd)=d at*;generalize mi (st.m.g bs)=s at*;cases h
   ··
      refine .inl ⟨GF,λρ w args' hw ha=>?_⟩;obtain⟨x',t1,e1,hx,Ez⟩:=ha.inv;obtain⟨y',t2,e2,hy,TX⟩:=Ez.inv;have e3:t2=[]:=by have:=TX.len;simpa using this.symm
      subst e3;subst e2;have e4:args'= #[x',y']:=abu
      subst e4;cases hx with
      |map _ rd szd Bc=>
      cases hy with
      |map _ rs szs hrs=>
      obtain⟨Ha,es',pl,Cd,IZ,hval,hst,Gw,je,hlen⟩:=zE hw hs mc hrs;obtain⟨_,_,_,_,_,_,_,anN,adT,_⟩:=zE hw hd Vz Bc
      obtain⟨bld,afi⟩:∃blk,st.m.g bd=some blk:=by
       cases hb:st.m.g bd with
       |some x=>exact⟨x,rfl⟩
       |none=>rw[hb]at hd;exact hd.elim
      obtain⟨bls,afh⟩:∃blk,st.m.g bs=some blk:=by
       cases hb:st.m.g bs with
       |some x=>exact⟨x,rfl⟩
       |none=>rw[hb]at hs;exact hs.elim
      have amx:rd≠rs:=λe=>gq (hw.inj bd bs _ _ rd szd szs afi afh Bc (by rw[e];exact hrs))
      have Ca:∀b blk r sz,st.m.g b=some blk->ρ b=some (r,sz)->r<w.heap.size:=λb blk r sz h1 h2=>by
       obtain⟨o,g1,_⟩:=hw.at' b blk r sz h1 h2;exact(aEh.1 g1).1
      have axQ:=Ca _ _ _ _ afi Bc;have amu:=Ca _ _ _ _ afh hrs;have hA0:=bh.XE hw hd Vz Bc
      have Tp:∀(k:Nat) (cur:qN),w.heap.size<=k->∀b blk sz,(st.set bd cur).m.g b=some blk->ρ b≠some (k,sz):=λk cur hk b blk sz h1 h2=>by
       by_cases e:b=bd
       .subst e;rw[Bc]at h2;cases h2;omega
       .simp only[St.set,PT.dn _ _ _ _ e]at h1;have:=Ca b blk k sz h1 h2;omega
      have hsz:∀w:World,(Go.sizeOf et).run P w=.ok n w:=λw=>by rw[gV X7,htn]
      have rounds:∀(m:Nat) (a:Act) (w1:World),UJ ρ st w bd rd rs w.heap.size Ha es' pl (gH s) (gH d) m a w1->
       Code.rounds P (.seq (.region 1 R1 false) (.seq (.cond (.tmp 9) .skip (.exit 0)) (.block 1 (.seq (.region 2 R2 false) (.region 3 R3 false)))))
        (Exit.inBlock 0 (bodyPost P fn λe w'=>∃v' ρ',e=.returned v'/\VR ρ' .undef v'/\bh ρ st w ρ' ⟨st.m.put bd (some (.lmap (kJ d s))),st.nx⟩ w')) m a w1:=by
       intro m
       induction m with
       |zero=>intro a w1 hI;obtain⟨_,_,_,_,_,_,_,_,_,_,_,hlt⟩:=hI.out;omega
       |succ m ih=>
        intro a w1 hI;obtain⟨cur,q,seen,c0,hA,hzc,Be,hqS,Vi,hit,GB,hlt⟩:=hI.out;rw[rounds_succ];apply wp_seq;apply wp_region_list;rw[hR1];rcases run_next_at (P:=P) w1 o2.type w.heap.size rs Ha c0 seen es'.toArray Ha hit hI.src (λx hx=>hst.1 x hx) GB with⟨hz,jM⟩|⟨e,he,w1',X2,jM⟩
        .refine oC (hg o2 rq) (E0 x2 (by rw[hI.iter];exact jM)) ?_;rw[y2];obtain⟨a1,ea1,s1,f1,v1,k1⟩:=fS (v:=.tuple #[.bool false]) hI.size (show 8<16 from wI);rw[ea1];refine oC (hg o3 rq) (oI (v:=.bool false) x3 v1 rfl) ?_;rw[y3];obtain⟨a2,ea2,s2,f2,v2,k2⟩:=fS (v:=.bool false) s1 (show 9<16 from wI);rw[ea2];refine wpList_nil ?_;apply wp_seq;refine wp_cond_false v2 (wp_exit ?_);refine⟨by rw[f2,f1];exact hI.defers,.tuple #[],?_,.tuple #[],ρ,rfl,.undef,?_⟩
         .unfold results;rw[IV,Array.mapM_eq_mapM_toList]
          rfl
         .have fk:=all_seen es'.toArray seen hz
          have hSq:∀y∈gH s,y∈q:=by
           intro y hy;rw[fX]at hy;obtain⟨e,he,rfl⟩:=aDR.1 hy;obtain⟨i,hi,rfl⟩:=aEv (IZ.mem_iff.2 he);have xW:i<es'.length:=pX
           exact Vi i pl[i] es'[i] (aDu hi) (aDu xW) (fk _ rq)
          obtain⟨o,g1,g2⟩:=hA.wr.at' bd (.lmap cur) rd szd (by simp[St.set,PT.dg]) Bc;cases g2 with
          |lmap _ l ZW es2 hp hi hn HA hl hv=>
           have Kr:cur.Perm (kJ d s):=by
            refine(List.perm_ext_iff_of_nodup (uc hn) (uc (vS adT je))).2 λx=>?_;rw[Be x,uF d s x];constructor
            .rintro(h|⟨h1,h2⟩)
             .exact .inl (hqS x h)
             .exact .inr ⟨h1,λy hy=>h2 y (hSq y hy)⟩
            .rintro(h|⟨h1,h2⟩)
             .exact .inl (hSq x h)
             .exact .inr ⟨h1,λy hy=>h2 y (hqS y hy)⟩
           refine bh.Oc (x:=.lmap cur) (hA.trans ?_)
           exact bh.set (blk0:=.lmap cur) hA.wr (by simp[St.set,PT.dg]) Bc g1
            (.lmap _ l ZW es2 (hp.trans Kr) (FJ anN Gw) (vS adT je) HA hl hv szd) (λ_ _=>rfl) rfl rfl rfl
        .obtain⟨PK,hns⟩:=mem_left he;obtain⟨i,hi,hei⟩:=aEv (show e∈es' from by simpa using PK);have Ew:i<pl.length:=by omega
         obtain⟨hvk,hvv⟩:=hval i pl[i] e (aDu Ew) (by rw[<-hei];exact aDu hi);have HC:=IZ.mem_iff.1 (aDL Ew);obtain⟨ka,hka⟩:=Gw _ HC;have HF:e.key=.int .i64 ka:=by rw[hka]at hvk;exact uL hvk
         obtain⟨sg,Ts,axL,iY⟩:=ads _ HC
         obtain⟨l',Cf,hVl⟩:∃l':List Value,e.val=.agg l'.toArray/\eF ρ sg l':=by
          have X4:=hvv;rw[Ts]at X4;generalize e.val=ev at X4;cases X4 with
          |agg _ l hl hh=>exact⟨l,rfl,eF.mk hl hh⟩
         have hll:l'.toArray.size=n:=by
          have:=hVl.len;simp;omega
         refine oC (hg o2 rq) (E0 x2 (by rw[hI.iter];exact jM)) ?_;rw[y2];obtain⟨a1,ea1,s1,f1,v1,k1⟩:=fS (v:=.tuple #[.bool true,e.key,e.val]) hI.size (show 8<16 from wI);rw[ea1];refine oC (hg o3 rq) (oI (v:=.bool true) x3 v1 rfl) ?_;rw[y3];obtain⟨a2,ea2,s2,f2,v2,k2⟩:=fS (v:=.bool true) s1 (show 9<16 from wI);rw[ea2];refine wpList_nil ?_;apply wp_seq;refine wp_cond_true v2 (wp_skip ?_);apply wp_block;apply wp_seq;apply wp_region_list;rw[hR2];generalize Kg:setBlock w1' w.heap.size (.mapIter (some rs) Ha (seen.push e.born) Ha)=w2;have TL:w1'.heap=w1.heap/\w1'.os=w1.os/\w1'.output=w1.output:=by rcases X2 with rfl|rfl<;>exact⟨rfl,rfl,rfl⟩
         have axI:=hA.size;have anL:=(aEh.1 hit).1;have h2s:w2.heap.size=w1.heap.size:=by rw[<-Kg];simp[setBlock,TL.1]
         have h2o:∀r,r≠w.heap.size->w2.heap[r]?=w1.heap[r]?:=λr hr=>by rw[<-Kg];simp only[setBlock,TL.1];rw[aEy (λe=>hr e.symm)]
         have h2i:w2.heap[w.heap.size]?=some (.mapIter (some rs) Ha (seen.push e.born) Ha):=by rw[<-Kg];simp[setBlock,TL.1,anL]
         have aps:w2.os=w.os:=by rw[<-Kg];exact TL.2.1.trans hA.os
         have afK:w2.output=w.output:=by rw[<-Kg];exact TL.2.2.trans hA.output
         have Qb:=hA.unk w.heap.size (aDt _) (Tp _ _ (aDt _)) pX (λr _ hr=>h2o r hr) (aps.trans hA.os.symm) (afK.trans hA.output.symm);have V1:w2.heap[rs]?=some (.map es'.toArray Ha):=by rw[h2o rs pX];exact hI.src
         have i2:a2.eval (.tmp 7)=.pointer (some ⟨w.heap.size,0,none⟩):=by rw[k2 7 wI,k1 7 wI];exact hI.iter
         refine oC (hg o4 rq) (Lu x4 (by rw[i2];exact run_entry_at w2 w.heap.size rs Ha seen es'.toArray Ha e h2i V1 PK hst.2.1)) ?_;rw[y4];obtain⟨a3,ea3,s3,f3,v3,k3⟩:=fS (v:=.tuple #[e.key,e.val]) s2 (show 10<16 from wI);rw[ea3];refine oC (hg o5 rq) (oI (v:=e.key) x5 v3 rfl) ?_;rw[y5];obtain⟨a4,ea4,s4,f4,v4,k4⟩:=fS (v:=e.key) s3 (show 11<16 from wI);rw[ea4];refine oC (hg o6 rq) (oI (v:=e.val) x6 (by rw[k4 10 wI];exact v3) rfl) ?_;rw[y6];obtain⟨a5,ea5,s5,f5,v5,k5⟩:=fS (v:=e.val) s4 (show 12<16 from wI);rw[ea5];refine oC (hg o7 rq) (Ii x7 X7 htz) ?_;rw[y7];obtain⟨a6,ea6,s6,f6,v6,k6⟩:=fS (v:=.pointer (some ⟨w2.heap.size,0,none⟩)) s5 (show 5<16 from wI);rw[ea6];generalize Rz:({w2 with heap:=w2.heap.push (.cells tz.cells et)}:World)=w3;have h3s:w3.heap.size=w2.heap.size+1:=by rw[<-Rz];simp
         have h3o:∀r,r<w2.heap.size->w3.heap[r]?=w2.heap[r]?:=λr hr=>by rw[<-Rz];show(w2.heap.push _)[r]?=_;rw[aFO,aDv pX]
         have h3n:w3.heap[w2.heap.size]?=some (.cells tz.cells et (0,0)):=by rw[<-Rz];show(w2.heap.push _)[_]?=_;simp
         have hA3:=Qb.unk w2.heap.size Qb.size (Tp _ _ Qb.size) pX (λr hr _=>h3o r hr) (by rw[<-Rz]) (by rw[<-Rz]);refine oC (hg o8 rq) (Ih x8) ?_;rw[y8,show a6.eval (.tmp 11)=e.key from by rw[k6 11 wI,k5 11 wI];exact v4];obtain⟨a7,ea7,s7,f7,v7,k7⟩:=fS (v:=e.key) s6 (show 4<16 from wI);rw[ea7];refine UM (hg o9 rq) (Ig (l:=l'.toArray) (n:=n) x9 (by rw[k7 5 wI];exact v6) (by rw[k7 12 wI,k6 12 wI,v5,Cf]) (hsz w3) hll h3n htc (λv hv=>?_)) ?_
         .obtain⟨j,hj,rfl⟩:=aEv hv;have hj2:j<l'.length:=by simpa using hj
          have hj3:j<sg.length:=by rw[hVl.len];exact hj2
          exact nq (hVl.at' j sg[j] _ rq rq) (nm sg iY _ (aDL _))
         rw[y9];generalize hw4:w3.setRow w2.heap.size l'.toArray=w4;have h4s:w4.heap.size=w3.heap.size:=by rw[<-hw4];exact oH _ _ _
         have h4o:∀r,r≠w2.heap.size->w4.heap[r]?=w3.heap[r]?:=λr hr=>by rw[<-hw4];exact nj _ _ _ _ hr
         have h4n:w4.heap[w2.heap.size]?=some (.cells l'.toArray et (0,0)):=by rw[<-hw4];exact setRow_heap _ _ _ _ _ _ h3n
         have hA4:=hA3.unk w2.heap.size Qb.size (Tp _ _ Qb.size) pX (λr _ hr=>h4o r hr) (by rw[<-hw4];rfl) (by rw[<-hw4];rfl);refine wpList_nil ?_;apply wp_region_list;rw[hR3];have a7e:∀k,a7.put none undef=a7\/k=0:=λ_=>.inl rfl;have aqx:a7.put none undef=a7:=rfl;rw[aqx];have e0:a7.eval (.tmp 0)=.map (some rd):=by rw[k7 0 wI,k6 0 wI,k5 0 wI,k4 0 wI,k3 0 wI,k2 0 wI,k1 0 wI];exact hI.dst
         have e7:a7.eval (.tmp 7)=.pointer (some ⟨w.heap.size,0,none⟩):=by rw[k7 7 wI,k6 7 wI,k5 7 wI,k4 7 wI,k3 7 wI];exact i2
         have e5:a7.eval (.tmp 5)=.pointer (some ⟨w2.heap.size,0,none⟩):=by rw[k7 5 wI];exact v6
         refine oC (hg p0 rq) (zb z0) ?_;rw[u0,e0];obtain⟨a8,ea8,s8,f8,v8,k8⟩:=fS (v:=.map (some rd)) s7 (show 13<16 from wI);rw[ea8];refine oC (hg p1 rq) (zb z1) ?_;rw[u1,show a8.eval (.tmp 4)=e.key from by rw[k8 4 wI];exact v7];obtain⟨a9,ea9,s9,f9,v9,k9⟩:=fS (v:=e.key) s8 (show 14<16 from wI);rw[ea9];refine oC (hg p2 rq) (Lq z2 (by rw[k9 5 wI,k8 5 wI];exact e5) (hsz w4) hll (aoT w4) h4n) ?_;rw[u2];obtain⟨aa,eaa,sa,fa,va,kka⟩:=fS (v:=.agg l'.toArray) s9 (show 15<16 from wI);rw[eaa]
         have anM:uf .int (.int .i64 ka)=true:=by
          unfold uf;have:nb .int (.int .i64 ka) (.int .i64 ka)=some (zeq ka ka):=rfl;rw[this,(yo ka ka).2 rfl];rfl
         obtain⟨_,es5,aqD,hr5,hA5⟩:=BH (Sg bd ka (.agg sg) cur (st.set bd (.lmap cur))) hA4.wr (by simp[St.set,PT.dg]) Bc (k':=e.key) (y':=.agg l'.toArray) (by rw[<-hka];exact hvk) (by rw[<-Ts,<-Cf];exact hvv) adv VJ hd0
          (λee=>mE anM VJ hd0 Kz (by rw[<-hka];exact hvk) ee)
         refine UM (hg p3 rq) (Ie z3 (by rw[kka 13 wI,kka 14 wI,va,k9 13 wI,v8,v9];exact hr5)) ?_;rw[u3,show aa.put none undef=aa from rfl];refine wpList_nil ?_;apply ih;generalize hw5:({w4 with heap:=w4.heap.setIfInBounds rd (.map es5.toArray aqD)}:World)=w5;rw[hw5]at hA5;have h5o:∀r,r≠rd->w5.heap[r]?=w4.heap[r]?:=λr hr=>by rw[<-hw5];show(w4.heap.setIfInBounds rd _)[r]?=_;rw[aEy (λe=>hr e.symm)]
         have PS:∀r,r≠rd->r<w2.heap.size->w5.heap[r]?=w2.heap[r]?:=λr h1 h2=>by rw[h5o r h1,h4o r pX,h3o r h2]
         refine⟨⟨KY ka (.agg sg) cur,(pl[i].1,pl[i].2.1,0)::q,seen.push e.born,Ha,(hA4.trans hA5).Oc,?_,?_,?_,?_,?_,aDt _,?_⟩,?_,sa,?_,?_,?_⟩
         .exact(EJ hzc).1
         .intro x;have hS:((pl[i].1,pl[i].2.1,0):eH)∈gH s:=by rw[fX];exact aDR.2 ⟨_,HC,rfl⟩
          have Ki:∀x∈gH s,x.1=pl[i].1->x=(pl[i].1,pl[i].2.1,0):=λx hx M4=>LP (oB je) hx hS M4;rw[(EJ hzc).2 x,Be x,<-Ts,<-hka];constructor
          .rintro(rfl|⟨h1|⟨h1,h2⟩,h3⟩)
           .exact .inl (aEw ..)
           .exact .inl (aDS _ h1)
           .refine .inr ⟨h1,λy hy=>?_⟩;rcases aDs.1 hy with rfl|hy
            .exact λe=>h3 e.symm
            .exact h2 y hy
          .rintro(h1|⟨h1,h2⟩)
           .rcases aDs.1 h1 with rfl|h1
            .exact .inl rfl
            .by_cases hx:x.1=pl[i].1
             .exact .inl (Ki x (hqS x h1) hx)
             .exact .inr ⟨.inl h1,hx⟩
           .exact .inr ⟨.inr ⟨h1,λy hy=>h2 y (aDS _ hy)⟩,λe=>h2 _ (aEw ..) e.symm⟩
         .intro y hy;rcases aDs.1 hy with rfl|hy
          .rw[fX];exact aDR.2 ⟨_,HC,rfl⟩
          .exact hqS y hy
         .intro j e1 e1' g1 g2 g3;rw[contains_push,aEu]at g3;rcases g3 with g3|g3
          .exact aDS _ (Vi j e1 e1' g1 g2 g3)
          .have hb:=beq_iff_eq.1 g3;have hj:=(aDD.1 g2).1;have hje:es'[j]=e1':=(aDD.1 g2).2
           have I8:j=i:=by
            have Gj:=hst.2.1;rw[List.toList_toArray]at Gj;have:=(List.getElem_inj (i:=j) (j:=i) (h₀:=abk) (h₁:=Wv) Gj).1 (by simp[hje,hei,hb]);exact this
           subst I8;have:e1=pl[j]:=by rw[aDu Ew]at g1;exact(aFr g1).symm
           rw[this];exact aEw ..
         .rw[PS _ pX pX];exact h2i
         .have:=left_shrinks es'.toArray seen e he;omega
         .rw[PS rs (λe=>amx e.symm) pX];exact V1
         .rw[kka 0 wI,k9 0 wI,k8 0 wI];exact e0
         .rw[kka 7 wI,k9 7 wI,k8 7 wI];exact e7
         .rw[fa,f9,f8,f7,f6,f5,f4,f3,f2,f1];exact hI.defers
      refine calls_of_wp hfn afd ?_;apply wp_seq;apply wp_region_list;rw[hR0];generalize ha0:({tmps:= #[Value.map (some rd),Value.map (some rs)]++Array.replicate (fn.ntmps-(#[Value.map (some rd),Value.map (some rs)]:Array Value).size) undef,defers:=[]}:Act)=a0;have s0:16<=a0.tmps.size:=by rw[<-ha0];simp;omega
      have g0:a0.eval (.tmp 0)=.map (some rd):=by rw[<-ha0];simp[Act.eval,aFW]
      have g1:a0.eval (.tmp 1)=.map (some rs):=by rw[<-ha0];simp[Act.eval,aFW]
      refine oC (hg o0 rq) (zb x0) ?_;rw[y0,g1];obtain⟨a1,ea1,s1,f1,v1,k1⟩:=fS (v:=.map (some rs)) s0 (show 6<16 from wI);rw[ea1];refine oC (hg o1 rq) (Lp x1 (by rw[v1];exact run_range_map w t kt et rs es'.toArray Ha adv Cd)) ?_;rw[y1];obtain⟨a2,ea2,s2,f2,v2,k2⟩:=fS (v:=.pointer (some ⟨w.heap.size,0,none⟩)) s1 (show 7<16 from wI);rw[ea2];refine wpList_nil ?_;apply wp_block;refine wp_loop_rounds ((leftOf es'.toArray #[]).size+1) (rounds _ _ _ ⟨⟨gH d,[], #[],Ha,?_,?_,?_,?_,?_,heap_alloc_new _ _,aDt _,pX⟩,?_,s2,?_,v2,?_⟩)
      .exact hA0.unk w.heap.size (aDt _) (Tp _ _ (aDt _)) (by show _<=(w.heap.push _).size;simp) (λr hr _=>heap_alloc_old w _ hr) rfl rfl
      .intro x hx;rw[fX]at hx;obtain⟨e,_,rfl⟩:=aDR.1 hx;rfl
      .intro x;simp
      .intro y hy;cases hy
      .intro i e e' _ _ hc;simp at hc
      .rw[heap_alloc_old w _ amu];exact Cd
      .rw[k2 0 wI,k1 0 wI];exact g0
      .rw[f2,f1,<-ha0]
  .cases h
 .cases h
end
end
