import Derived.Test.YtckodcbgpffimaaGreatDoorSndA
import Derived.Maps.RangeRun
import Derived.Laws.IdiomRangeMap
namespace Lim
open Go
noncomputable section
set_option linter.defProp false
section
variable {es:δ fh}{d:Nat}{s:δ fh}{v:Value}{r sz:Nat}{qy:O}{w0 w':World}{rest:δ Oper}{x:Operand}{t:TypeId}{p:Operand}{n:Nat}{ty:TypeId}
open Go.ChangeMaps (setBlock)
def tm (es:δ fh):Prop:=∀e∈es,∃n:Int,e.1=.int .i64 n
def hJ (es:δ fh):iH es=es.map λe=>(e.1,e.2.1,0):=rfl
def jC.ints (h:jC es):tm es:=λe b=>by obtain⟨a,c,_⟩:=h.1 e b;exact⟨a,c⟩
def jC.nodup (h:jC es):(es.map (·.1)).Nodup:=by
 have hn:=h.2.1;unfold ko at hn;unfold List.Nodup at hn⊢;rw[ú]at hn⊢;exact hn.imp λb e=>b NL
def wJ (h:tm es):tm (iH es):=by
 rw[hJ];intro e c;obtain⟨x,b,rfl⟩:=lm.1 c;exact h x b
def qD (h:(es.map (·.1)).Nodup):((iH es).map (·.1)).Nodup:=by
 rw[hJ,Xf];exact h
def wT (d s:δ fh)(x:fh):x∈lT d s↔x∈iH s\/(x∈iH d/\∀e∈iH s,e.1≠x.1):=by
 unfold lT;rw[lh,tH]
 have f:∀k:K,(∃y∈s,y.1=k)↔∃y∈iH s,y.1=k:=by
  intro k;rw[hJ];constructor
  .rintro⟨y,h1,b⟩;exact⟨_,lm.2 ⟨y,h1,rfl⟩,b⟩
  .rintro⟨y,h1,b⟩;obtain⟨z,g,rfl⟩:=lm.1 h1;exact⟨z,g,b⟩
 constructor
 .rintro(⟨h1,b⟩|h)
  .refine .inr ⟨h1,λe j l=>?_⟩;have b:¬∃y∈s,y.1=x.1:=by simpa using b
   exact b ((f _).2 ⟨e,j,l⟩)
  .exact .inl h
 .rintro(h|⟨h1,b⟩)
  .exact .inr h
  .refine .inl ⟨h1,?_⟩;simp only[ws];intro hh;obtain⟨y,i,c⟩:=(f _).1 hh;exact b y i c
def Ix {d:δ fh}(e:tm d)(c:tm s):tm (lT d s):=λx b=>by
 rcases(wT d s x).1 b with h|⟨h,_⟩
 .exact wJ c x h
 .exact wJ e x h
def yo {d:δ fh}(l:(d.map (·.1)).Nodup)(k:(s.map (·.1)).Nodup):((lT d s).map (·.1)).Nodup:=by
 have h1:=qD k;have h2:=qD l;unfold lT;rw[wd,zy];refine⟨h2.sublist (List.filter_sublist.map _),h1,?_⟩;intro a q b m e;subst e;obtain⟨x,g,rfl⟩:=lm.1 q;obtain⟨y,j,c⟩:=lm.1 m;have u:x∈lT d s:=by unfold lT;exact À _ g
 rcases(wT d s x).1 u with h|⟨_,h⟩
 .have f:=(tH.1 g).2;have f:¬∃y∈s,y.1=x.1:=by simpa using f
  apply f;rw[hJ]at h;obtain⟨z,i,e⟩:=lm.1 h;exact⟨z,i,by rw[<-e]⟩
 .exact h y j c
structure UX (P:Program)(f:Nat)(n:Nat):Prop where
 out:∃(fn:Func) (t kt et:TypeId) (d:Nat) (R0:Array Oper) (R1 R2 R3:Array Oper) (o0 o1 o2 o3 o4 o5 o6 o7 o8 o9 p0 p1 p2 p3:Oper),P.funcs[f]?=some fn/\Lim.iP P f=true/\fn.results= #[]/\16<=fn.ntmps/\
  fn.body=some (Code.seq (.region 0 R0 false) (.block 0 (.loop (.seq (.region 1 R1 false) (.seq (.cond (.tmp 9) .skip (.exit 0)) (.block 1 (.seq (.region 2 R2 false) (.region 3 R3 false))))))))/\
  R0.toList=[o0,o1]/\R1.toList=[o2,o3]/\R2.toList=[o4,o5,o6,o7,o8,o9]/\R3.toList=[p0,p1,p2,p3]/\
  (∀o∈[o0,o1,o2,o3,o4,o5,o6,o7,o8,o9,p0,p1,p2,p3],o.guard=none)/\
  (o0.op=.move (.tmp 1)/\o0.dst=some 6)/\(o1.op=.range t (.tmp 6)/\o1.dst=some 7)/\(o2.op=.next (.tmp 7) false/\o2.dst=some 8)/\(o3.op=.extract (.tmp 8) 0/\o3.dst=some 9)/\
  (o4.op=.entry (.tmp 7)/\o4.dst=some 10)/\(o5.op=.extract (.tmp 10) 0/\o5.dst=some 11)/\(o6.op=.extract (.tmp 10) 1/\o6.dst=some 12)/\(o7.op=.alloc et/\o7.dst=some 5)/\(o8.op=.assign (.tmp 11)/\o8.dst=some 4)/\
  (o9.op=.store et (.tmp 5) (.tmp 12)/\o9.dst=none)/\(p0.op=.move (.tmp 0)/\p0.dst=some 13)/\(p1.op=.move (.tmp 4)/\p1.dst=some 14)/\(p2.op=.load et (.tmp 5)/\p2.dst=some 15)/\(p3.op=.mapUpdate t (.tmp 13) (.tmp 14) (.tmp 15)/\p3.dst=none)/\
  P.underlying t=some (.map kt et)/\gO P d kt=some .int/\d<10000/\jl 40 .int=true/\(∃i z,P.info? et=some i/\i.zero=some z/\i.size=n/\z.cells.size=n)/\(∀w,(isAgg et).run P w=.ok true w)
def Dv {a:Act}(h:d<a.tmps.size):(a.put (Φ d) v).eval (.tmp d)=v:=by simp[Act.eval,Act.put,h]
def Jq {a:Act}{k:Nat}(h:d≠k):(a.put (Φ d) v).eval (.tmp k)=a.eval (.tmp k):=by
 simp only[Act.eval,Act.put];simp[Xj h]
section
variable {P:Program} {ρ:Ren} {Z:O} {w:World}
def Bs {b:Nat}(H:WR ρ Z w)(M:pI (Z.m.g b) es)(f:jC es)(I:ρ b=Φ (r,sz)):
 ∃(c:Nat) (es':δ MapEntry) (l:δ fh),w.heap[r]?=Φ (.map es'.toArray c)/\l.Perm es/\(∀(i:Nat) (e:fh) (e':MapEntry),l[i]?=Φ e->es'[i]?=Φ e'->VR ρ e.1 e'.key/\VR ρ e.2.1 e'.val)/\
  Go.MapKept.Stamped es'.toArray c/\tm es/\(es.map (·.1)).Nodup/\l.length=es'.length:=by
 obtain⟨es',c,k,W,q,T,u,S,N⟩:=Oc H M f I;refine⟨c,es',k,W,q,u,⟨λx hx=>S x J8,by simpa using N,?_⟩,f.ints,f.nodup,T⟩;show((es'.toArray.toList).map (·.key)).Nodup;rw[List.toList_toArray];have hn:=(q.map (·.1)).nodup_iff.2 f.nodup;unfold List.Nodup at hn⊢;rw[ú]at hn⊢;rw[aNB]at hn⊢;intro i j hi L X e;refine hn i j J J X ?_;obtain⟨a,D⟩:=f.ints k[i] (q.mem_iff.1 (mp J));obtain⟨b,C⟩:=f.ints k[j] (q.mem_iff.1 (mp J));have z:=(u i k[i] es'[i] (li J) (li hi)).1;have y:=(u j k[j] es'[j] (li J) (li L)).1;rw[D]at z;rw[C]at y;have G:=xe z;have F:=xe y;rw[G,F]at e;cases e;rw[D,C]
def br.abK {b:Nat}(q:WR ρ Z w)(j:pI (Z.m.g b) es)(y:jC es)(u:ρ b=Φ (r,sz)):br ρ Z w ρ (Z.set b (.lmap (iH es))) w:=by
 obtain⟨c,es',l,I,H,G,F,D,C,z⟩:=Bs q j y u
 obtain⟨blk,k⟩:∃blk,Z.m.g b=Φ blk:=by
  cases hb:Z.m.g b with
  |some x=>exact⟨x,rfl⟩
  |none=>rw[hb]at j;exact j.elim
 refine br.set q k u I (.lmap (iH es) (iH l) c es' (by rw[hJ,hJ];exact H.map _) (wJ D) (qD C) F (by rw[hJ];simp[z]) (λi e e' f L=>?_) sz) (λ_ _=>rfl) rfl rfl rfl;rw[hJ,ul]at f;cases hl:l[i]? with
 |none=>rw[hl]at f;simp at f
 |some x=>rw[hl]at f;simp at f;subst f;exact G i x e' hl L
def br.unk {ρ0:Ren}{M:O}(h:br ρ0 qy w0 ρ M w)(it:Nat)(hi:w0.heap.size<=it)(hu:∀b blk sz,M.m.g b=Φ blk->ρ b≠Φ (it,sz))(hs:w.heap.size<=w'.heap.size)(hk:∀r,r<w.heap.size->r≠it->w'.heap[r]?=w.heap[r]?)(hos:w'.os=w.os)(SO:w'.output=w.output):br ρ0 qy w0 ρ M w' where
 wr:=⟨λb blk r sz h1 h2=>by
    obtain⟨o,e2,e3⟩:=h.wr.at' b blk r sz h1 h2;exact⟨o,by rw[hk r (IH.1 e2).1 (λe=>hu b blk sz h1 (by rw[h2,e]))];exact e2,e3⟩,h.wr.inj,h.wr.fresh⟩
 ext:=h.ext
 Of:=h.Of
 nx:=h.nx
 origin:=h.origin
 kept:=λr hr hn=>by
  rw[hk r (ov hr h.size) J];exact h.kept r hr hn
 size:=rx h.size hs
 os:=hos.trans h.os
 output:=SO.trans h.output
end
section
variable {P:Program} {ops:Array Oper} {Q:Exit->Act->World->Prop}
def qE {o:Oper}{a:Act}{w:World}(c:o.guard=ν)(b:(execOp a.eval o).run P w=.ok (.value v) w')(h:wpList P ops Q rest (a.put o.dst v) w'):wpList P ops Q (o::rest) a w:=
 wpList_plain c λf e=>by unfold Oper.wp;rw[b];exact e _ _ h
def Yv {o:Oper}{a:Act}{w:World}(c:o.guard=ν)(b:(execOp a.eval o).run P w=.ok .skip w')(h:wpList P ops Q rest (a.put o.dst undef) w'):wpList P ops Q (o::rest) a w:=
 wpList_plain c λf e=>by unfold Oper.wp;rw[b];exact e _ _ h
end
section
variable {P:Program} {a:Act} {w:World} {o:Oper}
def A7 (b:o.op=.move x):(execOp a.eval o).run P w=.ok (.value (a.eval x)) w:=by unfold execOp;rw[b];rfl
def KL (b:o.op=.assign x):(execOp a.eval o).run P w=.ok (.value (a.eval x)) w:=by unfold execOp;rw[b];rfl
def qK {i:Nat}{b:Array Value}(f:o.op=.extract x i)(c:a.eval x=.tuple b)(e:b[i]?=Φ v):(execOp a.eval o).run P w=.ok (.value v) w:=by
 unfold execOp;rw[f];dsimp only;rw[c];simp[Instr.extract,e]
def HM (b:o.op=.next x φ)(h:(Instr.next (a.eval x) φ o.type).run P w=.ok v w'):(execOp a.eval o).run P w=.ok (.value v) w':=by
 unfold execOp;rw[b];simp[h]
def O0 (b:o.op=.entry x)(h:(Instr.entry (a.eval x)).run P w=.ok v w'):(execOp a.eval o).run P w=.ok (.value v) w':=by
 unfold execOp;rw[b];simp[h]
def OY (b:o.op=.range t x)(h:(Instr.range t (a.eval x)).run P w=.ok v w'):(execOp a.eval o).run P w=.ok (.value v) w':=by
 unfold execOp;rw[b];simp[h]
def KI {m k:Operand}(b:o.op=.mapUpdate t m k x)(h:(Instr.mapUpdate t (a.eval m) (a.eval k) (a.eval x)).run P w=.ok () w'):(execOp a.eval o).run P w=.ok .skip w':=by
 unfold execOp;rw[b];simp[h]
def KM {i:TypeInfo}{z:Value}(c:o.op=.alloc t)(hi:P.info? t=Φ i)(b:i.zero=Φ z):
 (execOp a.eval o).run P w=.ok (.value (.pointer (Φ ⟨w.heap.size,0,ν⟩))) {w with heap:=w.heap.push (.cells z.cells t)}:=by
 unfold execOp;rw[c];simp[Instr.alloc,zeroValue,typeInfo,hi,b,newVar]
 rfl
def KK {c l:Array Value}(j:o.op=.store t p x)(i:a.eval p=.pointer (Φ ⟨r,0,ν⟩))(f:a.eval x=.agg l)(k:(Go.sizeOf t).run P w=.ok n w)(m:l.size=n)
 (g:w.heap[r]?=Φ (.cells c ty (0,0))) (u:c.size=n) (q:∀v∈l.toList,v.oneCell'=θ):
 (execOp a.eval o).run P w=.ok .skip (w.setRow r l):=by
 unfold execOp;rw[j];have h:=ir P r 0 ty 0 0 l.toList 0 c w g J xI q
 have e:(c.toList.take (0+0)++l.toList++c.toList.drop (0+0+l.toList.length)).toArray=l:=by
  rw[rc,S6,ow,ys xI,zo]
 rw[e]at h;have b:(Value.agg l).cells=l:=rfl;simp[i,f,Instr.storeAt,Instr.sureAddr,storeVar,k,b,m,h]
def OZ {l:Array Value}(g:o.op=.load t p)(f:a.eval p=.pointer (Φ ⟨r,0,ν⟩))(i:(Go.sizeOf t).run P w=.ok n w)(j:l.size=n)(b:(isAgg t).run P w=.ok θ w)
 (c:w.heap[r]?=Φ (.cells l ty (0,0))):(execOp a.eval o).run P w=.ok (.value (.agg l)) w:=by
 unfold execOp;rw[g];have h:=eE P w r 0 n l ty (0,0) c J
 have e:((l.toList.drop 0).take n).toArray=l:=by
  rw[tu,lw xI]
 rw[e]at h;simp[f,Instr.loadAt,Instr.sureAddr,loadVar,b,i,h]
end
def OL (a:Int)(x:K)(es:δ fh):δ fh:=match yq a es with|some _=>sU a x es|none=>es++[(.int .i64 a,x,0)]
def VE (b:Nat)(a:Int)(x:K)(es:δ fh)(Z:O):Bi .int b es (.int .i64 a) x Z=.ok .undef (Z.set b (.lmap (OL a x es))):=by
 unfold Bi OL;have:LV .int (.int .i64 a)=Φ a:=rfl;rw[this];dsimp only;cases yq a es with
 |some u=>rfl
 |none=>rfl
def Hr {a:Int}{x:K}(b:∀e∈es,e.2.2=0):(∀y∈OL a x es,y.2.2=0)/\∀y,y∈OL a x es↔y=(.int .i64 a,x,0)\/(y∈es/\y.1≠ .int .i64 a):=by
 unfold OL;cases hg:yq a es with
 |none=>
  have k:=vn hg;refine⟨λy c=>?_,λy=>?_⟩
  .rcases lh.1 c with h|h
   .exact b y h
   .rw[If.1 h]
  .constructor
   .intro h;rcases lh.1 h with h|h
    .exact .inr ⟨h,k y h⟩
    .exact .inl (If.1 h)
   .rintro(rfl|⟨h,_⟩)
    .exact lh.2 (.inr (If.2 rfl))
    .exact lh.2 (.inl h)
 |some u=>
  obtain⟨j,i,g,_⟩:=zk hg
  have f:∀y,y∈sU a x es↔y=(.int .i64 a,x,0)\/(y∈es/\y.1≠ .int .i64 a):=by
   intro y;rw[qg,lm];constructor
   .rintro⟨e,he,rfl⟩
    split
    .rename_i hi;have l:=qQ.1 hi;exact .inl (by rw[l,b e he])
    .rename_i hi;exact .inr ⟨he,λhh=>hi (qQ.2 hh)⟩
   .rintro(rfl|⟨h,hn⟩)
    .refine⟨j,i,?_⟩;rw[gq (qQ.2 g),g,b j i]
    .exact⟨y,h,by rw[B (λhh=>hn (qQ.1 hh))]⟩
  refine⟨λy c=>?_,f⟩;rcases(f y).1 c with rfl|⟨h,_⟩
  .rfl
  .exact b y h
def wq (h:(es.map (·.1)).Nodup):es.Nodup:=by
 unfold List.Nodup at h⊢;rw[ú]at h;exact h.imp λb e=>b NL
def Pm (h:(es.map (·.1)).Nodup){x y:fh}(c:x∈es)(b:y∈es)(he:x.1=y.1):x=y:=by
 obtain⟨i,hi,rfl⟩:=Di c;obtain⟨j,hj,rfl⟩:=Di b;have:=(List.getElem_inj (i:=i) (j:=j) (h₀:=J9) (h₁:=aem) h).1 õ;subst this;rfl
def gV {a:Act}(h:16<=a.tmps.size)(f:d<16):∃b,a.put (Φ d) v=b/\16<=b.tmps.size/\b.defers=a.defers/\b.eval (.tmp d)=v/\∀k,k≠d->b.eval (.tmp k)=a.eval (.tmp k):=
 ⟨_,rfl,by simpa[Act.put]using h,rfl,Dv J,λk c=>Jq (λe=>c e.symm)⟩
section
variable {P:Program} {ρ:Ren} {Z:O} {w:World}
def br.Rr {b:Nat}{x y:tp}(h:br ρ qy w0 ρ ((qy.set b x).set b y) w):br ρ qy w0 ρ (qy.set b y) w:=
 br.ue h (λq _ _=>by
  by_cases e:q=b
  .subst e;simp[O.set,PT.du]
  .simp[O.set,PT.dy _ _ _ _ e]) rfl
structure Yq (ρ:Ren)(qy:O)(w0:World)(bd:Nat)(rd rs it JC:Nat)(es':List MapEntry)(pl S D:List fh)(n:Nat)(a:Act)(w:World):Prop where
 out:∃(cur q:List fh) (seen:Array Nat) (c0:Nat),br ρ qy w0 ρ (qy.set bd (.lmap cur)) w/\(∀x∈cur,x.2.2=0)/\(∀x,x∈cur↔x∈q\/(x∈D/\∀y∈q,y.1≠x.1))/\(∀y∈q,y∈S)/\
  (∀(i:Nat) (e:fh) (e':MapEntry),pl[i]?=some e->es'[i]?=some e'->seen.contains e'.born=true->((e.1,e.2.1,0):fh)∈q)/\
  w.heap[it]?=some (.mapIter (some rs) JC seen c0)/\JC<=c0/\(leftOf es'.toArray seen).size<n
 src:w.heap[rs]?=some (.map es'.toArray JC)
 size:16<=a.tmps.size
 dst:a.eval (.tmp 0)=.map (some rd)
 iter:a.eval (.tmp 7)=.pointer (some ⟨it,0,none⟩)
 defers:a.defers=[]
def Jz {f:Nat}(hf:UX P f n){args:δ K}{Z':O}{v:K}(h:JA n args Z=Φ (.ok v Z')):vP P f args Z v Z':=by
 obtain⟨fn,t,kt,et,d0,R0,R1,R2,R3,o0,o1,o2,o3,o4,o5,o6,o7,o8,o9,p0,p1,p2,p3,bh,Jb,L0,b2,bT,bl,bk,bj,bi,F,⟨x0,y0⟩,⟨x1,y1⟩,⟨x2,y2⟩,⟨x3,y3⟩,⟨x4,y4⟩,⟨x5,y5⟩,⟨x6,y6⟩,⟨x7,y7⟩,⟨x8,y8⟩,⟨x9,y9⟩,⟨z0,u0⟩,⟨z1,u1⟩,⟨z2,u2⟩,⟨z3,u3⟩,aT,ZL,az,NT,⟨ti,tz,au,aY,ba,bb⟩,bL⟩:=hf.out;unfold JA at h
 split at h
 .rename_i bd bs
  split at h
  .rename_i hh;obtain⟨jg,hd,hs,Zy,oL,bX⟩:=hh;generalize nD (Z.m.g bd)=d at*;generalize nD (Z.m.g bs)=s at*;cases h
   ··
      refine .inl ⟨Jb,λρ w args' hw ha=>?_⟩;obtain⟨x',t1,e1,N,Hi⟩:=ha.inv;obtain⟨y',t2,e2,D,XC⟩:=Hi.inv;have e3:t2=[]:=by have:=XC.len;simpa using this.symm
      subst e3;subst e2;have e4:args'= #[x',y']:=aeP
      subst e4;cases N with
      |map _ rd ai IU=>
      cases D with
      |map _ rs aW ak=>
      obtain⟨M,es',I,Me,Ha,ar,aj,I6,lp,b1⟩:=Bs hw hs oL ak;obtain⟨_,_,_,_,_,_,_,bM,aS,_⟩:=Bs hw hd Zy IU
      obtain⟨b9,aP⟩:∃blk,Z.m.g bd=Φ blk:=by
       cases hb:Z.m.g bd with
       |some x=>exact⟨x,rfl⟩
       |none=>rw[hb]at hd;exact hd.elim
      obtain⟨b8,aQ⟩:∃blk,Z.m.g bs=Φ blk:=by
       cases hb:Z.m.g bs with
       |some x=>exact⟨x,rfl⟩
       |none=>rw[hb]at hs;exact hs.elim
      have bQ:rd≠rs:=λe=>jg (hw.inj bd bs _ _ rd ai aW aP aQ IU (by rw[e];exact ak))
      have Es:∀b blk r sz,Z.m.g b=Φ blk->ρ b=Φ (r,sz)->r<w.heap.size:=λb blk r sz z G=>by
       obtain⟨o,g1,_⟩:=hw.at' b blk r sz z G;exact(IH.1 g1).1
      have ca:=Es _ _ _ _ aP IU;have bS:=Es _ _ _ _ aQ ak;have bn:=br.abK hw hd Zy IU
      have Xe:∀(k:Nat) (C:tp),w.heap.size<=k->∀b blk sz,(Z.set bd C).m.g b=Φ blk->ρ b≠Φ (k,sz):=λk C hk b blk sz z G=>by
       by_cases e:b=bd
       .subst e;rw[IU]at G;cases G;omega
       .simp only[O.set,PT.dy _ _ _ _ e]at z;have:=Es b blk k sz z G;omega
      have av:∀w:World,(Go.sizeOf et).run P w=.ok n w:=λw=>by rw[iU au,ba]
      have ac:∀(m:Nat) (a:Act) (X:World),Yq ρ Z w bd rd rs w.heap.size M es' I (iH s) (iH d) m a X->
       Code.rounds P (.seq (.region 1 R1 φ) (.seq (.cond (.tmp 9) .skip (.exit 0)) (.block 1 (.seq (.region 2 R2 φ) (.region 3 R3 φ)))))
        (Exit.inBlock 0 (bodyPost P fn λe w'=>∃v' an,e=.returned v'/\VR an .undef v'/\br ρ Z w an ⟨Z.m.put bd (Φ (.lmap (lT d s))),Z.nx⟩ w')) m a X:=by
       intro m
       induction m with
       |zero=>intro a X L;obtain⟨_,_,_,_,_,_,_,_,_,_,_,be⟩:=L.out;omega
       |succ m ih=>
        intro a X L;obtain⟨C,q,u,c0,hA,ao,Gs,af,Ze,ax,BY,be⟩:=L.out;rw[rounds_succ];apply wp_seq;apply wp_region_list;rw[bk];rcases run_next_at (P:=P) X o2.type w.heap.size rs M c0 u es'.toArray M ax L.src (λx N=>aj.1 x N) BY with⟨hz,lj⟩|⟨e,he,ab,b0,lj⟩
        .refine qE (F o2 V) (HM x2 (by rw[L.iter];exact lj)) ?_;rw[y2];obtain⟨a1,W,s1,f1,v1,k1⟩:=gV (v:=.tuple #[.bool φ]) L.size (show 8<16 from tW);rw[W];refine qE (F o3 V) (qK (v:=.bool φ) x3 v1 rfl) ?_;rw[y3];obtain⟨a2,T,s2,f2,v2,k2⟩:=gV (v:=.bool φ) s1 (show 9<16 from tW);rw[T];refine wpList_nil ?_;apply wp_seq;refine wp_cond_false v2 (wp_exit ?_);refine⟨by rw[f2,f1];exact L.defers,.tuple #[],?_,.tuple #[],ρ,rfl,.undef,?_⟩
         .unfold results;rw[L0,Array.mapM_eq_mapM_toList]
          rfl
         .have fJ:=all_seen es'.toArray u hz
          have aC:∀y∈iH s,y∈q:=by
           intro y D;rw[hJ]at D;obtain⟨e,he,rfl⟩:=lm.1 D;obtain⟨i,hi,rfl⟩:=Di (Ha.mem_iff.2 he);have xB:i<es'.length:=J
           exact Ze i I[i] es'[i] (li hi) (li xB) (fJ _ V)
          obtain⟨o,g1,g2⟩:=hA.wr.at' bd (.lmap C) rd ai (by simp[O.set,PT.du]) IU;cases g2 with
          |lmap _ l bY es2 hp hi hn rA hl hv=>
           have NJ:C.Perm (lT d s):=by
            refine(List.perm_ext_iff_of_nodup (wq hn) (wq (yo aS lp))).2 λx=>?_;rw[Gs x,wT d s x];constructor
            .rintro(h|⟨z,G⟩)
             .exact .inl (af x h)
             .exact .inr ⟨z,λy D=>G y (aC y D)⟩
            .rintro(h|⟨z,G⟩)
             .exact .inl (aC x h)
             .exact .inr ⟨z,λy D=>G y (af y D)⟩
           refine br.Rr (x:=.lmap C) (hA.trans ?_)
           exact br.set (blk0:=.lmap C) hA.wr (by simp[O.set,PT.du]) IU g1
            (.lmap _ l bY es2 (hp.trans NJ) (Ix bM I6) (yo aS lp) rA hl hv ai) (λ_ _=>rfl) rfl rfl rfl
        .obtain⟨Vg,b3⟩:=mem_left he;obtain⟨i,hi,ay⟩:=Di (show e∈es' from by simpa using Vg);have Hd:i<I.length:=by omega
         obtain⟨Zw,aq⟩:=ar i I[i] e (li Hd) (by rw[<-ay];exact li hi);have Kd:=Ha.mem_iff.1 (mp Hd);obtain⟨Y,ag⟩:=I6 _ Kd;have Hc:e.key=.int .i64 Y:=by rw[ag]at Zw;exact xe Zw
         obtain⟨sg,Xg,cb,ln⟩:=bX _ Kd
         obtain⟨l',Qy,al⟩:∃l':δ Value,e.val=.agg l'.toArray/\fp ρ sg l':=by
          have am:=aq;rw[Xg]at am;generalize e.val=ev at am;cases am with
          |agg _ l hl hh=>exact⟨l,rfl,fp.mk hl hh⟩
         have aw:l'.toArray.size=n:=by
          have:=al.len;simp;omega
         refine qE (F o2 V) (HM x2 (by rw[L.iter];exact lj)) ?_;rw[y2];obtain⟨a1,W,s1,f1,v1,k1⟩:=gV (v:=.tuple #[.bool θ,e.key,e.val]) L.size (show 8<16 from tW);rw[W];refine qE (F o3 V) (qK (v:=.bool θ) x3 v1 rfl) ?_;rw[y3];obtain⟨a2,T,s2,f2,v2,k2⟩:=gV (v:=.bool θ) s1 (show 9<16 from tW);rw[T];refine wpList_nil ?_;apply wp_seq;refine wp_cond_true v2 (wp_skip ?_);apply wp_block;apply wp_seq;apply wp_region_list;rw[bj];generalize G0:setBlock ab w.heap.size (.mapIter (Φ rs) M (u.push e.born) M)=c;have Xu:ab.heap=X.heap/\ab.os=X.os/\ab.output=X.output:=by rcases b0 with rfl|rfl<;>exact⟨rfl,rfl,rfl⟩
         have cc:=hA.size;have bP:=(IH.1 ax).1;have b7:c.heap.size=X.heap.size:=by rw[<-G0];simp[setBlock,Xu.1]
         have aL:∀r,r≠w.heap.size->c.heap[r]?=X.heap[r]?:=λr H=>by rw[<-G0];simp only[setBlock,Xu.1];rw[Xj (λe=>H e.symm)]
         have aM:c.heap[w.heap.size]?=Φ (.mapIter (Φ rs) M (u.push e.born) M):=by rw[<-G0];simp[setBlock,Xu.1,bP]
         have bI:c.os=w.os:=by rw[<-G0];exact Xu.2.1.trans hA.os
         have bW:c.output=w.output:=by rw[<-G0];exact Xu.2.2.trans hA.output
         have TD:=hA.unk w.heap.size (hI _) (Xe _ _ (hI _)) J (λr _ H=>aL r H) (bI.trans hA.os.symm) (bW.trans hA.output.symm);have Z3:c.heap[rs]?=Φ (.map es'.toArray M):=by rw[aL rs J];exact L.src
         have i2:a2.eval (.tmp 7)=.pointer (Φ ⟨w.heap.size,0,ν⟩):=by rw[k2 7 tW,k1 7 tW];exact L.iter
         refine qE (F o4 V) (O0 x4 (by rw[i2];exact run_entry_at c w.heap.size rs M u es'.toArray M e aM Z3 Vg aj.2.1)) ?_;rw[y4];obtain⟨a3,bF,s3,f3,v3,k3⟩:=gV (v:=.tuple #[e.key,e.val]) s2 (show 10<16 from tW);rw[bF];refine qE (F o5 V) (qK (v:=e.key) x5 v3 rfl) ?_;rw[y5];obtain⟨a4,bD,s4,f4,v4,k4⟩:=gV (v:=e.key) s3 (show 11<16 from tW);rw[bD];refine qE (F o6 V) (qK (v:=e.val) x6 (by rw[k4 10 tW];exact v3) rfl) ?_;rw[y6];obtain⟨a5,bC,s5,f5,v5,k5⟩:=gV (v:=e.val) s4 (show 12<16 from tW);rw[bC];refine qE (F o7 V) (KM x7 au aY) ?_;rw[y7];obtain⟨a6,bz,s6,f6,v6,k6⟩:=gV (v:=.pointer (Φ ⟨c.heap.size,0,ν⟩)) s5 (show 5<16 from tW);rw[bz];generalize U9:({c with heap:=c.heap.push (.cells tz.cells et)}:World)=w3;have b6:w3.heap.size=c.heap.size+1:=by rw[<-U9];simp
         have aH:∀r,r<c.heap.size->w3.heap[r]?=c.heap[r]?:=λr H=>by rw[<-U9];show(c.heap.push _)[r]?=_;rw[aNM,B J]
         have aI:w3.heap[c.heap.size]?=Φ (.cells tz.cells et (0,0)):=by rw[<-U9];show(c.heap.push _)[_]?=_;simp
         have bm:=TD.unk c.heap.size TD.size (Xe _ _ TD.size) J (λr H _=>aH r H) (by rw[<-U9]) (by rw[<-U9]);refine qE (F o8 V) (KL x8) ?_;rw[y8,show a6.eval (.tmp 11)=e.key from by rw[k6 11 tW,k5 11 tW];exact v4];obtain⟨a7,bx,s7,f7,v7,k7⟩:=gV (v:=e.key) s6 (show 4<16 from tW);rw[bx];refine Yv (F o9 V) (KK (l:=l'.toArray) (n:=n) x9 (by rw[k7 5 tW];exact v6) (by rw[k7 12 tW,k6 12 tW,v5,Qy]) (av w3) aw aI bb (λv hv=>?_)) ?_
         .obtain⟨j,hj,rfl⟩:=Di hv;have bg:j<l'.length:=by simpa using hj
          have b4:j<sg.length:=by rw[al.len];exact bg
          exact pD (al.at' j sg[j] _ V V) (pC sg ln _ (mp _))
         rw[y9];generalize S:w3.setRow c.heap.size l'.toArray=w4;have b5:w4.heap.size=w3.heap.size:=by rw[<-S];exact qJ _ _ _
         have aG:∀r,r≠c.heap.size->w4.heap[r]?=w3.heap[r]?:=λr H=>by rw[<-S];exact py _ _ _ _ H
         have bq:w4.heap[c.heap.size]?=Φ (.cells l'.toArray et (0,0)):=by rw[<-S];exact setRow_heap _ _ _ _ _ _ aI
         have aF:=bm.unk c.heap.size TD.size (Xe _ _ TD.size) J (λr _ H=>aG r H) (by rw[<-S];rfl) (by rw[<-S];rfl);refine wpList_nil ?_;apply wp_region_list;rw[bi];have cd:∀k,a7.put ν undef=a7\/k=0:=λ_=>.inl rfl;have bG:a7.put ν undef=a7:=rfl;rw[bG];have e0:a7.eval (.tmp 0)=.map (Φ rd):=by rw[k7 0 tW,k6 0 tW,k5 0 tW,k4 0 tW,k3 0 tW,k2 0 tW,k1 0 tW];exact L.dst
         have e7:a7.eval (.tmp 7)=.pointer (Φ ⟨w.heap.size,0,ν⟩):=by rw[k7 7 tW,k6 7 tW,k5 7 tW,k4 7 tW,k3 7 tW];exact i2
         have e5:a7.eval (.tmp 5)=.pointer (Φ ⟨c.heap.size,0,ν⟩):=by rw[k7 5 tW];exact v6
         refine qE (F p0 V) (A7 z0) ?_;rw[u0,e0];obtain⟨a8,bw,s8,f8,v8,k8⟩:=gV (v:=.map (Φ rd)) s7 (show 13<16 from tW);rw[bw];refine qE (F p1 V) (A7 z1) ?_;rw[u1,show a8.eval (.tmp 4)=e.key from by rw[k8 4 tW];exact v7];obtain⟨a9,bv,s9,f9,v9,k9⟩:=gV (v:=e.key) s8 (show 14<16 from tW);rw[bv];refine qE (F p2 V) (OZ z2 (by rw[k9 5 tW,k8 5 tW];exact e5) (av w4) aw (bL w4) bq) ?_;rw[u2];obtain⟨aa,bu,sa,fa,va,ad⟩:=gV (v:=.agg l'.toArray) s9 (show 15<16 from tW);rw[bu]
         have bN:tD .int (.int .i64 Y)=θ:=by
          unfold tD;have:mN .int (.int .i64 Y) (.int .i64 Y)=Φ (zeq Y Y):=rfl;rw[this,(Ay Y Y).2 rfl];rfl
         obtain⟨_,bt,bH,bc,aD⟩:=DY (VE bd Y (.agg sg) C (Z.set bd (.lmap C))) aF.wr (by simp[O.set,PT.du]) IU (k':=e.key) (y':=.agg l'.toArray) (by rw[<-ag];exact Zw) (by rw[<-Xg,<-Qy];exact aq) aT ZL az
          (λee=>oz bN ZL az NT (by rw[<-ag];exact Zw) ee)
         refine Yv (F p3 V) (KI z3 (by rw[ad 13 tW,ad 14 tW,va,k9 13 tW,v8,v9];exact bc)) ?_;rw[u3,show aa.put ν undef=aa from rfl];refine wpList_nil ?_;apply ih;generalize ap:({w4 with heap:=w4.heap.setIfInBounds rd (.map bt.toArray bH)}:World)=w5;rw[ap]at aD;have bp:∀r,r≠rd->w5.heap[r]?=w4.heap[r]?:=λr H=>by rw[<-ap];show(w4.heap.setIfInBounds rd _)[r]?=_;rw[Xj (λe=>H e.symm)]
         have Tq:∀r,r≠rd->r<c.heap.size->w5.heap[r]?=c.heap[r]?:=λr z G=>by rw[bp r z,aG r J,aH r G]
         refine⟨⟨OL Y (.agg sg) C,(I[i].1,I[i].2.1,0)::q,u.push e.born,M,(aF.trans aD).Rr,?_,?_,?_,?_,?_,hI _,?_⟩,?_,sa,?_,?_,?_⟩
         .exact(Hr ao).1
         .intro x;have hS:((I[i].1,I[i].2.1,0):fh)∈iH s:=by rw[hJ];exact lm.2 ⟨_,Kd,rfl⟩
          have ND:∀x∈iH s,x.1=I[i].1->x=(I[i].1,I[i].2.1,0):=λx N U8=>Pm (qD lp) N hS U8;rw[(Hr ao).2 x,Gs x,<-Xg,<-ag];constructor
          .rintro(rfl|⟨z|⟨z,G⟩,h3⟩)
           .exact .inl (zt ..)
           .exact .inl (EQ _ z)
           .refine .inr ⟨z,λy D=>?_⟩;rcases ip.1 D with rfl|D
            .exact λe=>h3 e.symm
            .exact G y D
          .rintro(z|⟨z,G⟩)
           .rcases ip.1 z with rfl|z
            .exact .inl rfl
            .by_cases N:x.1=I[i].1
             .exact .inl (ND x (af x z) N)
             .exact .inr ⟨.inl z,N⟩
           .exact .inr ⟨.inr ⟨z,λy D=>G y (EQ _ D)⟩,λe=>G _ (zt ..) e.symm⟩
         .intro y D;rcases ip.1 D with rfl|D
          .rw[hJ];exact lm.2 ⟨_,Kd,rfl⟩
          .exact af y D
         .intro j e1 aN g1 g2 g3;rw[contains_push,xF]at g3;rcases g3 with g3|g3
          .exact EQ _ (Ze j e1 aN g1 g2 g3)
          .have hb:=beq_iff_eq.1 g3;have hj:=(qo.1 g2).1;have bf:es'[j]=aN:=(qo.1 g2).2
           have Mk:j=i:=by
            have Et:=aj.2.1;rw[List.toList_toArray]at Et;have:=(List.getElem_inj (i:=j) (j:=i) (h₀:=aem) (h₁:=J9) Et).1 (by simp[bf,ay,hb]);exact this
           subst Mk;have:e1=I[j]:=by rw[li Hd]at g1;exact(Â g1).symm
           rw[this];exact zt ..
         .rw[Tq _ J J];exact aM
         .have:=left_shrinks es'.toArray u e he;omega
         .rw[Tq rs (λe=>bQ e.symm) J];exact Z3
         .rw[ad 0 tW,k9 0 tW,k8 0 tW];exact e0
         .rw[ad 7 tW,k9 7 tW,k8 7 tW];exact e7
         .rw[fa,f9,f8,f7,f6,f5,f4,f3,f2,f1];exact L.defers
      refine calls_of_wp bh bT ?_;apply wp_seq;apply wp_region_list;rw[bl];generalize ah:({tmps:= #[Value.map (Φ rd),Value.map (Φ rs)]++Array.replicate (fn.ntmps-(#[Value.map (Φ rd),Value.map (Φ rs)]:Array Value).size) undef,defers:=[]}:Act)=a0;have s0:16<=a0.tmps.size:=by rw[<-ah];simp;omega
      have g0:a0.eval (.tmp 0)=.map (Φ rd):=by rw[<-ah];simp[Act.eval,aNX]
      have g1:a0.eval (.tmp 1)=.map (Φ rs):=by rw[<-ah];simp[Act.eval,aNX]
      refine qE (F o0 V) (A7 x0) ?_;rw[y0,g1];obtain⟨a1,W,s1,f1,v1,k1⟩:=gV (v:=.map (Φ rs)) s0 (show 6<16 from tW);rw[W];refine qE (F o1 V) (OY x1 (by rw[v1];exact run_range_map w t kt et rs es'.toArray M aT Me)) ?_;rw[y1];obtain⟨a2,T,s2,f2,v2,k2⟩:=gV (v:=.pointer (Φ ⟨w.heap.size,0,ν⟩)) s1 (show 7<16 from tW);rw[T];refine wpList_nil ?_;apply wp_block;refine wp_loop_rounds ((leftOf es'.toArray #[]).size+1) (ac _ _ _ ⟨⟨iH d,[], #[],M,?_,?_,?_,?_,?_,heap_alloc_new _ _,hI _,J⟩,?_,s2,?_,v2,?_⟩)
      .exact bn.unk w.heap.size (hI _) (Xe _ _ (hI _)) (by show _<=(w.heap.push _).size;simp) (λr H _=>heap_alloc_old w _ H) rfl rfl
      .intro x N;rw[hJ]at N;obtain⟨e,_,rfl⟩:=lm.1 N;rfl
      .intro x;simp
      .intro y D;cases D
      .intro i e e' _ _ hc;simp at hc
      .rw[heap_alloc_old w _ bS];exact Me
      .rw[k2 0 tW,k1 0 tW];exact g0
      .rw[f2,f1,<-ah]
  .cases h
 .cases h
end
end
