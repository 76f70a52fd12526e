import Derived.Test.YtomffjeofpafnaaGreatDoorSndA
import Derived.Maps.RangeRun
import Derived.Laws.IdiomRangeMap
namespace Lim
open Go
noncomputable section
set_option linter.defProp false
section
variable {es:List eK}{d:Nat}{s:List eK}{v:Value}{r sz:Nat}{kL:St}{w0 w':World}{rest:List Oper}{x:Operand}{t:TypeId}{p:Operand}{n:Nat}{l:Array Value}{ty:TypeId}
open Go.ChangeMaps (setBlock)
def rS (es:List eK):Prop:=∀e∈es,∃n:Int,e.1=.int .i64 n
def gw (es:List eK):ia es=es.map λe=>(e.1,e.2.1,0):=rfl
def iP.ints (h:iP es):rS es:=λe b=>by obtain⟨a,c,_⟩:=h.1 e b;exact⟨a,c⟩
def iP.nodup (h:iP es):(es.map (·.1)).Nodup:=by
 have hn:=h.2.1;unfold jA at hn;unfold List.Nodup at hn⊢;rw[aJT]at hn⊢;exact hn.imp λb e=>b (by rw[e])
def vm (h:rS es):rS (ia es):=by
 rw[gw];intro e c;obtain⟨x,b,rfl⟩:=aIk.1 c;exact h x b
def pE (h:(es.map (·.1)).Nodup):((ia es).map (·.1)).Nodup:=by
 rw[gw,aKs];exact h
def vz (d s:List eK)(x:eK):x∈lp d s↔x∈ia s\/(x∈ia d/\∀e∈ia s,e.1≠x.1):=by
 unfold lp;rw[aHT,aIR]
 have f:∀k:CV,(∃y∈s,y.1=k)↔∃y∈ia s,y.1=k:=by
  intro k;rw[gw];constructor
  .rintro⟨y,h1,b⟩;exact⟨_,aIk.2 ⟨y,h1,rfl⟩,b⟩
  .rintro⟨y,h1,b⟩;obtain⟨z,g,rfl⟩:=aIk.1 h1;exact⟨z,g,b⟩
 constructor
 .rintro(⟨h1,b⟩|h)
  .refine .inr ⟨h1,λe j m=>?_⟩;have b:¬∃y∈s,y.1=x.1:=by simpa using b
   exact b ((f _).2 ⟨e,j,m⟩)
  .exact .inl h
 .rintro(h|⟨h1,b⟩)
  .exact .inr h
  .refine .inl ⟨h1,?_⟩;simp only[aIP];intro hh;obtain⟨y,i,c⟩:=(f _).1 hh;exact b y i c
def Hh {d:List eK}(e:rS d)(c:rS s):rS (lp d s):=λx b=>by
 rcases(vz d s x).1 b with h|⟨h,_⟩
 .exact vm c x h
 .exact vm e x h
def wR {d:List eK}(m:(d.map (·.1)).Nodup)(k:(s.map (·.1)).Nodup):((lp d s).map (·.1)).Nodup:=by
 have h1:=pE k;have h2:=pE m;unfold lp;rw[aIQ,aIE];refine⟨h2.sublist (List.filter_sublist.map _),h1,?_⟩;intro a u b q e;subst e;obtain⟨x,g,rfl⟩:=aIk.1 u;obtain⟨y,j,c⟩:=aIk.1 q;have A:x∈lp d s:=by unfold lp;exact aJz _ g
 rcases(vz d s x).1 A with h|⟨_,h⟩
 .have f:=(aIR.1 g).2;have f:¬∃y∈s,y.1=x.1:=by simpa using f
  apply f;rw[gw]at h;obtain⟨z,i,e⟩:=aIk.1 h;exact⟨z,i,by rw[<-e]⟩
 .exact h y j c
structure SZ (P:Program)(f:Nat)(n:Nat):Prop where
 out:∃(fn:Func) (t kt et:TypeId) (d:Nat) (R0:Array Oper) (R1 R2 R3:Array Oper) (o0 o1 o2 o3 o4 o5 o6 o7 o8 o9 p0 p1 p2 p3:Oper),P.funcs[f]?=some fn/\Lim.iq P f=true/\fn.results= #[]/\16<=fn.ntmps/\
  fn.body=some (Code.seq (.region 0 R0 false) (.block 0 (.loop (.seq (.region 1 R1 false) (.seq (.cond (.tmp 9) .skip (.exit 0)) (.block 1 (.seq (.region 2 R2 false) (.region 3 R3 false))))))))/\
  R0.toList=[o0,o1]/\R1.toList=[o2,o3]/\R2.toList=[o4,o5,o6,o7,o8,o9]/\R3.toList=[p0,p1,p2,p3]/\
  (∀o∈[o0,o1,o2,o3,o4,o5,o6,o7,o8,o9,p0,p1,p2,p3],o.guard=none)/\
  (o0.op=.move (.tmp 1)/\o0.dst=some 6)/\(o1.op=.range t (.tmp 6)/\o1.dst=some 7)/\(o2.op=.next (.tmp 7) false/\o2.dst=some 8)/\(o3.op=.extract (.tmp 8) 0/\o3.dst=some 9)/\
  (o4.op=.entry (.tmp 7)/\o4.dst=some 10)/\(o5.op=.extract (.tmp 10) 0/\o5.dst=some 11)/\(o6.op=.extract (.tmp 10) 1/\o6.dst=some 12)/\(o7.op=.alloc et/\o7.dst=some 5)/\(o8.op=.assign (.tmp 11)/\o8.dst=some 4)/\
  (o9.op=.store et (.tmp 5) (.tmp 12)/\o9.dst=none)/\(p0.op=.move (.tmp 0)/\p0.dst=some 13)/\(p1.op=.move (.tmp 4)/\p1.dst=some 14)/\(p2.op=.load et (.tmp 5)/\p2.dst=some 15)/\(p3.op=.mapUpdate t (.tmp 13) (.tmp 14) (.tmp 15)/\p3.dst=none)/\
  P.underlying t=some (.map kt et)/\fW P d kt=some .int/\d<10000/\iG 40 .int=true/\(∃i z,P.info? et=some i/\i.zero=some z/\i.size=n/\z.cells.size=n)/\(∀w,(isAgg et).run P w=.ok true w)
def Cz {a:Act}(h:d<a.tmps.size):(a.put (some d) v).eval (.tmp d)=v:=by simp[Act.eval,Act.put,h]
def Il {a:Act}{k:Nat}(h:d≠k):(a.put (some d) v).eval (.tmp k)=a.eval (.tmp k):=by
 simp only[Act.eval,Act.put];simp[aIU h]
section
variable {P:Program} {ρ:Ren} {st:St} {w:World}
def AI {b:Nat}(E:WR ρ st w)(H:oe (st.m.g b) es)(f:iP es)(F:ρ b=some (r,sz)):
 ∃(c:Nat) (es':List MapEntry) (l:List eK),w.heap[r]?=some (.map es'.toArray c)/\l.Perm es/\(∀(i:Nat) (e:eK) (e':MapEntry),l[i]?=some e->es'[i]?=some e'->VR ρ e.1 e'.key/\VR ρ e.2.1 e'.val)/\
  Go.MapKept.Stamped es'.toArray c/\rS es/\(es.map (·.1)).Nodup/\l.length=es'.length:=by
 obtain⟨es',c,k,L,q,K,u,J,I⟩:=MC E H f F;refine⟨c,es',k,L,q,u,⟨λx hx=>J x Yx,by simpa using I,?_⟩,f.ints,f.nodup,K⟩;show((es'.toArray.toList).map (·.key)).Nodup;rw[List.toList_toArray];have hn:=(q.map (·.1)).nodup_iff.2 f.nodup;unfold List.Nodup at hn⊢;rw[aJT]at hn⊢;rw[aKl]at hn⊢;intro i j hi G M e;refine hn i j uM uM M ?_;obtain⟨a,B⟩:=f.ints k[i] (q.mem_iff.1 (aIc uM));obtain⟨b,A⟩:=f.ints k[j] (q.mem_iff.1 (aIc uM));have z:=(u i k[i] es'[i] (aHO uM) (aHO hi)).1;have y:=(u j k[j] es'[j] (aHO uM) (aHO G)).1;rw[B]at z;rw[A]at y;have D:=vJ z;have C:=vJ y;rw[D,C]at e;cases e;rw[B,A]
def bp.Y6 {b:Nat}(q:WR ρ st w)(j:oe (st.m.g b) es)(y:iP es)(u:ρ b=some (r,sz)):bp ρ st w ρ (st.set b (.lmap (ia es))) w:=by
 obtain⟨c,es',l,F,E,D,C,B,A,z⟩:=AI q j y u
 obtain⟨blk,k⟩:∃blk,st.m.g b=some blk:=by
  cases hb:st.m.g b with
  |some x=>exact⟨x,rfl⟩
  |none=>rw[hb]at j;exact j.elim
 refine bp.set q k u F (.lmap (ia es) (ia l) c es' (by rw[gw,gw];exact E.map _) (vm B) (pE A) C (by rw[gw];simp[z]) (λi e e' f G=>?_) sz) (λ_ _=>rfl) rfl rfl rfl;rw[gw,aIu]at f;cases hl:l[i]? with
 |none=>rw[hl]at f;simp at f
 |some x=>rw[hl]at f;simp at f;subst f;exact D i x e' hl G
def bp.unk {ρ0:Ren}{M:St}(h:bp ρ0 kL w0 ρ M w)(it:Nat)(hi:w0.heap.size<=it)(hu:∀b blk sz,M.m.g b=some blk->ρ b≠some (it,sz))(hs:w.heap.size<=w'.heap.size)(hk:∀r,r<w.heap.size->r≠it->w'.heap[r]?=w.heap[r]?)(hos:w'.os=w.os)(QW:w'.output=w.output):bp ρ0 kL w0 ρ M w' where
 wr:=⟨λb blk r sz h1 h2=>by
    obtain⟨o,e2,e3⟩:=h.wr.at' b blk r sz h1 h2;exact⟨o,by rw[hk r (aIy.1 e2).1 (λe=>hu b blk sz h1 (by rw[h2,e]))];exact e2,e3⟩,h.wr.inj,h.wr.fresh⟩
 ext:=h.ext
 ME:=h.ME
 nx:=h.nx
 origin:=h.origin
 kept:=λr hr hn=>by
  rw[hk r (aId hr h.size) uM];exact h.kept r hr hn
 size:=aIz h.size hs
 os:=hos.trans h.os
 output:=QW.trans h.output
end
section
variable {P:Program} {ops:Array Oper} {Q:Exit->Act->World->Prop}
def pF {o:Oper}{a:Act}{w:World}(c:o.guard=none)(b:(execOp a.eval o).run P w=.ok (.value v) w')(h:wpList P ops Q rest (a.put o.dst v) w'):wpList P ops Q (o::rest) a w:=
 wpList_plain c λK e=>by unfold Oper.wp;rw[b];exact e _ _ h
def Wy {o:Oper}{a:Act}{w:World}(c:o.guard=none)(b:(execOp a.eval o).run P w=.ok .skip w')(h:wpList P ops Q rest (a.put o.dst undef) w'):wpList P ops Q (o::rest) a w:=
 wpList_plain c λK e=>by unfold Oper.wp;rw[b];exact e _ _ h
end
section
variable {P:Program} {a:Act} {w:World} {o:Oper}
def Ai (b:o.op=.move x):(execOp a.eval o).run P w=.ok (.value (a.eval x)) w:=by unfold execOp;rw[b];rfl
def JA (b:o.op=.assign x):(execOp a.eval o).run P w=.ok (.value (a.eval x)) w:=by unfold execOp;rw[b];rfl
def pL {i:Nat}{b:Array Value}(f:o.op=.extract x i)(c:a.eval x=.tuple b)(e:b[i]?=some v):(execOp a.eval o).run P w=.ok (.value v) w:=by
 unfold execOp;rw[f];dsimp only;rw[c];simp[Instr.extract,e]
def GC (b:o.op=.next x false)(h:(Instr.next (a.eval x) false o.type).run P w=.ok v w'):(execOp a.eval o).run P w=.ok (.value v) w':=by
 unfold execOp;rw[b];simp[h]
def Nb (b:o.op=.entry x)(h:(Instr.entry (a.eval x)).run P w=.ok v w'):(execOp a.eval o).run P w=.ok (.value v) w':=by
 unfold execOp;rw[b];simp[h]
def M9 (b:o.op=.range t x)(h:(Instr.range t (a.eval x)).run P w=.ok v w'):(execOp a.eval o).run P w=.ok (.value v) w':=by
 unfold execOp;rw[b];simp[h]
def Jy {m k:Operand}(b:o.op=.mapUpdate t m k x)(h:(Instr.mapUpdate t (a.eval m) (a.eval k) (a.eval x)).run P w=.ok () w'):(execOp a.eval o).run P w=.ok .skip w':=by
 unfold execOp;rw[b];simp[h]
def JB {i:TypeInfo}{z:Value}(c:o.op=.alloc t)(hi:P.info? t=some i)(b:i.zero=some z):
 (execOp a.eval o).run P w=.ok (.value (.pointer (some ⟨w.heap.size,0,none⟩))) {w with heap:=w.heap.push (.cells z.cells t)}:=by
 unfold execOp;rw[c];simp[Instr.alloc,zeroValue,typeInfo,hi,b,newVar]
 rfl
def Jz {c:Array Value}(i:o.op=.store t p x)(g:a.eval p=.pointer (some ⟨r,0,none⟩))(b:a.eval x=.agg l)(j:(Go.sizeOf t).run P w=.ok n w)(k:l.size=n)
 (f:w.heap[r]?=some (.cells c ty (0,0))) (u:c.size=n) (m:∀v∈l.toList,v.oneCell'=true):
 (execOp a.eval o).run P w=.ok .skip (w.setRow r l):=by
 unfold execOp;rw[i];have h:=gP P r 0 ty 0 0 l.toList 0 c w f uM zS m
 have e:(c.toList.take (0+0)++l.toList++c.toList.drop (0+0+l.toList.length)).toArray=l:=by
  rw[aIv,aJG,aIm,aIp zS,aIJ]
 rw[e]at h;have q:(Value.agg l).cells=l:=rfl;simp[g,b,Instr.storeAt,Instr.sureAddr,storeVar,j,q,k,h]
def Na (g:o.op=.load t p)(f:a.eval p=.pointer (some ⟨r,0,none⟩))(i:(Go.sizeOf t).run P w=.ok n w)(j:l.size=n)(b:(isAgg t).run P w=.ok true w)
 (c:w.heap[r]?=some (.cells l ty (0,0))):(execOp a.eval o).run P w=.ok (.value (.agg l)) w:=by
 unfold execOp;rw[g];have h:=eo P w r 0 n l ty (0,0) c uM
 have e:((l.toList.drop 0).take n).toArray=l:=by
  rw[aIn,aHS zS]
 rw[e]at h;simp[f,Instr.loadAt,Instr.sureAddr,loadVar,b,i,h]
end
def MU (a:Int)(x:CV)(es:List eK):List eK:=match wT a es with|some _=>rC a x es|none=>es++[(.int .i64 a,x,0)]
def TU (b:Nat)(a:Int)(x:CV)(es:List eK)(st:St):Ax .int b es (.int .i64 a) x st=.ok .undef (st.set b (.lmap (MU a x es))):=by
 unfold Ax MU;have:Kd .int (.int .i64 a)=some a:=rfl;rw[this];dsimp only;cases wT a es with
 |some u=>rfl
 |none=>rfl
def Ge {a:Int}{x:CV}(b:∀e∈es,e.2.2=0):(∀y∈MU a x es,y.2.2=0)/\∀y,y∈MU a x es↔y=(.int .i64 a,x,0)\/(y∈es/\y.1≠ .int .i64 a):=by
 unfold MU;cases hg:wT a es with
 |none=>
  have k:=tX hg;refine⟨λy c=>?_,λy=>?_⟩
  .rcases aHT.1 c with h|h
   .exact b y h
   .rw[aJb.1 h]
  .constructor
   .intro h;rcases aHT.1 h with h|h
    .exact .inr ⟨h,k y h⟩
    .exact .inl (aJb.1 h)
   .rintro(rfl|⟨h,_⟩)
    .exact aHT.2 (.inr (aJb.2 rfl))
    .exact aHT.2 (.inl h)
 |some u=>
  obtain⟨j,i,g,_⟩:=yh hg
  have f:∀y,y∈rC a x es↔y=(.int .i64 a,x,0)\/(y∈es/\y.1≠ .int .i64 a):=by
   intro y;rw[oR,aIk];constructor
   .rintro⟨e,he,rfl⟩
    split
    .rename_i hi;have m:=pS.1 hi;exact .inl (by rw[m,b e he])
    .rename_i hi;exact .inr ⟨he,λhh=>hi (pS.2 hh)⟩
   .rintro(rfl|⟨h,hn⟩)
    .refine⟨j,i,?_⟩;rw[aHP (pS.2 g),g,b j i]
    .exact⟨y,h,by rw[aHM (λhh=>hn (pS.1 hh))]⟩
  refine⟨λy c=>?_,f⟩;rcases(f y).1 c with rfl|⟨h,_⟩
  .rfl
  .exact b y h
def uT (h:(es.map (·.1)).Nodup):es.Nodup:=by
 unfold List.Nodup at h⊢;rw[aJT]at h;exact h.imp λb e=>b (by rw[e])
def Nw (h:(es.map (·.1)).Nodup){x y:eK}(c:x∈es)(b:y∈es)(he:x.1=y.1):x=y:=by
 obtain⟨i,hi,rfl⟩:=aIM c;obtain⟨j,hj,rfl⟩:=aIM b;have:=(List.getElem_inj (i:=i) (j:=j) (h₀:=Yy) (h₁:=adn) h).1 acn;subst this;rfl
def gf {a:Act}(h:16<=a.tmps.size)(f:d<16):∃b,a.put (some d) v=b/\16<=b.tmps.size/\b.defers=a.defers/\b.eval (.tmp d)=v/\∀k,k≠d->b.eval (.tmp k)=a.eval (.tmp k):=
 ⟨_,rfl,by simpa[Act.put]using h,rfl,Cz uM,λk c=>Il (λe=>c e.symm)⟩
section
variable {P:Program} {ρ:Ren} {st:St} {w:World}
def bp.PE {b:Nat}{x y:rU}(h:bp ρ kL w0 ρ ((kL.set b x).set b y) w):bp ρ kL w0 ρ (kL.set b y) w:=
 bp.sK h (λq _ _=>by
  by_cases e:q=b
  .subst e;simp[St.set,PT.dj]
  .simp[St.set,PT.du _ _ _ _ e]) rfl
structure Wt (ρ:Ren)(kL:St)(w0:World)(bd:Nat)(rd rs it IA:Nat)(es':List MapEntry)(pl S D:List eK)(n:Nat)(a:Act)(w:World):Prop where
 out:∃(cur q:List eK) (seen:Array Nat) (c0:Nat),bp ρ kL w0 ρ (kL.set bd (.lmap cur)) w/\(∀x∈cur,x.2.2=0)/\(∀x,x∈cur↔x∈q\/(x∈D/\∀y∈q,y.1≠x.1))/\(∀y∈q,y∈S)/\
  (∀(i:Nat) (e:eK) (e':MapEntry),pl[i]?=some e->es'[i]?=some e'->seen.contains e'.born=true->((e.1,e.2.1,0):eK)∈q)/\
  w.heap[it]?=some (.mapIter (some rs) IA seen c0)/\IA<=c0/\(leftOf es'.toArray seen).size<n
 src:w.heap[rs]?=some (.map es'.toArray IA)
 size:16<=a.tmps.size
 dst:a.eval (.tmp 0)=.map (some rd)
 iter:a.eval (.tmp 7)=.pointer (some ⟨it,0,none⟩)
 defers:a.defers=[]
def Ix {f:Nat}(hf:SZ P f n){args:List CV}{st':St}{v:CV}(h:Iy n args st=some (.ok v st')):uw P f args st v st':=by
 obtain⟨fn,t,kt,et,d0,R0,R1,R2,R3,o0,o1,o2,o3,o4,o5,o6,o7,o8,o9,p0,p1,p2,p3,aM,HX,Kk,bx,bt,aQ,aP,aO,aN,B,⟨x0,y0⟩,⟨x1,y1⟩,⟨x2,y2⟩,⟨x3,y3⟩,⟨x4,y4⟩,⟨x5,y5⟩,⟨x6,y6⟩,⟨x7,y7⟩,⟨x8,y8⟩,⟨x9,y9⟩,⟨z0,u0⟩,⟨z1,u1⟩,⟨z2,u2⟩,⟨z3,u3⟩,aD,XL,ao,Mq,⟨ti,tz,ZB,aF,aG,aH⟩,bj⟩:=hf.out;unfold Iy at h
 split at h
 .rename_i bd bs
  split at h
  .rename_i hh;obtain⟨gV,hd,hs,XA,mC,bu⟩:=hh;generalize mF (st.m.g bd)=d at*;generalize mF (st.m.g bs)=s at*;cases h
   ··
      refine .inl ⟨HX,λρ w args' hw ha=>?_⟩;obtain⟨x',t1,e1,H,FZ⟩:=ha.inv;obtain⟨y',t2,e2,A,VH⟩:=FZ.inv;have e3:t2=[]:=by have:=VH.len;simpa using this.symm
      subst e3;subst e2;have e4:args'= #[x',y']:=adt
      subst e4;cases H with
      |map _ rd ab Z=>
      cases A with
      |map _ rs aE ad=>
      obtain⟨G,es',E,A2,Kr,aj,ac,HS,jm,bw⟩:=AI hw hs mC ad;obtain⟨_,_,_,_,_,_,_,bl,aC,_⟩:=AI hw hd XA Z
      obtain⟨bF,aB⟩:∃blk,st.m.g bd=some blk:=by
       cases hb:st.m.g bd with
       |some x=>exact⟨x,rfl⟩
       |none=>rw[hb]at hd;exact hd.elim
      obtain⟨bE,aA⟩:∃blk,st.m.g bs=some blk:=by
       cases hb:st.m.g bs with
       |some x=>exact⟨x,rfl⟩
       |none=>rw[hb]at hs;exact hs.elim
      have bo:rd≠rs:=λe=>gV (hw.inj bd bs _ _ rd ab aE aB aA Z (by rw[e];exact ad))
      have Dt:∀b blk r sz,st.m.g b=some blk->ρ b=some (r,sz)->r<w.heap.size:=λb blk r sz u C=>by
       obtain⟨o,Y,_⟩:=hw.at' b blk r sz u C;exact(aIy.1 Y).1
      have bH:=Dt _ _ _ _ aB Z;have bq:=Dt _ _ _ _ aA ad;have aS:=bp.Y6 hw hd XA Z
      have Vd:∀(k:Nat) (z:rU),w.heap.size<=k->∀b blk sz,(st.set bd z).m.g b=some blk->ρ b≠some (k,sz):=λk z hk b blk sz u C=>by
       by_cases e:b=bd
       .subst e;rw[Z]at C;cases C;omega
       .simp only[St.set,PT.du _ _ _ _ e]at u;have:=Dt b blk k sz u C;omega
      have ak:∀w:World,(Go.sizeOf et).run P w=.ok n w:=λw=>by rw[iw ZB,aG]
      have R:∀(m:Nat) (a:Act) (L:World),Wt ρ st w bd rd rs w.heap.size G es' E (ia s) (ia d) m a L->
       Code.rounds P (.seq (.region 1 R1 false) (.seq (.cond (.tmp 9) .skip (.exit 0)) (.block 1 (.seq (.region 2 R2 false) (.region 3 R3 false)))))
        (Exit.inBlock 0 (bodyPost P fn λe w'=>∃v' af,e=.returned v'/\VR af .undef v'/\bp ρ st w af ⟨st.m.put bd (some (.lmap (lp d s))),st.nx⟩ w')) m a L:=by
       intro m
       induction m with
       |zero=>intro a L F;obtain⟨_,_,_,_,_,_,_,_,_,_,_,aJ⟩:=F.out;omega
       |succ m ih=>
        intro a L F;obtain⟨z,q,c,c0,X,ag,Cs,U,Xm,am,Fm,aJ⟩:=F.out;rw[rounds_succ];apply wp_seq;apply wp_region_list;rw[aP];rcases run_next_at (P:=P) L o2.type w.heap.size rs G c0 c es'.toArray G am F.src (λx H=>ac.1 x H) Fm with⟨hz,kq⟩|⟨e,he,O,Zv,kq⟩
        .refine pF (B o2 wb) (GC x2 (by rw[F.iter];exact kq)) ?_;rw[y2];obtain⟨a1,K,s1,f1,v1,k1⟩:=gf (v:=.tuple #[.bool false]) F.size (show 8<16 from xI);rw[K];refine pF (B o3 wb) (pL (v:=.bool false) x3 v1 rfl) ?_;rw[y3];obtain⟨a2,J,s2,f2,v2,k2⟩:=gf (v:=.bool false) s1 (show 9<16 from xI);rw[J];refine wpList_nil ?_;apply wp_seq;refine wp_cond_false v2 (wp_exit ?_);refine⟨by rw[f2,f1];exact F.defers,.tuple #[],?_,.tuple #[],ρ,rfl,.undef,?_⟩
         .unfold results;rw[Kk,Array.mapM_eq_mapM_toList]
          rfl
         .have eF:=all_seen es'.toArray c hz
          have ap:∀y∈ia s,y∈q:=by
           intro y A;rw[gw]at A;obtain⟨e,he,rfl⟩:=aIk.1 A;obtain⟨i,hi,rfl⟩:=aIM (Kr.mem_iff.2 he);have yV:i<es'.length:=uM
           exact Xm i E[i] es'[i] (aHO hi) (aHO yV) (eF _ wb)
          obtain⟨o,Y,g2⟩:=X.wr.at' bd (.lmap z) rd ab (by simp[St.set,PT.dj]) Z;cases g2 with
          |lmap _ l bv es2 hp hi hn zo hl hv=>
           have Me:z.Perm (lp d s):=by
            refine(List.perm_ext_iff_of_nodup (uT hn) (uT (wR aC jm))).2 λx=>?_;rw[Cs x,vz d s x];constructor
            .rintro(h|⟨u,C⟩)
             .exact .inl (U x h)
             .exact .inr ⟨u,λy A=>C y (ap y A)⟩
            .rintro(h|⟨u,C⟩)
             .exact .inl (ap x h)
             .exact .inr ⟨u,λy A=>C y (U y A)⟩
           refine bp.PE (x:=.lmap z) (X.trans ?_)
           exact bp.set (blk0:=.lmap z) X.wr (by simp[St.set,PT.dj]) Z Y
            (.lmap _ l bv es2 (hp.trans Me) (Hh bl HS) (wR aC jm) zo hl hv ab) (λ_ _=>rfl) rfl rfl rfl
        .obtain⟨Tu,bz⟩:=mem_left he;obtain⟨i,hi,an⟩:=aIM (show e∈es' from by simpa using Tu);have FW:i<E.length:=by omega
         obtain⟨T,ai⟩:=aj i E[i] e (aHO FW) (by rw[<-an];exact aHO hi);have I6:=Kr.mem_iff.1 (aIc FW);obtain⟨M,V⟩:=HS _ I6;have Ff:e.key=.int .i64 M:=by rw[V]at T;exact vJ T
         obtain⟨sg,Ve,bI,ku⟩:=bu _ I6
         obtain⟨l',Fe,ae⟩:∃l':List Value,e.val=.agg l'.toArray/\eM ρ sg l':=by
          have Zx:=ai;rw[Ve]at Zx;generalize e.val=ev at Zx;cases Zx with
          |agg _ l hl hh=>exact⟨l,rfl,eM.mk hl hh⟩
         have al:l'.toArray.size=n:=by
          have:=ae.len;simp;omega
         refine pF (B o2 wb) (GC x2 (by rw[F.iter];exact kq)) ?_;rw[y2];obtain⟨a1,K,s1,f1,v1,k1⟩:=gf (v:=.tuple #[.bool true,e.key,e.val]) F.size (show 8<16 from xI);rw[K];refine pF (B o3 wb) (pL (v:=.bool true) x3 v1 rfl) ?_;rw[y3];obtain⟨a2,J,s2,f2,v2,k2⟩:=gf (v:=.bool true) s1 (show 9<16 from xI);rw[J];refine wpList_nil ?_;apply wp_seq;refine wp_cond_true v2 (wp_skip ?_);apply wp_block;apply wp_seq;apply wp_region_list;rw[aO];generalize FQ:setBlock O w.heap.size (.mapIter (some rs) G (c.push e.born) G)=w2;have Vy:O.heap=L.heap/\O.os=L.os/\O.output=L.output:=by rcases Zv with rfl|rfl<;>exact⟨rfl,rfl,rfl⟩
         have bG:=X.size;have bn:=(aIy.1 am).1;have bD:w2.heap.size=L.heap.size:=by rw[<-FQ];simp[setBlock,Vy.1]
         have ax:∀r,r≠w.heap.size->w2.heap[r]?=L.heap[r]?:=λr D=>by rw[<-FQ];simp only[setBlock,Vy.1];rw[aIU (λe=>D e.symm)]
         have ay:w2.heap[w.heap.size]?=some (.mapIter (some rs) G (c.push e.born) G):=by rw[<-FQ];simp[setBlock,Vy.1,bn]
         have bk:w2.os=w.os:=by rw[<-FQ];exact Vy.2.1.trans X.os
         have br:w2.output=w.output:=by rw[<-FQ];exact Vy.2.2.trans X.output
         have RO:=X.unk w.heap.size (aHK _) (Vd _ _ (aHK _)) uM (λr _ D=>ax r D) (bk.trans X.os.symm) (br.trans X.output.symm);have X4:w2.heap[rs]?=some (.map es'.toArray G):=by rw[ax rs uM];exact F.src
         have i2:a2.eval (.tmp 7)=.pointer (some ⟨w.heap.size,0,none⟩):=by rw[k2 7 xI,k1 7 xI];exact F.iter
         refine pF (B o4 wb) (Nb x4 (by rw[i2];exact run_entry_at w2 w.heap.size rs G c es'.toArray G e ay X4 Tu ac.2.1)) ?_;rw[y4];obtain⟨a3,bg,s3,f3,v3,k3⟩:=gf (v:=.tuple #[e.key,e.val]) s2 (show 10<16 from xI);rw[bg];refine pF (B o5 wb) (pL (v:=e.key) x5 v3 rfl) ?_;rw[y5];obtain⟨a4,bf,s4,f4,v4,k4⟩:=gf (v:=e.key) s3 (show 11<16 from xI);rw[bf];refine pF (B o6 wb) (pL (v:=e.val) x6 (by rw[k4 10 xI];exact v3) rfl) ?_;rw[y6];obtain⟨a5,be,s5,f5,v5,k5⟩:=gf (v:=e.val) s4 (show 12<16 from xI);rw[be];refine pF (B o7 wb) (JB x7 ZB aF) ?_;rw[y7];obtain⟨a6,bc,s6,f6,v6,k6⟩:=gf (v:=.pointer (some ⟨w2.heap.size,0,none⟩)) s5 (show 5<16 from xI);rw[bc];generalize Tm:({w2 with heap:=w2.heap.push (.cells tz.cells et)}:World)=w3;have bC:w3.heap.size=w2.heap.size+1:=by rw[<-Tm];simp
         have av:∀r,r<w2.heap.size->w3.heap[r]?=w2.heap[r]?:=λr D=>by rw[<-Tm];show(w2.heap.push _)[r]?=_;rw[aKu,aHM uM]
         have aw:w3.heap[w2.heap.size]?=some (.cells tz.cells et (0,0)):=by rw[<-Tm];show(w2.heap.push _)[_]?=_;simp
         have aR:=RO.unk w2.heap.size RO.size (Vd _ _ RO.size) uM (λr D _=>av r D) (by rw[<-Tm]) (by rw[<-Tm]);refine pF (B o8 wb) (JA x8) ?_;rw[y8,show a6.eval (.tmp 11)=e.key from by rw[k6 11 xI,k5 11 xI];exact v4];obtain⟨a7,bb,s7,f7,v7,k7⟩:=gf (v:=e.key) s6 (show 4<16 from xI);rw[bb];refine Wy (B o9 wb) (Jz (l:=l'.toArray) (n:=n) x9 (by rw[k7 5 xI];exact v6) (by rw[k7 12 xI,k6 12 xI,v5,Fe]) (ak w3) al aw aH (λv hv=>?_)) ?_
         .obtain⟨j,hj,rfl⟩:=aIM hv;have aL:j<l'.length:=by simpa using hj
          have bA:j<sg.length:=by rw[ae.len];exact aL
          exact nX (ae.at' j sg[j] _ wb wb) (nW sg ku _ (aIc _))
         rw[y9];generalize I:w3.setRow w2.heap.size l'.toArray=N;have bB:N.heap.size=w3.heap.size:=by rw[<-I];exact pK _ _ _
         have au:∀r,r≠w2.heap.size->N.heap[r]?=w3.heap[r]?:=λr D=>by rw[<-I];exact nU _ _ _ _ D
         have aV:N.heap[w2.heap.size]?=some (.cells l'.toArray et (0,0)):=by rw[<-I];exact setRow_heap _ _ _ _ _ _ aw
         have ar:=aR.unk w2.heap.size RO.size (Vd _ _ RO.size) uM (λr _ D=>au r D) (by rw[<-I];rfl) (by rw[<-I];rfl);refine wpList_nil ?_;apply wp_region_list;rw[aN];have bJ:∀k,a7.put none undef=a7\/k=0:=λ_=>.inl rfl;have bi:a7.put none undef=a7:=rfl;rw[bi];have e0:a7.eval (.tmp 0)=.map (some rd):=by rw[k7 0 xI,k6 0 xI,k5 0 xI,k4 0 xI,k3 0 xI,k2 0 xI,k1 0 xI];exact F.dst
         have e7:a7.eval (.tmp 7)=.pointer (some ⟨w.heap.size,0,none⟩):=by rw[k7 7 xI,k6 7 xI,k5 7 xI,k4 7 xI,k3 7 xI];exact i2
         have e5:a7.eval (.tmp 5)=.pointer (some ⟨w2.heap.size,0,none⟩):=by rw[k7 5 xI];exact v6
         refine pF (B p0 wb) (Ai z0) ?_;rw[u0,e0];obtain⟨a8,ba,s8,f8,v8,k8⟩:=gf (v:=.map (some rd)) s7 (show 13<16 from xI);rw[ba];refine pF (B p1 wb) (Ai z1) ?_;rw[u1,show a8.eval (.tmp 4)=e.key from by rw[k8 4 xI];exact v7];obtain⟨a9,aZ,s9,f9,v9,k9⟩:=gf (v:=e.key) s8 (show 14<16 from xI);rw[aZ];refine pF (B p2 wb) (Na z2 (by rw[k9 5 xI,k8 5 xI];exact e5) (ak N) al (bj N) aV) ?_;rw[u2];obtain⟨aa,aY,sa,fa,va,S⟩:=gf (v:=.agg l'.toArray) s9 (show 15<16 from xI);rw[aY]
         have bm:sn .int (.int .i64 M)=true:=by
          unfold sn;have:mJ .int (.int .i64 M) (.int .i64 M)=some (zeq M M):=rfl;rw[this,(zz M M).2 rfl];rfl
         obtain⟨_,aW,bh,aI,aq⟩:=CY (TU bd M (.agg sg) z (st.set bd (.lmap z))) ar.wr (by simp[St.set,PT.dj]) Z (k':=e.key) (y':=.agg l'.toArray) (by rw[<-V];exact T) (by rw[<-Ve,<-Fe];exact ai) aD XL ao
          (λee=>mY bm XL ao Mq (by rw[<-V];exact T) ee)
         refine Wy (B p3 wb) (Jy z3 (by rw[S 13 xI,S 14 xI,va,k9 13 xI,v8,v9];exact aI)) ?_;rw[u3,show aa.put none undef=aa from rfl];refine wpList_nil ?_;apply ih;generalize ah:({N with heap:=N.heap.setIfInBounds rd (.map aW.toArray bh)}:World)=w5;rw[ah]at aq;have aT:∀r,r≠rd->w5.heap[r]?=N.heap[r]?:=λr D=>by rw[<-ah];show(N.heap.setIfInBounds rd _)[r]?=_;rw[aIU (λe=>D e.symm)]
         have Rv:∀r,r≠rd->r<w2.heap.size->w5.heap[r]?=w2.heap[r]?:=λr u C=>by rw[aT r u,au r uM,av r C]
         refine⟨⟨MU M (.agg sg) z,(E[i].1,E[i].2.1,0)::q,c.push e.born,G,(ar.trans aq).PE,?_,?_,?_,?_,?_,aHK _,?_⟩,?_,sa,?_,?_,?_⟩
         .exact(Ge ag).1
         .intro x;have hS:((E[i].1,E[i].2.1,0):eK)∈ia s:=by rw[gw];exact aIk.2 ⟨_,I6,rfl⟩
          have L5:∀x∈ia s,x.1=E[i].1->x=(E[i].1,E[i].2.1,0):=λx H Zt=>Nw (pE jm) H hS Zt;rw[(Ge ag).2 x,Cs x,<-Ve,<-V];constructor
          .rintro(rfl|⟨u|⟨u,C⟩,h3⟩)
           .exact .inl (aIO ..)
           .exact .inl (aIH _ u)
           .refine .inr ⟨u,λy A=>?_⟩;rcases aHJ.1 A with rfl|A
            .exact λe=>h3 e.symm
            .exact C y A
          .rintro(u|⟨u,C⟩)
           .rcases aHJ.1 u with rfl|u
            .exact .inl rfl
            .by_cases H:x.1=E[i].1
             .exact .inl (L5 x (U x u) H)
             .exact .inr ⟨.inl u,H⟩
           .exact .inr ⟨.inr ⟨u,λy A=>C y (aIH _ A)⟩,λe=>C _ (aIO ..) e.symm⟩
         .intro y A;rcases aHJ.1 A with rfl|A
          .rw[gw];exact aIk.2 ⟨_,I6,rfl⟩
          .exact U y A
         .intro j e1 az Y g2 g3;rw[contains_push,aIK]at g3;rcases g3 with g3|g3
          .exact aIH _ (Xm j e1 az Y g2 g3)
          .have hb:=beq_iff_eq.1 g3;have hj:=(aHW.1 g2).1;have aK:es'[j]=az:=(aHW.1 g2).2
           have Ky:j=i:=by
            have HH:=ac.2.1;rw[List.toList_toArray]at HH;have:=(List.getElem_inj (i:=j) (j:=i) (h₀:=adn) (h₁:=Yy) HH).1 (by simp[aK,an,hb]);exact this
           subst Ky;have:e1=E[j]:=by rw[aHO FW]at Y;exact(aJX Y).symm
           rw[this];exact aIO ..
         .rw[Rv _ uM uM];exact ay
         .have:=left_shrinks es'.toArray c e he;omega
         .rw[Rv rs (λe=>bo e.symm) uM];exact X4
         .rw[S 0 xI,k9 0 xI,k8 0 xI];exact e0
         .rw[S 7 xI,k9 7 xI,k8 7 xI];exact e7
         .rw[fa,f9,f8,f7,f6,f5,f4,f3,f2,f1];exact F.defers
      refine calls_of_wp aM bt ?_;apply wp_seq;apply wp_region_list;rw[aQ];generalize W:({tmps:= #[Value.map (some rd),Value.map (some rs)]++Array.replicate (fn.ntmps-(#[Value.map (some rd),Value.map (some rs)]:Array Value).size) undef,defers:=[]}:Act)=a0;have s0:16<=a0.tmps.size:=by rw[<-W];simp;omega
      have g0:a0.eval (.tmp 0)=.map (some rd):=by rw[<-W];simp[Act.eval,aKC]
      have Y:a0.eval (.tmp 1)=.map (some rs):=by rw[<-W];simp[Act.eval,aKC]
      refine pF (B o0 wb) (Ai x0) ?_;rw[y0,Y];obtain⟨a1,K,s1,f1,v1,k1⟩:=gf (v:=.map (some rs)) s0 (show 6<16 from xI);rw[K];refine pF (B o1 wb) (M9 x1 (by rw[v1];exact run_range_map w t kt et rs es'.toArray G aD A2)) ?_;rw[y1];obtain⟨a2,J,s2,f2,v2,k2⟩:=gf (v:=.pointer (some ⟨w.heap.size,0,none⟩)) s1 (show 7<16 from xI);rw[J];refine wpList_nil ?_;apply wp_block;refine wp_loop_rounds ((leftOf es'.toArray #[]).size+1) (R _ _ _ ⟨⟨ia d,[], #[],G,?_,?_,?_,?_,?_,heap_alloc_new _ _,aHK _,uM⟩,?_,s2,?_,v2,?_⟩)
      .exact aS.unk w.heap.size (aHK _) (Vd _ _ (aHK _)) (by show _<=(w.heap.push _).size;simp) (λr D _=>heap_alloc_old w _ D) rfl rfl
      .intro x H;rw[gw]at H;obtain⟨e,_,rfl⟩:=aIk.1 H;rfl
      .intro x;simp
      .intro y A;cases A
      .intro i e e' _ _ hc;simp at hc
      .rw[heap_alloc_old w _ bq];exact A2
      .rw[k2 0 xI,k1 0 xI];exact g0
      .rw[f2,f1,<-W]
  .cases h
 .cases h
end
end
