import Derived.Test.YtnahbemmgcjojaaGreatDoorGr01
import Derived.Scope
import Derived.LoopN
namespace Lim
open Go
noncomputable section
def sI (x:CV)(st:St):Option (List eK):=
 match x with
 | .cD=>some []
 | .map b=>(match st.mem.get b with|some (.map es _)=>some es|_=>none)
 |_=>none
def lN (x:CV)(st:St):Option (List eK):=
 match x with
 | .map b=>(match st.mem.get b with|some (.lmap es)=>some es|_=>none)
 |_=>none
def wh (a:Int)(v:CV):Bool:=match v with| .int .i64 n=>PO a n|_=>false
def sb (a:Int)(es:List eK):Option CV:=List.rec (motive:=fun _=>Option CV) none (fun e _ ih=>bk (wh a e.1) (some e.2.1) ih) es
def mO (a:Int)(x:CV)(es:List eK):List eK:=List.rec (motive:=fun _=>List eK) [] (fun e _ ih=>bk (wh a e.1) ((e.1,x,e.2.2)::ih) (e::ih)) es
def BS (d:gH)(k:CV):Option Int:=match d,k with| .int, .int .i64 a=>some a|_,_=>none
def oV (d:gH)(z:CV)(ok:Bool)(es:List eK)(k:CV)(st:St):OR:=
 match BS d k with
 |some a=>(match sb a es with
  |some u=>bk ok (.ok (.tuple [u, .bool true]) st) (.ok u st)
  |none=>bk ok (.ok (.tuple [z, .bool false]) st) (.ok z st))
 |none=> .bad
def fO (d:gH)(z:CV)(ok:Bool)(x k:CV)(st:St):OR:=
 bk (qG d k) (match lN x st with
  |some es=>oV d z ok es k st
  |none=>(match sI x st with
  |some es=>(match ir d k es 0 with
   |some (some (_,u))=>bk ok (.ok (.tuple [u, .bool true]) st) (.ok u st)
   |some none=>bk ok (.ok (.tuple [z, .bool false]) st) (.ok z st)
   |none=> .bad)
  |none=> .bad)) .bad
def rY (es:List eK)(i:Nat)(e:eK):List eK:=
 List.rec (motive:=fun _=>Nat->List eK) (fun _=>[]) (fun x r ih i=>Nat.rec (e::r) (fun j _=>x::ih j) i) es i
def uV (es:List eK)(i:Nat):Option eK:=List.rec (motive:=fun _=>Nat->Option eK) (fun _=>none) (fun x _ ih i=>Nat.rec (some x) (fun j _=>ih j) i) es i
def Fe (es:List eK)(i:Nat):List eK:=
 List.rec (motive:=fun _=>Nat->List eK) (fun _=>[]) (fun x r ih i=>Nat.rec r (fun j _=>x::ih j) i) es i
def xF (d:gH)(b:Nat)(es:List eK)(k x:CV)(st:St):OR:=
 match BS d k with
 |some a=>(match sb a es with
  |some _=> .ok .undef ⟨st.mem.put b (some (.lmap (mO a x es))),st.next⟩
  |none=> .ok .undef ⟨st.mem.put b (some (.lmap (es++[(k,x,0)]))),st.next⟩)
 |none=> .bad
def ef (d:gH)(m k x:CV)(st:St):OR:=
 bk (qG d k) (match m with
  | .map b=>(match st.mem.get b with
    |some (.lmap es)=>xF d b es k x st
    |some (.map es clock)=>(match ir d k es 0 with
     |some (some (i,_))=>(match uV es i with
      |some (k0,_,born)=>bk (uu k0 k) (.ok .undef ⟨st.mem.put b (some (.map (rY es i (k,x,born)) clock)),st.next⟩) .bad
      |none=> .bad)
     |some none=>j9 (Nat.succ clock) fun c=> .ok .undef ⟨st.mem.put b (some (.map (es++[(k,x,clock)]) c)),st.next⟩
     |none=> .bad)
    |_=> .bad)
  |_=> .bad) .bad
def pV (d:gH)(z:CV)(m k:CV)(st:St):OR:=
 bk (qG d k) (match m with
  | .map b=>(match st.mem.get b with
    |some (.map es clock)=>(match ir d k es 0 with
     |some (some (i,u))=>(match uV es i with
      |some (k0,_,born)=>bk (uu k0 k) (.ok (.tuple [u, .int .i64 (.ofNat born)]) ⟨st.mem.put b (some (.map (rY es i (k,u,born)) clock)),st.next⟩) .bad
      |none=> .bad)
     |some none=>j9 (Nat.succ clock) fun c=> .ok (.tuple [z, .int .i64 (.ofNat clock)]) ⟨st.mem.put b (some (.map (es++[(k,z,clock)]) c)),st.next⟩
     |none=> .bad)
    |_=> .bad)
  |_=> .bad) .bad
def wG (born:Nat)(es:List eK):Nat->Option (Nat×eK):=
 List.rec (motive:=fun _=>Nat->Option (Nat×eK)) (fun _=>none) (fun x _ ih i=>bk (Nat.beq x.2.2 born) (some (i,x)) (ih (Nat.succ i))) es
def mI (m s x:CV)(st:St):OR:=
 match m,s with
 | .map b, .int _ (.ofNat born)=>(match st.mem.get b with
   |some (.map es clock)=>(match wG born es 0 with
    |some (i,(k,_,bn))=> .ok .undef ⟨st.mem.put b (some (.map (rY es i (k,x,bn)) clock)),st.next⟩
    |none=> .bad)
   |_=> .bad)
 |_,_=> .bad
def vP (d:gH)(m k:CV)(st:St):OR:=
 bk (qG d k) (match m with
  | .cD=> .ok .undef st
  | .map b=>(match st.mem.get b with
    |some (.map es clock)=>(match ir d k es 0 with
     |some (some (i,_))=> .ok .undef ⟨st.mem.put b (some (.map (Fe es i) clock)),st.next⟩
     |some none=> .ok .undef st
     |none=> .bad)
    |_=> .bad)
  |_=> .bad) .bad
def fU (r:Option CV)(st:St):OR:=
 match r with
 |none|some (.int _ _)=>j9 (st.next+1) fun n=> .ok (.map st.next) ⟨st.mem.put st.next (some (.map [] 0)),n⟩
 |_=> .bad
section
variable {P:Program} {ρ:Ren} {st st':St} {w:World} {v:CV}
def lX (ρ:Ren)(es:List eK)(es':List MapEntry):Prop:=
 es.length=es'.length/\∀(i:Nat) (e:eK) (e':MapEntry),es[i]?=some e->es'[i]?=some e'->VR ρ e.1 e'.key/\VR ρ e.2.1 e'.val/\e.2.2=e'.born
theorem lX.nil:lX ρ [] []:=⟨rfl,fun i e e' h=>by simp at h⟩
theorem lX.cons {e:eK}{e':MapEntry}{es:List eK}{es':List MapEntry}(h:VR ρ e.1 e'.key/\VR ρ e.2.1 e'.val/\e.2.2=e'.born)(t:lX ρ es es'):lX ρ (e::es) (e'::es'):=
 ⟨by simp[t.1],fun i x x' a b=>by
  cases i with
  |zero=>simp at a b;subst a;subst b;exact h
  |succ i=>exact t.2 i x x' (by simpa using a) (by simpa using b)⟩
theorem lX.inv {e:eK}{es:List eK}{es':List MapEntry}(h:lX ρ (e::es) es'):∃e' t',es'=e'::t'/\(VR ρ e.1 e'.key/\VR ρ e.2.1 e'.val/\e.2.2=e'.born)/\lX ρ es t':=by
 cases es' with
 |nil=>have:=h.1;simp at this
 |cons e' t'=>exact⟨e',t',rfl,h.2 0 e e' rfl rfl,by have:=h.1;simpa using this,fun i x x' a b=>h.2 (i+1) x x' (by simpa using a) (by simpa using b)⟩
theorem lX.app {es fs:List eK}{es' Yr:List MapEntry}(h:lX ρ es es')(t:lX ρ fs Yr):lX ρ (es++fs) (es'++Yr):=by
 induction es generalizing es' with
 |nil=>have:es'=[]:=by have:=h.1;simpa using this.symm
       subst this;exact t
 |cons e es ih=>obtain⟨e',t',rfl,h1,h2⟩:=h.inv;exact lX.cons h1 (ih h2)
theorem lX.mod {f:MapEntry->MapEntry}{e:eK}:∀{es:List eK} {es':List MapEntry} (i:Nat),lX ρ es es'->(∀e',es'[i]?=some e'->VR ρ e.1 (f e').key/\VR ρ e.2.1 (f e').val/\e.2.2=(f e').born)->lX ρ (rY es i e) (es'.modify i f):=by
 intro es
 induction es with
 |nil=>
  intro es' i h _;have:es'=[]:=by have:=h.1;simpa using this.symm
  subst this;rw[List.modify_nil];exact h
 |cons x es ih=>
  intro es' i h hf;obtain⟨x',t',rfl,h1,h2⟩:=h.inv;cases i with
  |zero=>
   show lX ρ (e::es) _;rw[List.modify_zero_cons];exact lX.cons (hf x' rfl) h2
  |succ i=>
   show lX ρ (x::rY es i e) _;rw[List.modify_succ_cons];exact lX.cons h1 (ih i h2 (fun e' he=>hf e' (by simpa using he)))
theorem lX.del:∀{es:List eK} {es':List MapEntry} (i:Nat),lX ρ es es'->lX ρ (Fe es i) (es'.eraseIdx i):=by
 intro es
 induction es with
 |nil=>
  intro es' i h;have:es'=[]:=by have:=h.1;simpa using this.symm
  subst this;rw[List.eraseIdx_nil];exact h
 |cons x es ih=>
  intro es' i h;obtain⟨x',t',rfl,h1,h2⟩:=h.inv;cases i with
  |zero=>exact h2
  |succ i=>
   show lX ρ (x::Fe es i) _;rw[List.eraseIdx_cons_succ];exact lX.cons h1 (ih i h2)
theorem yu:∀(es:List eK) (i:Nat),uV es i=es[i]?:=by
 intro es
 induction es with
 |nil=>intro i;rfl
 |cons x es ih=>intro i;cases i with
  |zero=>rfl
  |succ i=>show uV es i=_;rw[ih];simp
theorem j8 {d:gH}{t:TypeId}{f m:Nat}{k:CV}{k':Value}(h:qG d k=true)(hd:eh P f t=some d)(hf:f<10000)(hm:fC m d=true)(hk:VR ρ k k')(e:Bool):(Instr.checkKey e 10000 t k').run P w= .ok () w:=by
 unfold qG at h;simp only[agp]at h
 have:jx d k k=some true:=by
  cases hc:jx d k k with
  |none=>rw[hc]at h;cases h.2
  |some b=>rw[hc]at h;rw[show b=true from h.2]
 exact Hl f t d hd m hm 10000 hf e k k' this hk
theorem cL.two {a b:CV}{a' b':Value}(ha:VR ρ a a')(hb:VR ρ b b'):cL ρ [a,b] [a',b']:=cL.cons ha (cL.cons hb (cL.nil ρ))
theorem rj {a:Int}{v:CV}:wh a v=true↔v= .int .i64 a:=by
 unfold wh
 split
 ·rw[vb];constructor
  ·intro h;rw[h]
  ·intro h;cases h;rfl
 ·rename_i h;constructor
  ·intro hh;cases hh
  ·intro hh;subst hh;exact(h _ rfl).elim
theorem uK (a:Int)(e:eK)(es:List eK):sb a (e::es)=bk (wh a e.1) (some e.2.1) (sb a es):=rfl
theorem BM (a:Int)(x:CV)(e:eK)(es:List eK):mO a x (e::es)=bk (wh a e.1) ((e.1,x,e.2.2)::mO a x es) (e::mO a x es):=rfl
theorem kM (a:Int)(x:CV)(es:List eK):mO a x es=es.map fun e=>if wh a e.1=true then (e.1,x,e.2.2)else e:=by
 induction es with
 |nil=>rfl
 |cons e es ih=>
  rw[BM,agH,<-ih,aO]
  split<;>rfl
theorem uJ {a:Int}:∀{es:List eK} {u:CV},sb a es=some u->∃e∈es,e.1= .int .i64 a/\e.2.1=u:=by
 intro es
 induction es with
 |nil=>intro u h;cases h
 |cons e es ih=>
  intro u h;rw[uK,aO]at h
  split at h
  ·rename_i hh;cases h;exact⟨e,aho ..,rj.1 hh,rfl⟩
  ·obtain⟨e',h1,h2⟩:=ih h;exact⟨e',agO _ h1,h2⟩
theorem qa {a:Int}:∀{es:List eK},sb a es=none->∀e∈es,e.1≠ .int .i64 a:=by
 intro es
 induction es with
 |nil=>intro _ e he;cases he
 |cons e es ih=>
  intro h x hx;rw[uK,aO]at h
  split at h
  ·cases h
  ·rename_i hh;rcases age.1 hx with rfl|hx
   ·exact fun hh'=>hh (rj.2 hh')
   ·exact ih h x hx
theorem BI {es:List eK}(hn:(es.map (·.1)).Nodup){e f:eK}(he:e∈es)(hf:f∈es)(h:e.1=f.1):e=f:=by
 induction es with
 |nil=>cases he
 |cons x es ih=>
  rw[agH,agF]at hn;rcases age.1 he with F8|F8
  ·rcases age.1 hf with hf1|hf1
   ·rw[F8,hf1]
   ·exact absurd (by rw[<-F8,h];exact ahy (f:=(·.1)) hf1) hn.1
  ·rcases age.1 hf with hf1|hf1
   ·exact absurd (by rw[<-hf1,<-h];exact ahy (f:=(·.1)) F8) hn.1
   ·exact ih hn.2 F8 hf1
theorem qC {t:TypeId}{a:Int}{k':Value}{f:Nat}{l:List eK}{es':List MapEntry}(hd:eh P f t=some .int)(hf:f<10000)(hk:VR ρ (.int .i64 a) k')(hi:∀e∈l,∃n:Int,e.1= .int .i64 n)(hl:l.length=es'.length)
 (h:∀(i:Nat) (e:eK) (e':MapEntry),l[i]?=some e->es'[i]?=some e'->VR ρ e.1 e'.key/\VR ρ e.2.1 e'.val):
 ∃r',(Instr.findKey t k' es').run P w= .ok r' w/\(match r' with
  |none=>∀e∈l,e.1≠ .int .i64 a
  |some (j,u')=>∃e e',l[j]?=some e/\es'[j]?=some e'/\e.1= .int .i64 a/\e'.val=u'):=by
 have key:∀(l:List eK) (i:Nat),(∀e∈l,∃n:Int,e.1= .int .i64 n)->
  (∃j e,l[j]?=some e/\e.1= .int .i64 a/\ir .int (.int .i64 a) l i=some (some (i+j,e.2.1)))\/((∀e∈l,e.1≠ .int .i64 a)/\ir .int (.int .i64 a) l i=some none):=by
  intro l
  induction l with
  |nil=>intro i _;exact .inr ⟨fun e he=>(by cases he),rfl⟩
  |cons e l ih=>
   intro i hi;obtain⟨n,hn⟩:=hi e (aho ..);have e0:ir .int (.int .i64 a) (e::l) i=Option.rec none (fun b=>bk b (some (some (i,e.2.1))) (ir .int (.int .i64 a) l (Nat.succ i))) (jx .int (.int .i64 a) e.1):=rfl;rw[e0,hn];have e1:jx .int (.int .i64 a) (.int .i64 n)=some (PO a n):=rfl;rw[e1];dsimp only;rw[aO]
   by_cases hz:PO a n=true
   ·rw[agl hz];have:=(vb a n).1 hz;subst this;exact .inl ⟨0,e,rfl,hn,rfl⟩
   ·rw[agf hz];rcases ih (i+1) (fun e he=>hi e (agO _ he))with⟨j,e',h1,h2,h3⟩|⟨h1,h2⟩
    ·exact .inl ⟨j+1,e',by simpa using h1,h2,by rw[show i+(j+1)=i+1+j by omega];exact h3⟩
    ·refine .inr ⟨fun x hx=> ?_,h2⟩;rcases age.1 hx with rfl|hx
     ·rw[hn];intro hh;cases hh;exact hz ((vb _ _).2 rfl)
     ·exact h1 x hx
 have Un:∀(i:Nat) (e:eK) (e':MapEntry),(List.zipWith (fun (e:eK) (e':MapEntry)=>((e.1,e.2.1,e'.born):eK)) l es')[i]?=some e->es'[i]?=some e'->∃e0,l[i]?=some e0/\e=(e0.1,e0.2.1,e'.born):=by
  intro i e e' h1 h2;rw[List.getElem?_zipWith]at h1;cases h3:l[i]? with
  |none=>rw[h3]at h1;simp at h1
  |some e0=>rw[h3,h2]at h1;simp at h1;exact⟨e0,rfl,h1.symm⟩
 have hzi:∀e∈List.zipWith (fun (e:eK) (e':MapEntry)=>((e.1,e.2.1,e'.born):eK)) l es',∃n:Int,e.1= .int .i64 n:=by
  intro e he;obtain⟨i,gK,rfl⟩:=ahb he;have hlt:i<es'.length:=by simp at gK;omega
  obtain⟨e0,g1,g2⟩:=Un i _ es'[i] (agh gK) (agh hlt);rw[g2];exact hi e0 (agK g1)
 have hlen:(List.zipWith (fun (e:eK) (e':MapEntry)=>((e.1,e.2.1,e'.born):eK)) l es').length=es'.length:=by simp[hl]
 have IP:∀(i:Nat) (e:eK) (e':MapEntry),(List.zipWith (fun (e:eK) (e':MapEntry)=>((e.1,e.2.1,e'.born):eK)) l es')[i]?=some e->es'[i]?=some e'->VR ρ e.1 e'.key/\VR ρ e.2.1 e'.val/\e.2.2=e'.born:=by
  intro i e e' h1 h2;obtain⟨e0,g1,g2⟩:=Un i e e' h1 h2;obtain⟨g3,g4⟩:=h i e0 e' g1 h2;rw[g2];exact⟨g3,g4,rfl⟩
 rcases key _ 0 hzi with⟨j,e,h1,h2,h3⟩|⟨h1,h2⟩
 ·obtain⟨r',f1,f2⟩:=iL (P:=P) (w:=w) hd hf hk hlen IP h3;cases r' with
  |none=>exact f2.elim
  |some p=>
   obtain⟨j',u'⟩:=p;obtain⟨rfl,g2,e1,e',g3,g4,g5,g6⟩:=f2;rw[afZ]at g3 g4 f1;obtain⟨e0,k1,k2⟩:=Un j e1 e' g3 g4;rw[h1]at g3;cases g3;refine⟨_,f1,e0,e',k1,g4, ?_,g6⟩;rw[k2]at h2;exact h2
 ·obtain⟨r',f1,f2⟩:=iL (P:=P) (w:=w) hd hf hk hlen IP h2;cases r' with
  |some p=>exact f2.elim
  |none=>
   refine⟨_,f1,fun e he=> ?_⟩;obtain⟨i,gK,rfl⟩:=ahb he;have hlt:i<es'.length:=by omega
   have hm:(List.zipWith (fun (e:eK) (e':MapEntry)=>((e.1,e.2.1,e'.born):eK)) l es')[i]?=some (l[i].1,l[i].2.1,es'[i].born):=by
    rw[List.getElem?_zipWith,agh gK,agh hlt]
   exact h1 (l[i].1,l[i].2.1,es'[i].born) (agK hm)
theorem tK {d:gH}{z:CV}{ok:Bool}{t kt et:TypeId}{f m:Nat}{i:TypeInfo}{z':Value}{x k:CV}{x' k':Value}(h:fO d z ok x k st= .ok v st')(hw:WR ρ st w)(hx:VR ρ x x')(hk:VR ρ k k')
 (hu:P.underlying t=some (.map kt et)) (hd:eh P f kt=some d) (hf:f<10000) (hm:fC m d=true) (hi:P.info? et=some i) (hz:i.zero=some z') (rk:VR ρ z z'):bh P (Instr.lookup t x' k' ok) ρ st w v st':=by
 unfold fO at h;rw[aO]at h
 split at h
 ·rename_i F5;have wy:=fun e=>j8 (w:=w) F5 hd hf hm hk e
  by_cases FZ:∃es,lN x st=some es
  ·obtain⟨es,FZ⟩:=FZ;rw[FZ]at h;dsimp only at h;have FW:(zeroValue et).run P w= .ok z' w:=by simp[zeroValue,typeInfo,hi,hz]
   unfold lN at FZ
   split at FZ
   ·rename_i b
    split at FZ
    ·rename_i Lw oI;cases FZ;cases hx with
     |map _ r0 sz pq=>
      obtain⟨l,clock,es',h1,h2,h3,h4,h5,h6,h7⟩:=hw.lmap oI pq;unfold oV at h
      split at h
      ·rename_i a ha;unfold BS at ha
       split at ha
       ·cases ha;obtain⟨r',f1,f2⟩:=qC (P:=P) (w:=w) hd hf hk (fun e he=>h3 e (h2.mem_iff.1 he)) h6 h7
        have run:∀u' q,(match r' with|some (_,u)=>(.ok (u,true) w:Result (Value×Bool))|none=> .ok (z',false) w)= .ok (u',q) w->
         (Instr.lookup t (.map (some r0)) k' ok).run P w= .ok (if ok then .tuple #[u', .bool q]else u') w:=by
         intro u' q hq;simp only[Instr.lookup,Sem.run_bind,agd hu,Result.andThen_ok,Sem.run_pure,cu h1,wy,f1];cases r' with
         |none=>cases hq;simp[FW]
         |some p=>cases hq;simp
        cases hg:sb a es with
        |some u=>
         rw[hg]at h;obtain⟨e,he,F8,he2⟩:=uJ hg;cases r' with
         |none=>exact absurd F8 (f2 e (h2.mem_iff.2 he))
         |some p=>
          obtain⟨j,u'⟩:=p;obtain⟨e1,e',g1,g2,g3,g4⟩:=f2;have hee:=BI h4 (h2.mem_iff.1 (agK g1)) he (by rw[g3,F8]);subst hee;have hv:=(h7 j _ _ g1 g2).2;rw[he2,g4]at hv;have hr:=run u' true rfl;cases ok with
          |false=>cases h;exact bh.still hw hr hv
          |true=>cases h;exact bh.still hw hr (VR.tuple' (cL.two hv (.bool true)))
        |none=>
         rw[hg]at h;cases r' with
         |some p=>
          obtain⟨j,u'⟩:=p;obtain⟨e1,e',g1,g2,g3,g4⟩:=f2;exact absurd g3 (qa hg e1 (h2.mem_iff.1 (agK g1)))
         |none=>
          have hr:=run z' false rfl;cases ok with
          |false=>cases h;exact bh.still hw hr rk
          |true=>cases h;exact bh.still hw hr (VR.tuple' (cL.two rk (.bool false)))
       ·cases ha
      ·cases h
    ·cases FZ
   ·cases FZ
  have Ur:lN x st=none:=by
   cases hh:lN x st with
   |none=>rfl
   |some es=>exact absurd ⟨es,hh⟩ FZ
  rw[Ur]at h;dsimp only at h;cases he:sI x st with
  |none=>rw[he]at h;cases h
  |some es=>
   rw[he]at h;dsimp only at h
   have key:∃es':List MapEntry,lX ρ es es'/\∀(r:Option (Nat×Value)),(Instr.findKey kt k' es').run P w= .ok r w->∀u' q,(match r with|some (_,u)=>(.ok (u,true) w:Result (Value×Bool))|none=> .ok (z',false) w)= .ok (u',q) w->
    (Instr.lookup t x' k' ok).run P w= .ok (if ok then .tuple #[u', .bool q]else u') w:=by
    have FW:(zeroValue et).run P w= .ok z' w:=by simp[zeroValue,typeInfo,hi,hz]
    unfold sI at he
    split at he
    ·cases he;cases hx;refine⟨[],lX.nil,fun r hr u' q hq=> ?_⟩;simp only[Instr.lookup,Sem.run_bind,agd hu,Result.andThen_ok,Sem.run_pure,wy,hr];cases r with
     |none=>cases hq;simp[FW]
     |some p=>cases hq;simp
    ·rename_i b
     split at he
     ·rename_i Lw clock oI;cases he;cases hx with
      |map _ r0 sz pq=>
       obtain⟨es',h1,h2,h3⟩:=hw.map oI pq;refine⟨es',⟨h2,h3⟩,fun r hr u' q hq=> ?_⟩;simp only[Instr.lookup,Sem.run_bind,agd hu,Result.andThen_ok,Sem.run_pure,cu h1,wy,hr];cases r with
       |none=>cases hq;simp[FW]
       |some p=>cases hq;simp
     ·cases he
    ·cases he
   obtain⟨es',e1,e2⟩:=key;cases hc:ir d k es 0 with
   |none=>rw[hc]at h;cases h
   |some r=>
    rw[hc]at h;obtain⟨r',f1,f2⟩:=iL (P:=P) (w:=w) hd hf hk e1.1 e1.2 hc;cases r with
    |none=>
     cases r' with
     |some _=>exact f2.elim
     |none=>
      have:=e2 none f1 z' false rfl;cases ok with
      |false=>cases h;exact bh.still hw this rk
      |true=>cases h;exact bh.still hw this (VR.tuple' (cL.two rk (.bool false)))
    |some p=>
     obtain⟨j,u⟩:=p;cases r' with
     |none=>exact f2.elim
     |some p'=>
      obtain⟨j',u'⟩:=p';obtain⟨_,g2,_⟩:=f2;have:=e2 _ f1 u' true rfl;cases ok with
      |false=>cases h;exact bh.still hw this g2
      |true=>cases h;exact bh.still hw this (VR.tuple' (cL.two g2 (.bool true)))
 ·cases h
theorem aY.p9 {b:Nat}{es es2:List eK}{clock clock2 r sz:Nat}{es2':List MapEntry}(hw:WR ρ st w)(hm:st.mem.get b=some (.map es clock))(hr:ρ b=some (r,sz))(he:lX ρ es2 es2'):
 aY ρ st w ρ (st.set b (.map es2 clock2)) {w with heap:=w.heap.setIfInBounds r (.map es2'.toArray clock2)}:=by
 obtain⟨es',h1,_⟩:=hw.map hm hr;have hlt:=(agG.1 h1).1;exact aY.set hw hm hr (by simp[hlt]) (.map es2 clock2 es2' he.1 he.2 sz) (fun k hk=>by simp[agY (agZ hk)]) (by simp) rfl rfl
theorem dC {r clock:Nat}{es:Array MapEntry}{o:Obj}(h:w.heap[r]?=some (.map es clock)):(setObj r o).run P w= .ok () {w with heap:=w.heap.setIfInBounds r o}:=by
 simp only[setObj,Sem.run,h]
theorem aY.AG {b:Nat}{es es2 l2:List eK}{clock2 r sz:Nat}{es2':List MapEntry}(hw:WR ρ st w)(hm:st.mem.get b=some (.lmap es))(hr:ρ b=some (r,sz))(hp:l2.Perm es2)(hi:∀e∈es2,∃n:Int,e.1= .int .i64 n)(hn:(es2.map (·.1)).Nodup)
 (hs:Go.MapKept.Stamped es2'.toArray clock2) (hl:l2.length=es2'.length) (h:∀(i:Nat) (e:eK) (e':MapEntry),l2[i]?=some e->es2'[i]?=some e'->VR ρ e.1 e'.key/\VR ρ e.2.1 e'.val):
 aY ρ st w ρ (st.set b (.lmap es2)) {w with heap:=w.heap.setIfInBounds r (.map es2'.toArray clock2)}:=by
 obtain⟨_,_,es',h1,_⟩:=hw.lmap hm hr;have hlt:=(agG.1 h1).1;exact aY.set hw hm hr (by simp[hlt]) (.lmap es2 l2 clock2 es2' hp hi hn hs hl h sz) (fun k hk=>by simp[agY (agZ hk)]) (by simp) rfl rfl
theorem wi {n:Int}{v':Value}(h:VR ρ (.int .i64 n) v'):v'= .int .i64 n:=by cases h;rfl
theorem BB {d:gH}{b:Nat}{es:List eK}{t kt et:TypeId}{f r0 sz:Nat}{k y:CV}{k' y':Value}(h:xF d b es k y st= .ok v st')(hw:WR ρ st w)(oI:st.mem.get b=some (.lmap es))(pq:ρ b=some (r0,sz))(hk:VR ρ k k')(hy:VR ρ y y')
 (hu:P.underlying t=some (.map kt et)) (hd:eh P f kt=some d) (hf:f<10000) (wy:∀e,(Instr.checkKey e 10000 kt k').run P w= .ok () w):v= .undef/\∃(es2':List MapEntry) (clock2:Nat),(Instr.mapUpdate t (.map (some r0)) k' y').run P w= .ok () {w with heap:=w.heap.setIfInBounds r0 (.map es2'.toArray clock2)}/\aY ρ st w ρ st' {w with heap:=w.heap.setIfInBounds r0 (.map es2'.toArray clock2)}:=by
 obtain⟨l,clock,es',h1,h2,h3,h4,h5,h6,h7⟩:=hw.lmap oI pq;obtain⟨s1,s2,s3⟩:=h5;unfold xF at h
 split at h
 ·rename_i a ha;unfold BS at ha
  split at ha
  ·cases ha;obtain⟨r',f1,f2⟩:=qC (P:=P) (w:=w) hd hf hk (fun e he=>h3 e (h2.mem_iff.1 he)) h6 h7;have IV:=wi hk;subst IV;cases hg:sb a es with
   |none=>
    rw[hg]at h;cases h;cases r' with
    |some p=>
     obtain⟨j,u'⟩:=p;obtain⟨e1,e',g1,g2,g3,g4⟩:=f2;exact absurd g3 (qa hg e1 (h2.mem_iff.1 (agK g1)))
    |none=>
     have ku:∀e'∈es',e'.key≠ .int .i64 a:=by
      intro e' U0 hh;obtain⟨i,hi,rfl⟩:=ahb U0;have hlt:i<l.length:=by omega
      have hv:=(h7 i l[i] _ (agh hlt) (agh hi)).1;obtain⟨n,hn⟩:=h3 _ (h2.mem_iff.1 (agx hlt));rw[hn,hh]at hv;cases hv;exact f2 _ (agx hlt) hn
     refine⟨rfl,es'++[{key:=Value.int IntKind.i64 a,val:=y',born:=clock}],clock+1, ?_, ?_⟩
     ·simp only[Instr.mapUpdate,Sem.run_bind,agd hu,Result.andThen_ok,cu h1,wy,f1,dC h1];simp
     refine aY.AG (es2:=es++[(CV.int IntKind.i64 a,y,0)]) (l2:=l++[(CV.int IntKind.i64 a,y,0)]) (clock2:=clock+1) (es2':=es'++[{key:=Value.int IntKind.i64 a,val:=y',born:=clock}]) hw oI pq (h2.append_right _) ?_ ?_ ⟨?_, ?_, ?_⟩ (by simp[h6]) ?_
     ·intro e he;rcases agz.1 he with he|he
      ·exact h3 e he
      ·rw[ahu.1 he];exact⟨a,rfl⟩
     ·rw[ahp,ahz];refine⟨h4,by simp, ?_⟩;intro x hx y hy PZ;obtain⟨e,he,rfl⟩:=agJ.1 hx;simp at hy;subst hy;exact qa hg e he PZ
     ·intro x hx;rw[agz]at hx;rcases hx with hx|hx
      ·have:=s1 x hx;omega
      ·rw[ahu.1 hx];exact Nat.lt_succ_self _
     ·rw[ahp,ahz];refine⟨s2,by simp, ?_⟩;intro x hx y hy PZ;obtain⟨e,he,rfl⟩:=agJ.1 hx;simp at hy;subst hy;have:=s1 e he;omega
     ·rw[ahp,ahz];refine⟨s3,by simp, ?_⟩;intro x hx y hy PZ;obtain⟨e,he,rfl⟩:=agJ.1 hx;simp at hy;subst hy;exact ku e he PZ
     ·intro i e e' a1 a2;rcases ahD i l.length with hlt|sw
      ·rw[ahg hlt]at a1;rw[ahg (by omega)]at a2;exact h7 i e e' a1 a2
      ·rw[agN sw]at a1;rw[agN (by omega),<-h6]at a2;generalize i-l.length=q at a1 a2;cases q with
       |zero=>simp at a1 a2;subst a1;subst a2;exact⟨hk,hy⟩
       |succ q=>simp at a1
   |some u=>
    rw[hg]at h;cases h;obtain⟨e,he,F8,he2⟩:=uJ hg;cases r' with
    |none=>exact absurd F8 (f2 e (h2.mem_iff.2 he))
    |some p=>
     obtain⟨j,u'⟩:=p;obtain⟨e1,e',g1,g2,g3,g4⟩:=f2
     have Ez:e'.key= .int .i64 a:=by
      have hv:=(h7 j _ _ g1 g2).1;rw[g3]at hv;exact wi hv
     have FY:∀(l:List eK),(mO a y l).map (·.1)=l.map (·.1):=by
      intro l;rw[kM,aid];apply List.map_congr_left;intro x _;show(if wh a x.1=true then (x.1,y,x.2.2)else x).1=x.1
      split<;>rfl
     have Ey:((es'.modify j fun e=>{e with key:= .int .i64 a,val:=y'}).map (·.key))=es'.map (·.key):=by
      apply ahL;intro i;rw[agB,agB,List.getElem?_modify]
      by_cases EB:j=i
      ·subst EB;rw[g2];simp[Ez]
      ·simp[EB]
     have EK:((es'.modify j fun e=>{e with key:= .int .i64 a,val:=y'}).map (·.born))=es'.map (·.born):=by
      apply ahL;intro i;rw[agB,agB,List.getElem?_modify]
      by_cases EB:j=i
      ·subst EB;rw[g2];simp
      ·simp[EB]
     refine⟨rfl,es'.modify j fun e=>{e with key:= .int .i64 a,val:=y'},clock, ?_, ?_⟩
     ·have hsb:Instr.sameBits 10000 (.int .i64 a) (.int .i64 a)=true:=by simp[Instr.sameBits]
      simp only[Instr.mapUpdate,Sem.run_bind,agd hu,Result.andThen_ok,cu h1,wy,f1,Instr.keyThatStays,agP,g2,ahe,ahF,Ez,hsb,ags,Sem.run_pure,dC h1];simp
     refine aY.AG (l2:=mO a y l) (clock2:=clock) (es2':=es'.modify j fun e=>{e with key:= .int .i64 a,val:=y'}) hw oI pq (by rw[kM,kM];exact h2.map _) ?_ (by rw[FY];exact h4) ⟨?_, ?_, ?_⟩ (by rw[kM];simp[h6]) ?_
     ·intro x hx;rw[kM,agJ]at hx;obtain⟨x0,Ho,rfl⟩:=hx;obtain⟨n,hn⟩:=h3 x0 Ho
      split
      ·exact⟨n,hn⟩
      ·exact⟨n,hn⟩
     ·intro x hx;have:x.born∈(es'.modify j fun e=>{e with key:= .int .i64 a,val:=y'}).map (·.born):=ahy hx;rw[EK,agJ]at this;obtain⟨x0,Ho,e0⟩:=this;rw[<-e0];exact s1 x0 Ho
     ·show((es'.modify j fun e=>{e with key:= .int .i64 a,val:=y'}).map (·.born)).Nodup;rw[EK];exact s2
     ·show((es'.modify j fun e=>{e with key:= .int .i64 a,val:=y'}).map (·.key)).Nodup;rw[Ey];exact s3
     ·intro i x x' a1 a2;rw[kM,agB]at a1;rw[List.getElem?_modify]at a2
      by_cases EB:j=i
      ·subst EB;rw[g1]at a1;rw[g2]at a2;simp at a1 a2;subst a2;rw[agl (rj.2 g3)]at a1;subst a1;exact⟨by rw[g3];exact hk,hy⟩
      ·cases Us:l[i]? with
       |none=>rw[Us]at a1;simp at a1
       |some x0=>
        rw[Us]at a1;have PA:es'[i]?=some x':=by simpa[EB]using a2
        obtain⟨b1,b2⟩:=h7 i x0 x' Us PA
        have iJ:¬wh a x0.1=true:=by
         intro hh;have Ho:=rj.1 hh;rw[Ho]at b1;have Qp:=wi b1;have KJ:=(agt.1 g2).1;have zR:=(agt.1 PA).1;have uO:=List.pairwise_iff_getElem.1 s3
         have e1:(es'.map (·.key))[j]'(by simpa using KJ)= .int .i64 a:=by
          have:=(agt.1 g2).2;rw[ahG,this,Ez]
         have e2:(es'.map (·.key))[i]'(by simpa using zR)= .int .i64 a:=by
          have:=(agt.1 PA).2;rw[ahG,this,Qp]
         rcases ahD j i with qI|qI
         ·exact uO j i (by simpa using KJ) (by simpa using zR) qI (by exact e1.trans e2.symm)
         ·exact uO i j (by simpa using zR) (by simpa using KJ) (by omega) (by exact e2.trans e1.symm)
        simp only[ahe,ahq]at a1;rw[agf iJ]at a1;subst a1;exact⟨b1,b2⟩
  ·cases ha
 ·cases h
theorem xE {d:gH}{b:Nat}{es:List eK}{t kt et:TypeId}{f r0 sz:Nat}{k y:CV}{k' y':Value}(h:xF d b es k y st= .ok v st')(hw:WR ρ st w)(oI:st.mem.get b=some (.lmap es))(pq:ρ b=some (r0,sz))(hk:VR ρ k k')(hy:VR ρ y y')
 (hu:P.underlying t=some (.map kt et)) (hd:eh P f kt=some d) (hf:f<10000) (wy:∀e,(Instr.checkKey e 10000 kt k').run P w= .ok () w):u9 P (Instr.mapUpdate t (.map (some r0)) k' y') ρ st w v st':=by
 obtain⟨h1,es2,clock2,h2,h3⟩:=BB h hw oI pq hk hy hu hd hf wy;exact⟨_,ρ,h2,h1,h3⟩
theorem kL {d:gH}{t kt et:TypeId}{f m:Nat}{x k y:CV}{x' k' y':Value}(h:ef d x k y st= .ok v st')(hw:WR ρ st w)(hx:VR ρ x x')(hk:VR ρ k k')(hy:VR ρ y y')
 (hu:P.underlying t=some (.map kt et)) (hd:eh P f kt=some d) (hf:f<10000) (hm:fC m d=true):u9 P (Instr.mapUpdate t x' k' y') ρ st w v st':=by
 unfold ef at h;rw[aO]at h
 split at h
 ·rename_i F5;have wy:=fun e=>j8 (w:=w) F5 hd hf hm hk e
  split at h
  ·rename_i b
   split at h
   ·rename_i es oI;cases hx with
    |map _ r0 sz pq=>exact xE h hw oI pq hk hy hu hd hf wy
   ·rename_i es clock oI;cases hx with
    |map _ r0 sz pq=>
     obtain⟨es',h1,h2,h3⟩:=hw.map oI pq;cases hc:ir d k es 0 with
     |none=>rw[hc]at h;cases h
     |some r=>
      rw[hc]at h;obtain⟨r',f1,f2⟩:=iL (P:=P) (w:=w) hd hf hk h2 h3 hc;cases r with
      |none=>
       cases r' with
       |some _=>exact f2.elim
       |none=>
        dsimp only at h;rw[dj]at h;cases h;refine⟨_,ρ, ?_,rfl,aY.p9 (clock2:=clock+1) hw oI pq (lX.app ⟨h2,h3⟩ (lX.cons (e:=(k,y,clock)) (e':={key:=k',val:=y',born:=clock}) ⟨hk,hy,rfl⟩ lX.nil))⟩;simp only[Instr.mapUpdate,Sem.run_bind,agd hu,Result.andThen_ok,cu h1,wy,f1,dC h1];simp
      |some p=>
       obtain⟨j,u⟩:=p;cases r' with
       |none=>exact f2.elim
       |some p'=>
        obtain⟨j',u'⟩:=p';obtain⟨rfl,g2,e,e',g3,g4,g5,g6⟩:=f2;dsimp only at h;rw[yu,g3]at h;obtain⟨k0,u0,born⟩:=e;dsimp only at h;rw[aO]at h
        split at h
        ·rename_i hs;cases h;obtain⟨a1,a2,a3⟩:=h3 j _ _ g3 g4;obtain⟨s1,s2⟩:=qv hs a1 hk
         refine⟨_,ρ, ?_,rfl,aY.p9 (clock2:=clock) hw oI pq (lX.mod (e:=(k,y,born)) (f:=fun e=>{e with key:=k',val:=y'}) j ⟨h2,h3⟩ (fun e2 he2=>by
          rw[g4]at he2;cases he2;exact⟨hk,hy,a3⟩))⟩
         simp only[Instr.mapUpdate,Sem.run_bind,agd hu,Result.andThen_ok,cu h1,wy,f1,Instr.keyThatStays,agP,g4,ahe,ahF,s2,ags,Sem.run_pure,dC h1];simp
        ·cases h
   ·cases h
  ·cases h
 ·cases h
theorem qS {d:gH}{z:CV}{t kt et:TypeId}{f m:Nat}{i:TypeInfo}{z':Value}{x k:CV}{x' k':Value}(h:pV d z x k st= .ok v st')(hw:WR ρ st w)(hx:VR ρ x x')(hk:VR ρ k k')
 (hu:P.underlying t=some (.map kt et)) (hd:eh P f kt=some d) (hf:f<10000) (hm:fC m d=true) (hi:P.info? et=some i) (hz:i.zero=some z') (rk:VR ρ z z'):bh P (Instr.mapEntry t x' k') ρ st w v st':=by
 have FW:(zeroValue et).run P w= .ok z' w:=by simp[zeroValue,typeInfo,hi,hz]
 unfold pV at h;rw[aO]at h
 split at h
 ·rename_i F5;have wy:=fun e=>j8 (w:=w) F5 hd hf hm hk e
  split at h
  ·rename_i b
   split at h
   ·rename_i es clock oI;cases hx with
    |map _ r0 sz pq=>
     obtain⟨es',h1,h2,h3⟩:=hw.map oI pq;cases hc:ir d k es 0 with
     |none=>rw[hc]at h;cases h
     |some r=>
      rw[hc]at h;obtain⟨r',f1,f2⟩:=iL (P:=P) (w:=w) hd hf hk h2 h3 hc;cases r with
      |none=>
       cases r' with
       |some _=>exact f2.elim
       |none=>
        dsimp only at h;rw[dj]at h;cases h;refine⟨.tuple #[z',goInt clock],_,ρ, ?_,VR.tuple' (cL.two rk (.int .i64 _)),aY.p9 (clock2:=clock+1) hw oI pq (lX.app ⟨h2,h3⟩ (lX.cons (e:=(k,z,clock)) (e':={key:=k',val:=z',born:=clock}) ⟨hk,rk,rfl⟩ lX.nil))⟩;simp only[Instr.mapEntry,Sem.run_bind,agd hu,Result.andThen_ok,cu h1,wy,f1,FW,dC h1,Sem.run_pure];simp
      |some p=>
       obtain⟨j,u⟩:=p;cases r' with
       |none=>exact f2.elim
       |some p'=>
        obtain⟨j',u'⟩:=p';obtain⟨rfl,g2,e,e',g3,g4,g5,g6⟩:=f2;dsimp only at h;rw[yu,g3]at h;obtain⟨k0,u0,born⟩:=e;dsimp only at h;rw[aO]at h
        split at h
        ·rename_i hs;cases h;obtain⟨a1,a2,a3⟩:=h3 j _ _ g3 g4;obtain⟨s1,s2⟩:=qv hs a1 hk;have Wb:born=e'.born:=a3
         refine⟨.tuple #[u',goInt e'.born],_,ρ, ?_,VR.tuple' (cL.two g2 (by rw[Wb];exact .int .i64 _)),aY.p9 (clock2:=clock) hw oI pq (lX.mod (e:=(k,u,born)) (f:=fun e=>{e with key:=k'}) j ⟨h2,h3⟩ (fun e2 he2=>by
          rw[g4]at he2;cases he2;exact⟨hk,by rw[g6];exact g2,a3⟩))⟩
         simp only[Instr.mapEntry,Sem.run_bind,agd hu,Result.andThen_ok,cu h1,wy,f1,Instr.keyThatStays,agP,g4,ahe,ahF,s2,ags,Sem.run_pure,dC h1];simp
        ·cases h
   ·cases h
  ·cases h
 ·cases h
theorem wF {born:Nat}:∀{es:List eK} {es':List MapEntry} {j i:Nat} {e:eK},lX ρ es es'->wG born es j=some (i,e)->
 j<=i/\es[i-j]?=some e/\es'.findIdx? (fun e=>(e.born:Int)==(born:Int))=some (i-j):=by
 intro es
 induction es with
 |nil=>intro es' j i e _ h;cases h
 |cons x es ih=>
  intro es' j i e h hb;obtain⟨x',t',rfl,h1,h2⟩:=h.inv;have e0:wG born (x::es) j=bk (Nat.beq x.2.2 born) (some (j,x)) (wG born es (j+1)):=rfl;simp only[e0,aO,agA]at hb
  split at hb
  ·rename_i hq;cases hb;refine⟨aga _,by simp, ?_⟩;rw[List.findIdx?_cons];have:((x'.born:Int)==(born:Int))=true:=by rw[beq_iff_eq,<-h1.2.2,hq]
   simp[this]
  ·rename_i hq;obtain⟨a1,a2,a3⟩:=ih h2 hb;refine⟨by omega,by rw[show i-j=(i-(j+1))+1 by omega];simpa using a2, ?_⟩;rw[List.findIdx?_cons]
   have:((x'.born:Int)==(born:Int))=false:=by
    rw[beq_eq_false_iff_ne,<-h1.2.2];exact fun e=>hq (by exact_mod_cast e)
   simp only[this,afY,agn,a3,ahe]
   congr 1;omega
theorem oY {t:TypeId}{x s y:CV}{x' s' y':Value}(h:mI x s y st= .ok v st')(hw:WR ρ st w)(hx:VR ρ x x')(hs:VR ρ s s')(hy:VR ρ y y'):u9 P (Instr.entryStore t x' s' y') ρ st w v st':=by
 unfold mI at h
 split at h
 ·rename_i b k born
  split at h
  ·rename_i es clock oI;cases hs;cases hx with
   |map _ r0 sz pq=>
    obtain⟨es',h1,h2,h3⟩:=hw.map oI pq
    split at h
    ·rename_i j k0 u0 bn hb;cases h;obtain⟨a1,a2,a3⟩:=wF (ρ:=ρ) (es':=es') ⟨h2,h3⟩ hb;rw[Nat.sub_zero]at a2 a3
     refine⟨_,ρ, ?_,rfl,aY.p9 (clock2:=clock) hw oI pq (lX.mod (e:=(k0,y,bn)) (f:=fun e=>{e with val:=y'}) j ⟨h2,h3⟩ (fun e2 he2=>by
      obtain⟨b1,b2,b3⟩:=h3 j _ _ a2 he2;exact⟨b1,hy,b3⟩))⟩
     simp only[Instr.entryStore,Sem.run_bind,cu h1,Result.andThen_ok,asInt,asIntOf,Sem.run_pure]
     have:es'.toArray.findIdx? (fun e=>(e.born:Int)==Int.ofNat born)=some j:=by
      rw[<-a3];simp
     rw[this];simp only[dC h1];simp
    ·cases h
  ·cases h
 ·cases h
theorem Dg {r:Nat}{o:Obj}{w:World}(h:w.heap[r]?=some o):({w with heap:=w.heap.setIfInBounds r o}:World)=w:=by
 have:w.heap.setIfInBounds r o=w.heap:=by
  apply Array.ext_getElem?;intro i
  by_cases e:r=i
  ·subst e;have:=(agG.1 h).1;rw[h];simp[this]
  ·rw[agY e]
 rw[this]
theorem tO {d:gH}{t kt et ty:TypeId}{f m:Nat}{x k:CV}{x' k':Value}{ats:Array TypeId}(hat:ats[0]?=some t)(h:vP d x k st= .ok v st')(hw:WR ρ st w)(hx:VR ρ x x')(hk:VR ρ k k')
 (hu:P.underlying t=some (.map kt et)) (hd:eh P f kt=some d) (hf:f<10000) (hm:fC m d=true):bh P (Builtin.delete_ ats ty #[x',k']) ρ st w v st':=by
 have Mm:VR ρ .undef (.tuple #[]):= .undef;unfold vP at h;rw[aO]at h
 split at h
 ·rename_i F5;have wy:=fun e=>j8 (w:=w) F5 hd hf hm hk e
  split at h
  ·cases h;cases hx;exact bh.still hw (by simp[Builtin.delete_,hat,agd hu,wy]) Mm
  ·rename_i b
   split at h
   ·rename_i es clock oI;cases hx with
    |map _ r0 sz pq=>
     obtain⟨es',h1,h2,h3⟩:=hw.map oI pq;cases hc:ir d k es 0 with
     |none=>rw[hc]at h;cases h
     |some r=>
      rw[hc]at h;obtain⟨r',f1,f2⟩:=iL (P:=P) (w:=w) hd hf hk h2 h3 hc;cases r with
      |none=>
       cases r' with
       |some _=>exact f2.elim
       |none=>
        cases h;refine bh.still hw ?_ Mm;simp only[Builtin.delete_,hat,agP,afX,agb,Sem.run_bind,agd hu,Result.andThen_ok,cu h1,wy,f1,dC h1,Sem.run_pure];rw[Dg h1]
      |some p=>
       obtain⟨j,u⟩:=p;cases r' with
       |none=>exact f2.elim
       |some p'=>
        obtain⟨j',u'⟩:=p';obtain⟨rfl,g2,e,e',g3,g4,g5,g6⟩:=f2;cases h;refine⟨.tuple #[],_,ρ, ?_, .undef,aY.p9 (clock2:=clock) hw oI pq (lX.del j ⟨h2,h3⟩)⟩;simp only[Builtin.delete_,hat,agP,afX,agb,Sem.run_bind,agd hu,Result.andThen_ok,cu h1,wy,f1,dC h1,Sem.run_pure]
        congr 3
        congr 1
        apply Array.ext';simp
   ·cases h
  ·cases h
 ·cases h
theorem vJ {t kt et:TypeId}{r:Option CV}{r':Option Value}(h:fU r st= .ok v st')(hw:WR ρ st w)(hr:FP ρ r r')(hu:P.underlying t=some (.map kt et)):bh P (Instr.makeMap t r') ρ st w v st':=by
 have key:∀n,OR.ok (.map st.next) ⟨st.mem.put st.next (some (.map [] 0)),(st.next+1)⟩=OR.ok v st'->n=w.heap.size->(Instr.makeMap t r').run P w= .ok (.map (some w.heap.size)) {w with heap:=w.heap.push (.map #[] 0)}->bh P (Instr.makeMap t r') ρ st w v st':=by
  intro n h _ ie;cases h;have ha:=aY.new hw (BR.map (ρ:=ρ.set st.next (w.heap.size,0)) [] 0 [] rfl (fun i e e' h=>by simp at h) 0);exact⟨_,_,_,ie, .map _ _ _ ha.2,ha.1⟩
 unfold fU at h
 split at h
 ·rw[dj]at h;cases r' with
  |some _=>exact hr.elim
  |none=>exact key _ h rfl (by simp[Instr.makeMap])
 ·rw[dj]at h;cases r' with
  |none=>exact hr.elim
  |some x'=>
   have Mp:VR ρ _ x':=hr;cases Mp;exact key _ h rfl (by simp[Instr.makeMap,agd hu,asInt,asIntOf])
 ·cases h
end
abbrev nI:=Nat×Nat×CV
def eZ (parts:List nI):List CV->Option (List CV):=
 List.rec (motive:=fun _=>List CV->Option (List CV)) (fun s=>some s)
  (fun p _ ih s=>bk (Nat.beq p.2.2.bL.length p.2.1&& !p.2.2.isAny) (Option.rec none (fun s'=>ih s') (dM s p.1 p.2.2.bL)) none) parts
theorem Cg (off:Nat):∀(l:List Value) (k:Nat) (cells:Array Value),off+k+l.length<=cells.size->
 ((l.zipIdx k).foldl (fun cs (p:Value×Nat)=>cs.setIfInBounds (off+p.2) p.1) cells).toList=cells.toList.take (off+k)++l++cells.toList.drop (off+k+l.length):=by
 intro l
 induction l with
 |nil=>intro k cells _;simp
 |cons v l ih=>
  intro k cells h;rw[List.zipIdx_cons,List.foldl_cons,ih (k+1) _ (by simp at h⊢;omega)];have e:=list_seg_step cells.toList (off+k) v l (by simp at h⊢;omega);simp only[Array.toList_setIfInBounds];rw[<-Nat.add_assoc,e];simp
section
variable {P:Program} {ρ:Ren} {st st':St} {w:World} {v:CV}
inductive lU (ρ:Ren)(place:Nat->Option (Nat×Nat)):List nI->List (Nat×Value)->Prop where
 |nil:lU ρ place [] []
 |cons (i off size:Nat) (x:CV) (x':Value) (l:List nI) (l':List (Nat×Value)) (hp:place i=some (off,size)) (hx:VR ρ x x') (t:lU ρ place l l'):
  lU ρ place ((off,size,x)::l) ((i,x')::l')
theorem lR {place:Nat->Option (Nat×Nat)}{parts:List nI}{parts':List (Nat×Value)}(h:lU ρ place parts parts'):∀{s s':List CV} {cells:Array Value},eZ parts s=some s'->cL ρ s cells.toList->
 ∃gU,Instr.fill place cells parts'=some gU/\cL ρ s' gU.toList:=by
 induction h with
 |nil=>intro s s' cells h hv;cases h;exact⟨cells,rfl,hv⟩
 |cons i off size x x' l l' hp hx t ih=>
  intro s s' cells h hv;have e0:eZ ((off,size,x)::l) s=bk (Nat.beq x.bL.length size&& !x.isAny) (Option.rec none (fun s'=>eZ l s') (dM s off x.bL)) none:=rfl;simp only[e0,aO,agp,agA,aib]at h
  split at h
  ·rename_i To;obtain⟨hsz,Oj⟩:=To;cases hw:dM s off x.bL with
   |none=>rw[hw]at h;cases h
   |some s2=>
    rw[hw]at h;obtain⟨w1,w2⟩:=qA hw;have Xg:=hx.bL Oj;have hlen:x'.cells.size=size:=by have:=Xg.len;rw[hsz]at this;simpa using this.symm
    have hcs:cells.size=s.length:=by have:=hv.len;simpa using this.symm
    have EC:off+x'.cells.size<=cells.size:=by omega
    let Fl:=x'.cells.zipIdx.foldl (fun cs (p:Value×Nat)=>cs.setIfInBounds (off+p.2) p.1) cells
    have Mw:Fl.toList=cells.toList.take off++(x'.cells.toList++cells.toList.drop (off+x'.cells.size)):=by
     have:=Cg off x'.cells.toList 0 cells (by simpa using EC);show(Array.foldl _ cells x'.cells.zipIdx).toList=_;rw[<-Array.foldl_toList,Array.toList_zipIdx,this];simp
    obtain⟨gU,f1,f2⟩:=ih (cells:=Fl) h (by
     rw[w2,Mw];have e1:x.bL.length=x'.cells.size:=by rw[hsz,hlen]
     rw[e1];exact(hv.take off).app (Xg.app (hv.drop _)))
    refine⟨gU, ?_,f2⟩;simp only[Instr.fill,hp];rw[agf (by simp[hlen];omega)];exact f1
  ·cases h
def bf (z:List CV)(parts:List nI)(st:St):OR:=Option.rec .bad (fun s=> .ok (.agg s) st) (eZ parts z)
def bI (e len:Nat)(z:List CV)(parts:List nI)(st:St):OR:=
 Option.rec .bad (fun s=> .ok (.slice st.next 0 len len 0) ⟨st.mem.put st.next (some (.cells s e false)),st.next+1⟩) (eZ parts z)
theorem tF {β γ:Type}(l:List β)(f:β->Sem γ)(g:β->γ)(h:∀x∈l,(f x).run P w= .ok (g x) w):(l.mapM f).run P w= .ok (l.map g) w:=by
 induction l with
 |nil=>simp
 |cons a l ih=>simp[List.mapM_cons,h a (by simp),ih (fun x hx=>h x (by simp[hx]))]
theorem rH {β γ:Type}(l:Array β)(f:β->Sem γ)(g:β->γ)(h:∀x∈l.toList,(f x).run P w= .ok (g x) w):(l.mapM f).run P w= .ok (l.map g) w:=by
 rw[Array.mapM_eq_mapM_toList,Sem.run_map,tF l.toList f g h];simp only[Result.andThen_ok]
 congr 1
 apply Array.ext';simp
def vG (P:Program)(fs:Array Field)(i:Nat):Option (Nat×Nat):=(fs[i]?).map fun f=>(f.offset,P.cellsOf f.type)
def jf (size:Nat)(i:Nat):Option (Nat×Nat):=some (i*size,size)
theorem tP {t:TypeId}{fs:Array Field}{i:TypeInfo}{z:List CV}{z':Value}{parts:List nI}{parts':Array (Nat×Value)}(h:bf z parts st= .ok v st')(hw:WR ρ st w)(hu:P.underlying t=some (.struct fs))(hi:P.info? t=some i)
 (hz:i.zero=some z') (rk:∀ρ,cL ρ z z'.cells.toList) (hp:lU ρ (vG P fs) parts parts'.toList) (OG:∀f∈fs.toList,∃j,P.info? f.type=some j):bh P (Instr.build t parts') ρ st w v st':=by
 unfold bf at h;cases hf:eZ parts z with
 |none=>rw[hf]at h;cases h
 |some s=>
  rw[hf]at h;dsimp only at h;cases h;obtain⟨gU,f1,f2⟩:=lR hp hf (rk ρ);refine bh.still hw (v':= .agg gU) ?_ (by have:=VR.wK f2;simpa using this)
  have hm:=rH (P:=P) (w:=w) fs (fun f=>do pure (f.offset,<-Go.sizeOf f.type)) (fun f=>(f.offset,P.cellsOf f.type)) (fun f hf=>by
   obtain⟨j,hj⟩:=OG f hf;simp[Go.sizeOf,typeInfo,hj,Program.cellsOf])
  have CB:(fun i=>(fs.map fun f=>(f.offset,P.cellsOf f.type))[i]?)=vG P fs:=by
   funext i;simp[vG]
  simp only[Instr.build,zeroValue,typeInfo,Sem.run_bind,run_program,Result.andThen_ok,hi,hz,Sem.run_pure,agd hu];rw[hm];simp only[Result.andThen_ok];rw[CB,f1]
  rfl
theorem vS {t e:TypeId}{n:Nat}{i j:TypeInfo}{z:List CV}{z':Value}{parts:List nI}{parts':Array (Nat×Value)}(h:bf z parts st= .ok v st')(hw:WR ρ st w)(hu:P.underlying t=some (.array n e))(hi:P.info? t=some i)
 (hz:i.zero=some z') (rk:∀ρ,cL ρ z z'.cells.toList) (hj:P.info? e=some j) (hp:lU ρ (jf j.size) parts parts'.toList):bh P (Instr.build t parts') ρ st w v st':=by
 unfold bf at h;cases hf:eZ parts z with
 |none=>rw[hf]at h;cases h
 |some s=>
  rw[hf]at h;dsimp only at h;cases h;obtain⟨gU,f1,f2⟩:=lR hp hf (rk ρ);refine bh.still hw (v':= .agg gU) ?_ (by have:=VR.wK f2;simpa using this);have CB:(fun i=>some (i*j.size,j.size))=jf j.size:=rfl;simp only[Instr.build,zeroValue,Go.sizeOf,typeInfo,Sem.run_bind,run_program,Result.andThen_ok,hi,hj,hz,Sem.run_pure,agd hu];rw[CB,f1]
  rfl
theorem o4 {t e:TypeId}{len:Nat}{i:TypeInfo}{z:List CV}{z':Value}{parts:List nI}{parts':Array (Nat×Value)}(h:bI e len (cM len z) parts st= .ok v st')(hw:WR ρ st w)(hu:P.underlying t=some (.slice e))(hi:P.info? e=some i)
 (hz:i.zero=some z') (hsz:z'.cells.size=i.size) (rk:∀ρ,cL ρ z z'.cells.toList) (hp:lU ρ (jf i.size) parts parts'.toList) (hlen:len*i.size<=16777216):bh P (Instr.buildSlice t len parts') ρ st w v st':=by
 unfold bI at h;cases hf:eZ parts (cM len z)with
 |none=>rw[hf]at h;cases h
 |some s=>
  rw[hf]at h;dsimp only at h;cases h
  have hrow:(List.replicate len z'.cells.toList).flatten=((Array.range (len*i.size)).map (z'.cells[·%z'.cells.size]!)).toList:=by
   rw[<-hsz,ahj,ahT];exact(kI z'.cells len).symm
  have Te:cL ρ (cM len z) ((Array.range (len*i.size)).map (z'.cells[·%z'.cells.size]!)).toList:=by
   rw[<-hrow];exact(rk ρ).flatten len
  obtain⟨gU,f1,f2⟩:=lR hp hf Te;obtain⟨ρ',h1,h2,h3⟩:=aY.newRow (P:=P) (t:=e) (s:=s) (l:=gU.toList) hw (fun ρ' hle=>f2.mono hle) false;rw[ahi]at h1 h3;refine⟨.slice (some ⟨w.heap.size,0,none⟩) len len,_,ρ', ?_, .slice _ _ _ _ _ _ h2,h3⟩;have CB:(fun k=>some (k*i.size,i.size))=jf i.size:=rfl;have hn:¬(len*i.size>2^24):=by show¬(len*i.size>16777216);omega
  simp only[Instr.buildSlice,Sem.run_bind,agd hu,Result.andThen_ok,Go.sizeOf,typeInfo,run_program,hi,Sem.run_pure,agf hn]
  by_cases h0:len*i.size=0
  ·have hz0:((Array.range (len*i.size)).map (z'.cells[·%z'.cells.size]!))=((Array.range (len*i.size)).map ((#[]:Array Value)[·%(#[]:Array Value).size]!)):=by
    rw[h0,Array.range_zero'];simp
   rw[hz0]at f1;rw[agl h0]
   show Sem.run P (do
    let some cells:=Instr.fill (jf i.size) ((Array.range (len*i.size)).map ((#[]:Array Value)[·%(#[]:Array Value).size]!)) parts'.toList|stuck "buildSlice: a part of the wrong size"
    pure (Value.slice (some (<-newRow e cells)) len len)) w=_
   rw[f1];simp only[Sem.run_bind,h1,Result.andThen_ok,Sem.run_pure]
  ·rw[agf h0];simp only[zeroValue,typeInfo,Sem.run_bind,run_program,Result.andThen_ok,hi,hz,Sem.run_pure];rw[CB,f1];simp only[Sem.run_bind,h1,Result.andThen_ok,Sem.run_pure]
def mH (fn:Fn)(f c:List CV)(st:St):OR:= .ok (.func fn f c) st
theorem xK {fn:Fn}{f c:List CV}{f' c':Array Value}(h:mH fn f c st= .ok v st')(hw:WR ρ st w)(hf:cL ρ f f'.toList)(hc:cL ρ c c'.toList):bh P (Instr.makeFunc fn f' c') ρ st w v st':=by
 cases h;refine bh.still hw rfl ?_;have:=VR.func (ρ:=ρ) fn f c f'.toList c'.toList hf.len hc.len hf.ji hc.ji
 simpa using this
end
abbrev nV:=Nat×Nat×df
inductive ue where
 |Iv (x:df)
 |pick (c a b:df)
 |new (t:Nat) (z:List CV)
 |box (t:Nat) (x:df)
 |build (z:List CV) (parts:List nV)
 |buildSlice (e len:Nat) (z:List CV) (parts:List nV)
 |xQ (a:df)
 |r7 (n:Nat) (a:df)
 |store (n:Nat) (a x:df)
 |nil (x:df)
 |bin (op:BinOp) (d:Option gH) (tk:Bool) (x y:df)
 |un (op:UnOp) (x:df)
 |conv (c:va) (x:df)
 |zk (n:Nat) (x:df)
 |iface (t:Nat) (x:df)
 |func (fn:Fn) (f c:List df)
 |mkMap (r:Option df)
 |mkSlice (e bytes:Nat) (z:List CV) (l c:df)
 |jB (x:df) (lo hi:Option df)
 |lr (size:Nat) (x:df) (lo hi:Option df)
 |slice3 (size:Nat) (x:df) (lo:Option df) (hi mx:df)
 |jC (n size:Nat) (x:df) (lo hi:Option df)
 |fieldAddr (off:Nat) (x:df)
 |field (agg:Bool) (off size:Nat) (x:df)
 |ov (n size:Nat) (x i:df)
 |si (size:Nat) (x i:df)
 |ot (x i:df)
 |ox (n size:Nat) (agg:Bool) (x i:df)
 |lookup (d:gH) (z:CV) (ok:Bool) (x k:df)
 |mapUpdate (d:gH) (m k x:df)
 |mapEntry (d:gH) (z:CV) (m k:df)
 |entryStore (m s x:df)
 |extract (x:df) (i:Nat)
 |len (k:Cu) (x:df)
 |append (e size bytes:Nat) (z:List CV) (k:yI) (s x:df)
 |copy (str:Bool) (size:Nat) (d s:df)
 |clear (z:List CV) (x:df)
 |mM (mx:Bool) (x y:df)
 |delete (d:gH) (m k:df)
 |call (f:Nat) (args:List df)
 |u5 (f:df) (args:List df)
def A7 (fr:Fr)(l:List df):List CV:=List.rec [] (fun x _ r=>ev fr x::r) l
def EZ (fr:Fr)(x:Option df):Option CV:=Option.rec none (fun x=>some (ev fr x)) x
def Ck (fr:Fr)(l:List nV):List nI:=List.rec [] (fun p _ r=>(p.1,p.2.1,ev fr p.2.2)::r) l
abbrev dY:=Nat->List CV->St->OR
def pY (call:dY)(f:CV)(args:List CV)(st:St):OR:=
 match f with| .func (.func f) first captured=>call f (first++(args++captured)) st|_=> .bad
def bV (call:dY)(op:ue)(fr:Fr)(st:St):OR:=
 match op with
 | .Iv x=> .ok (ev fr x) st
 | .pick c a b=>aK (ev fr c) (ev fr a) (ev fr b) st
 | .new t z=>dd t z st
 | .box t x=>bk (ev fr x).isAny .bad (dd t (ev fr x).bL st)
 | .build z parts=>bf z (Ck fr parts) st
 | .buildSlice e len z parts=>bI e len (cM len z) (Ck fr parts) st
 | .xQ a=>aw (ev fr a) st
 | .r7 n a=>aP n (ev fr a) st
 | .store n a x=>aT n (ev fr a) (ev fr x) st
 | .nil x=>cz (ev fr x) st
 | .bin op d tk x y=>ai op d tk (ev fr x) (ev fr y) st
 | .un op x=>fA op (ev fr x) st
 | .conv c x=>bQ c (ev fr x) st
 | .zk n x=>mF n (ev fr x) st
 | .iface t x=>lG t (ev fr x) st
 | .func fn f c=>mH fn (A7 fr f) (A7 fr c) st
 | .mkMap r=>fU (EZ fr r) st
 | .mkSlice e bytes z l c=>jD e bytes z (ev fr l) (ev fr c) st
 | .jB x lo hi=>fK (ev fr x) (EZ fr lo) (EZ fr hi) st
 | .lr size x lo hi=>cc size (ev fr x) (EZ fr lo) (EZ fr hi) st
 | .slice3 size x lo hi mx=>oU size (ev fr x) (EZ fr lo) (ev fr hi) (ev fr mx) st
 | .jC n size x lo hi=>bM n size (ev fr x) (EZ fr lo) (EZ fr hi) st
 | .fieldAddr off x=>al off (ev fr x) st
 | .field agg off size x=>rU agg off size (ev fr x) st
 | .ov n size x i=>cQ n size (ev fr x) (ev fr i) st
 | .si size x i=>cm size (ev fr x) (ev fr i) st
 | .ot x i=>jv (ev fr x) (ev fr i) st
 | .ox n size agg x i=>oW n size agg (ev fr x) (ev fr i) st
 | .lookup d z ok x k=>fO d z ok (ev fr x) (ev fr k) st
 | .mapUpdate d m k x=>ef d (ev fr m) (ev fr k) (ev fr x) st
 | .mapEntry d z m k=>pV d z (ev fr m) (ev fr k) st
 | .entryStore m s x=>mI (ev fr m) (ev fr s) (ev fr x) st
 | .extract x i=>aB (ev fr x) i st
 | .len k x=>bO k (ev fr x) st
 | .append e size bytes z k s x=>cy e size bytes (ev fr s) (dJ k size z (ev fr x) st) st
 | .copy str size d s=>jF str size (ev fr d) (ev fr s) st
 | .clear z x=>vR z (ev fr x) st
 | .mM mx x y=>GG mx (ev fr x) (ev fr y) st
 | .delete d m k=>vP d (ev fr m) (ev fr k) st
 | .call f args=>call f (A7 fr args) st
 | .u5 f args=>pY call (ev fr f) (A7 fr args) st
def eV (P:Program)(f:Nat):Bool:=match P.funcs[f]? with|some fn=> !(fn.name== "runtime.NumGoroutine")&&fn.body.isSome|none=>false
def wN (P:Program)(f:Nat)(args:List CV)(st:St)(v:CV)(st':St):Prop:=
 ∀(ρ:Ren) (w:World) (args':Array Value),WR ρ st w->cL ρ args args'.toList->
  Calls P f args' w fun e w'=>∃v' ρ',e= .returned v'/\VR ρ' v v'/\aY ρ st w ρ' st' w'
def PK (P:Program)(f:Nat)(args:List CV)(st:St)(v:CV)(st':St):Prop:=
 st'=st/\∀(ρ:Ren) (w:World) (args':Array Value),WR ρ st w->cL ρ args args'.toList->∃v',(callFunc f args').run P w= .ok (.value v') w/\VR ρ v v'
def pM (P:Program)(f:Nat)(args:List CV)(st:St)(v:CV)(st':St):Prop:=(eV P f=true/\wN P f args st v st')\/PK P f args st v st'
def fL (P:Program)(call:dY):Prop:=∀f args st v st',call f args st= .ok v st'->pM P f args st v st'
def rq (i:TypeInfo):Option (List CV):=
 match i.zero with
 |some z=>bk (Nat.beq z.cells.size i.size) (lJ z.cells.toList) none
 |none=>none
theorem gp {i:TypeInfo}{s:List CV}(h:rq i=some s):∃z,i.zero=some z/\z.cells.size=i.size/\∀ρ,cL ρ s z.cells.toList:=by
 unfold rq at h
 split at h
 ·rename_i z hz;simp only[aO,agA]at h
  split at h
  ·rename_i hs;exact⟨z,hz,hs,fun ρ=>pb _ _ h ρ⟩
  ·cases h
 ·cases h
def Gc (i:TypeInfo):Option CV:=match i.zero with|some z=>ofValue z|none=>none
theorem uf {i:TypeInfo}{c:CV}(h:Gc i=some c):∃z,i.zero=some z/\∀ρ,VR ρ c z:=by
 unfold Gc at h
 split at h
 ·rename_i z hz;exact⟨z,hz,fun ρ=>VR.ofValue h ρ⟩
 ·cases h
def qM (l:List Operand):Option (List df):=List.rec (some []) (fun x _ r=>Option.rec none (fun r=>Option.rec none (fun c=>some (c::r)) (dv x)) r) l
def Ct (x:Option Operand):Option (Option df):=match x with|none=>some none|some x=>(match dv x with|some c=>some (some c)|none=>none)
def mU (place:Nat->Option (Nat×Nat))(l:List (Nat×Operand)):Option (List nV):=
 List.rec (some []) (fun p _ r=>Option.rec none (fun r=>(match place p.1,dv p.2 with|some (off,size),some c=>some ((off,size,c)::r)|_,_=>none)) r) l
section
variable {P:Program} {ρ:Ren} {st st':St} {w:World} {v:CV} {fr:Fr} {a:Act}
theorem kd:∀{l:List Operand} {c:List df},qM l=some c->FR ρ fr a.tmps->cL ρ (A7 fr c) (l.map a.eval):=by
 intro l
 induction l with
 |nil=>intro c h _;cases h;exact cL.nil ρ
 |cons x l ih=>
  intro c h hf;have e:qM (x::l)=Option.rec none (fun r=>Option.rec none (fun c=>some (c::r)) (dv x)) (qM l):=rfl;rw[e]at h;cases hl:qM l with
  |none=>rw[hl]at h;cases h
  |some r=>
   rw[hl]at h;cases hx:dv x with
   |none=>rw[hx]at h;cases h
   |some c'=>
    rw[hx]at h;cases h;exact cL.cons (aZ hx hf) (ih hl hf)
theorem dN {x:Option Operand}{c:Option df}(h:Ct x=some c)(hf:FR ρ fr a.tmps):FP ρ (EZ fr c) (x.map a.eval):=by
 unfold Ct at h
 split at h
 ·cases h;trivial
 ·split at h
  ·rename_i x c' hc;cases h;exact aZ hc hf
  ·cases h
theorem jy {place:Nat->Option (Nat×Nat)}:∀{l:List (Nat×Operand)} {c:List nV},mU place l=some c->FR ρ fr a.tmps->lU ρ place (Ck fr c) (l.map fun p=>(p.1,a.eval p.2)):=by
 intro l
 induction l with
 |nil=>intro c h _;cases h;exact .nil
 |cons p l ih=>
  intro c h hf;have e:mU place (p::l)=Option.rec none (fun r=>(match place p.1,dv p.2 with|some (off,size),some c=>some ((off,size,c)::r)|_,_=>none)) (mU place l):=rfl;rw[e]at h;cases hl:mU place l with
  |none=>rw[hl]at h;cases h
  |some r=>
   rw[hl]at h;dsimp only at h
   split at h
   ·rename_i off size c' h1 h2;cases h;exact .cons p.1 off size (ev fr c') _ _ _ h1 (aZ h2 hf) (ih hl hf)
   ·cases h
end
def Ig (P:Program)(l:List Field):Bool:=l.all fun f=>(P.info? f.type).isSome
def E5 (P:Program)(op:BinOp)(t:TypeId):Option gH:=
 match op with
 | .eql| .neq=>(match eh P 40 t with
   |some d=>bk (yE d) (bk (P.eqGuardType P.depth t) none (some d)) (some d)
   |none=>none)
 |_=>none
def sK (P:Program)(s d:TypeId):Option va:=
 match P.underlying s,P.underlying d with
 |some _,some (.int k)=>some (.toInt k)
 |some .string,some .string=>some .same
 |some .string,some (.slice e)=>(match P.underlying e with|some (.int .u8)=>some (.bytesOf e)|_=>none)
 |some (.slice e),some .string=>(match P.underlying e with|some (.int .u8)=>some .strOf|_=>none)
 |_,_=>none
def keyOf (P:Program)(t:TypeId):Option (TypeId×gH):=
 match P.underlying t with
 |some (.map k e)=>(match eh P 40 k with|some d=>bk (fC 40 d) (some (e,d)) none|none=>none)
 |_=>none
def wb (P:Program)(t:TypeId):Option Cu:=
 match P.underlying t with
 |some .string=>some .str
 |some (.slice _)=>some .slice
 |some (.map _ _)=>some .map
 |some (.array n _)=>some (.const n)
 |some (.pointer a)=>(match P.underlying a with|some (.array n _)=>some (.const n)|_=>none)
 |_=>none
def vp (P:Program)(u:TypeId)(size:Nat):Option yI:=
 match P.underlying u with
 |some (.slice _)=>some .slice
 |some .string=>bk (Nat.beq size 1) (some .str) none
 |some (.int _)=>some .zeros
 |_=>none
def wW (k:yI)(bytes:Nat):Bool:=match k with| .zeros=>Nat.ble bytes 256|_=>true
def mS (P:Program)(b:Builtin)(ats:List TypeId)(args:List Operand):Option ue:=
 match b,ats,args with
 | .len,t::_,[x]=>(match wb P t,dv x with|some k,some x=>some (.len k x)|_,_=>none)
 | .cap,t::_,[x]=>(match P.underlying t,dv x with|some (.slice _),some x=>some (.len .cap x)|_,_=>none)
 | .append,[t,u],[s,x]=>(match P.underlying t,dv s,dv x with
   |some (.slice e),some s,some x=>(match P.info? e with
    |some i=>(match rq i,vp P u i.size with|some z,some k=>bk (wW k i.bytes) (some (.append e i.size i.bytes z k s x)) none|_,_=>none)
    |none=>none)
   |_,_,_=>none)
 | .copy,[t,u],[d,s]=>(match P.underlying t,P.underlying u,dv d,dv s with
   |some (.slice e),some su,some d,some s=>(match P.info? e,su with
    |some i, .slice _=>some (.copy false i.size d s)
    |some i, .string=>bk (Nat.beq i.size 1) (some (.copy true i.size d s)) none
    |_,_=>none)
   |_,_,_,_=>none)
 | .clear,[t],[x]=>(match P.underlying t,dv x with
   |some (.slice e),some x=>(match P.info? e with|some i=>(match rq i with|some z=>some (.clear z x)|none=>none)|none=>none)
   |_,_=>none)
 | .max,_,[x,y]=>(match dv x,dv y with|some x,some y=>some (.mM true x y)|_,_=>none)
 | .min,_,[x,y]=>(match dv x,dv y with|some x,some y=>some (.mM false x y)|_,_=>none)
 | .delete,t::_,[m,k]=>(match keyOf P t,dv m,dv k with|some (_,d),some m,some k=>some (.delete d m k)|_,_,_=>none)
 |_,_,_=>none
def iM (P:Program)(op:Op):Option ue:=
 match op with
 | .move x=>(match dv x with|some x=>some (.Iv x)|none=>none)
 | .assign x=>(match dv x with|some x=>some (.Iv x)|none=>none)
 | .pick c a b=>(match dv c,dv a,dv b with|some c,some a,some b=>some (.pick c a b)|_,_,_=>none)
 | .alloc t=>(match P.info? t with|some i=>(match rq i with|some z=>some (.new t z)|none=>none)|none=>none)
 | .box t x=>(match dv x with|some x=>some (.box t x)|none=>none)
 | .build t parts=>(match P.underlying t,P.info? t with
   |some (.struct fs),some i=>(match rq i,mU (vG P fs) parts.toList,Ig P fs.toList with|some z,some ps,true=>some (.build z ps)|_,_,_=>none)
   |some (.array _ e),some i=>(match P.info? e with|some j=>(match rq i,mU (jf j.size) parts.toList with|some z,some ps=>some (.build z ps)|_,_=>none)|none=>none)
   |_,_=>none)
 | .buildSlice t len parts=>(match P.underlying t with
   |some (.slice e)=>(match P.info? e with
    |some i=>bk (Nat.ble (Nat.mul len i.size) 16777216) (match rq i,mU (jf i.size) parts.toList with|some z,some ps=>some (.buildSlice e len z ps)|_,_=>none) none
    |none=>none)
   |_=>none)
 | .load t x=>(match P.underlying t,P.info? t,dv x with|some u,some i,some x=>bk (fj u) (some (.r7 i.size x)) (some (.xQ x))|_,_,_=>none)
 | .store t x y=>(match P.info? t,dv x,dv y with|some i,some x,some y=>some (.store i.size x y)|_,_,_=>none)
 | .nilCheck x=>(match dv x with|some x=>some (.nil x)|none=>none)
 | .binOp op t x y _=>(match dv x,dv y with|some x',some y'=>some (.bin op (E5 P op t) (Bb x y) x' y')|_,_=>none)
 | .unOp op _ x=>(match dv x with|some x=>some (.un op x)|none=>none)
 | .convert s d x=>(match sK P s d,dv x with|some c,some x=>some (.conv c x)|_,_=>none)
 | .sliceToArrayPointer t x=>(match P.underlying t,dv x with|some (.array n _),some x=>some (.zk n x)|_,_=>none)
 | .makeInterface t x=>(match P.concrete t,dv x with|true,some x=>some (.iface t x)|_,_=>none)
 | .makeFunc fn f c=>(match qM f.toList,qM c.toList with|some f,some c=>some (.func fn f c)|_,_=>none)
 | .makeMap t r=>(match P.underlying t,Ct r with|some (.map _ _),some r=>some (.mkMap r)|_,_=>none)
 | .makeSlice t l c=>(match P.underlying t,dv l,dv c with
   |some (.slice e),some l,some c=>(match P.info? e with|some i=>(match rq i with|some z=>some (.mkSlice e i.bytes z l c)|none=>none)|none=>none)
   |_,_,_=>none)
 | .slice t x lo hi mx=>(match P.underlying t,dv x,Ct lo,Ct hi,Ct mx with
   |some .string,some x,some lo,some hi,some none=>some (.jB x lo hi)
   |some (.slice e),some x,some lo,some hi,some none=>(match P.info? e with|some i=>some (.lr i.size x lo hi)|none=>none)
   |some (.slice e),some x,some lo,some (some hi),some (some mx)=>(match P.info? e with|some i=>some (.slice3 i.size x lo hi mx)|none=>none)
   |some (.array n e),some x,some lo,some hi,some none=>(match P.info? e with|some i=>some (.jC n i.size x lo hi)|none=>none)
   |_,_,_,_,_=>none)
 | .fieldAddr t x f=>(match P.underlying t,dv x with
   |some (.struct fs),some x=>(match fs[f]? with
    |some fd=>(match P.info? fd.type with|some i=>bk (Nat.beq i.size 0) none (some (.fieldAddr fd.offset x))|none=>none)
    |none=>none)
   |_,_=>none)
 | .field t x f=>(match P.underlying t,dv x with
   |some (.struct fs),some x=>(match fs[f]? with
    |some fd=>(match P.info? fd.type,P.underlying fd.type with|some i,some u=>some (.field (fj u) fd.offset i.size x)|_,_=>none)
    |none=>none)
   |_,_=>none)
 | .indexAddr t x i=>(match P.underlying t,dv x,dv i with
   |some (.array n e),some x,some i=>(match P.info? e with|some j=>some (.ov n j.size x i)|none=>none)
   |some (.slice e),some x,some i=>(match P.info? e with|some j=>some (.si j.size x i)|none=>none)
   |_,_,_=>none)
 | .index t x i=>(match P.underlying t,dv x,dv i with
   |some .string,some x,some i=>some (.ot x i)
   |some (.array n e),some x,some i=>(match P.info? e,P.underlying e with|some j,some u=>some (.ox n j.size (fj u) x i)|_,_=>none)
   |_,_,_=>none)
 | .lookup t x k ok=>(match keyOf P t,dv x,dv k with
   |some (e,d),some x,some k=>(match P.info? e with|some i=>(match Gc i with|some z=>some (.lookup d z ok x k)|none=>none)|none=>none)
   |_,_,_=>none)
 | .mapUpdate t m k x| .insert t m k x=>(match keyOf P t,dv m,dv k,dv x with|some (_,d),some m,some k,some x=>some (.mapUpdate d m k x)|_,_,_,_=>none)
 | .mapEntry t m k=>(match keyOf P t,dv m,dv k with
   |some (e,d),some m,some k=>(match P.info? e with|some i=>(match Gc i with|some z=>some (.mapEntry d z m k)|none=>none)|none=>none)
   |_,_,_=>none)
 | .entryStore _ m s x=>(match dv m,dv s,dv x with|some m,some s,some x=>some (.entryStore m s x)|_,_,_=>none)
 | .extract x i=>(match dv x with|some x=>some (.extract x i)|none=>none)
 | .call {callee:= .builtin b,args,argTypes}=>mS P b argTypes.toList args.toList
 | .call {callee:= .value (.func f),args, .. }=>(match qM args.toList with|some l=>some (.call f l)|none=>none)
 | .call {callee:= .value f,args, .. }=>(match dv f,qM args.toList with|some f,some l=>some (.u5 f l)|_,_=>none)
 |_=>none
section
variable {P:Program} {ρ:Ren} {st st':St} {w:World} {v:CV} {fr:Fr} {a:Act} {call:dY}
theorem o9 {o:Oper}{next:Act->World->Prop}{Q:Exit->Act->World->Prop}(h:Af P (execOp a.eval o) ρ st w v st')
 (hn:∀v' w' ρ',VR ρ' v v'->aY ρ st w ρ' st' w'->next (a.put o.dst v') w'):o.wp P a w next Q:=by
 obtain⟨x,v',w',ρ',h1,h2,h3,h4⟩:=h;unfold Oper.wp;rw[h1];rcases h2 with rfl|⟨rfl,rfl⟩
 ·exact hn v' w' ρ' h3 h4
 ·exact hn _ w' ρ' h3 h4
theorem jL {t e:TypeId}{d:gH}(h:keyOf P t=some (e,d)):∃k,P.underlying t=some (.map k e)/\eh P 40 k=some d/\fC 40 d=true:=by
 unfold keyOf at h
 split at h
 ·rename_i k e' hu
  split at h
  ·rename_i d' hd;rw[aO]at h
   split at h
   ·rename_i hk;cases h;exact⟨k,hu,hd,hk⟩
   ·cases h
  ·cases h
 ·cases h
theorem sH {op:BinOp}{t:TypeId}{d:gH}(h:E5 P op t=some d):eh P 40 t=some d/\(yE d=true->P.eqGuardType P.depth t=false):=by
 have key:∀{x:Option gH},(match eh P 40 t with
  |some d=>bk (yE d) (bk (P.eqGuardType P.depth t) none (some d)) (some d)
  |none=>none)=some d->eh P 40 t=some d/\(yE d=true->P.eqGuardType P.depth t=false):=by
  intro _ h
  split at h
  ·rename_i d' hd;simp only[aO]at h
   split at h
   ·split at h
    ·cases h
    ·rename_i hg;cases h;exact⟨hd,fun _=>by simpa using hg⟩
   ·rename_i ha;cases h;exact⟨hd,fun e=>absurd e ha⟩
  ·cases h
 unfold E5 at h
 split at h
 ·exact key (x:=none) h
 ·exact key (x:=none) h
 ·cases h
theorem tY {s d:TypeId}{c:va}(h:sK P s d=some c):yy P c s d:=by
 unfold sK at h
 split at h
 ·rename_i u k h1 h2;cases h;exact⟨h2,u,h1⟩
 ·rename_i h1 h2;cases h;exact⟨h2,h1⟩
 ·rename_i e h1 h2
  split at h
  ·rename_i h3;cases h;exact⟨h2,h3,h1⟩
  ·cases h
 ·rename_i e h1 h2
  split at h
  ·rename_i h3;cases h;exact⟨e,h1,h3,h2⟩
  ·cases h
 ·cases h
theorem wa {t:TypeId}{k:Cu}(h:wb P t=some k):AI P k t:=by
 unfold wb at h
 split at h
 ·rename_i hu;cases h;exact hu
 ·rename_i e hu;cases h;exact⟨e,hu⟩
 ·rename_i k e hu;cases h;exact⟨k,e,hu⟩
 ·rename_i n e hu;cases h;exact .inl ⟨e,hu⟩
 ·rename_i a hu
  split at h
  ·rename_i n e Ko;cases h;exact .inr ⟨a,e,hu,Ko⟩
  ·cases h
 ·cases h
theorem vo {u:TypeId}{size:Nat}{k:yI}(h:vp P u size=some k):vq P k u size:=by
 unfold vp at h
 split at h
 ·rename_i e hu;cases h;exact⟨e,hu⟩
 ·rename_i hu;simp only[aO,agA]at h
  split at h
  ·rename_i hs;cases h;exact⟨hu,hs⟩
  ·cases h
 ·rename_i j hu;cases h;exact⟨j,hu⟩
 ·cases h
theorem ni {t:TypeId}{u:TypeDesc}(hu:P.underlying t=some u):(isAgg t).run P w= .ok (fj u) w:=by
 cases u<;>simp[isAgg,agd hu,fj]
theorem fx {t:TypeId}{i:TypeInfo}(hi:P.info? t=some i):(Go.sizeOf t).run P w= .ok i.size w:=by simp[Go.sizeOf,typeInfo,hi]
theorem pC {b:Builtin}{ats:Array TypeId}{args:Array Operand}{op:ue}{ty:TypeId}{cs:Array Bool}(h:mS P b ats.toList args.toList=some op)(hr:bV call op fr st= .ok v st')(hw:WR ρ st w)(hf:FR ρ fr a.tmps):
 Af P (builtin b ats ty cs (args.map a.eval)) ρ st w v st':=by
 obtain⟨ats⟩:=ats;obtain⟨args⟩:=args;rw[show Array.map a.eval ⟨args⟩=(args.map a.eval).toArray from by simp];unfold mS at h
 split at h
 ·rename_i t r x ht hx;cases ht;cases hx
  split at h
  ·rename_i k x' hk wj;cases h;have:=zC (P:=P) (ty:=ty) hr hw (aZ wj hf) (wa hk) (t::r).toArray (by simp);exact this.fa
  ·cases h
 ·rename_i t r x ht hx;cases ht;cases hx
  split at h
  ·rename_i e x' hk wj;cases h;exact(zE (P:=P) (ty:=ty) hr hw (aZ wj hf) hk (t::r).toArray (by simp)).fa
  ·cases h
 ·rename_i t u s x ht hx;cases ht;cases hx
  split at h
  ·rename_i e s' x' hu qf wj
   split at h
   ·rename_i i hi
    split at h
    ·rename_i z k hz hk;rw[aO]at h
     split at h
     ·rename_i hzf;cases h;obtain⟨z',z1,z2,z3⟩:=gp hz;have:=tQ (P:=P) (t:=t) (u:=u) (ty:=ty) hr hw (aZ qf hf) (aZ wj hf) (vo hk) hu hi z1 rfl z2 z3 rfl (fun hkz=>by subst hkz;simpa[wW]using hzf);exact this.fa
     ·cases h
    ·cases h
   ·cases h
  ·cases h
 ·rename_i t u d s ht hx;cases ht;cases hx
  split at h
  ·rename_i e su d' s' hu hsu B9 qf
   split at h
   ·rename_i i e2 hi;cases h;have:=qy (P:=P) (dT:=t) (sT:=u) (ty:=ty) hr hw (aZ B9 hf) (aZ qf hf) hu hi rfl (fun e=>by cases e);exact this.fa
   ·rename_i i hi;simp only[aO,agA]at h
    split at h
    ·rename_i h1;cases h;have:=qy (P:=P) (dT:=t) (sT:=u) (ty:=ty) hr hw (aZ B9 hf) (aZ qf hf) hu hi rfl (fun _=>h1);exact this.fa
    ·cases h
   ·cases h
  ·cases h
 ·rename_i t x ht hx;cases ht;cases hx
  split at h
  ·rename_i e x' hu wj
   split at h
   ·rename_i i hi
    split at h
    ·rename_i z hz;cases h;obtain⟨z',z1,z2,z3⟩:=gp hz;have:=vQ (P:=P) (t:=t) (ty:=ty) hr hw (aZ wj hf) hu hi z1 z3;exact this.fa
    ·cases h
   ·cases h
  ·cases h
 ·rename_i x y hx;cases hx
  split at h
  ·rename_i x' y' wj Ta;cases h;have:=uC (P:=P) (mx:=true) (ats:=ats.toArray) (ty:=ty) hr hw (aZ wj hf) (aZ Ta hf);exact bh.fa (s:=Builtin.max_ ats.toArray ty #[a.eval x,a.eval y]) this
  ·cases h
 ·rename_i x y hx;cases hx
  split at h
  ·rename_i x' y' wj Ta;cases h;have:=uC (P:=P) (mx:=false) (ats:=ats.toArray) (ty:=ty) hr hw (aZ wj hf) (aZ Ta hf);exact bh.fa (s:=Builtin.min_ ats.toArray ty #[a.eval x,a.eval y]) this
  ·cases h
 ·rename_i t r m k ht hx;cases ht;cases hx
  split at h
  ·rename_i e d m' k' hk hm' IV;cases h;obtain⟨kt,k1,k2,k3⟩:=jL hk;have:=tO (P:=P) (ty:=ty) (ats:=(t::r).toArray) (by simp) hr hw (aZ hm' hf) (aZ IV hf) k1 k2 (by omega) k3;exact this.fa
  ·cases h
 ·cases h
end
section
variable {P:Program} {ρ:Ren} {st st':St} {w:World} {v:CV} {fr:Fr} {a:Act} {call:dY}
theorem vz {f:FuncId}(args:Array Value)(h:eV P f=true):(callFunc f args).run P w= .ok (.enter f args) w:=by
 unfold eV at h
 split at h
 ·rename_i fn hfn;simp only[agp,aib]at h;have h1:¬(fn.name== "runtime.NumGoroutine")=true:=by rw[h.1];simp
  have h2:¬fn.body.isNone=true:=by
   have:=h.2;cases hb:fn.body<;>simp_all
  simp only[callFunc,Sem.run_bind,run_program,Result.andThen_ok,hfn];rw[agf h1,agf h2]
  rfl
 ·cases h
theorem uw {f:FuncId}{first captured:Array Value}{x:Operand}{args:Array Operand}{ats:Array TypeId}{dst:Option Tmp}{ty:TypeId}{pos:String}{after:Array Edge}{guard:Option (Nat×Bool)}
 (hx:a.eval x= .func (.func f) first captured):
 (execOp a.eval {dst,op:= .call {callee:= .value x,args,argTypes:=ats},type:=ty,pos,after,guard}).run P w=(callFunc f (first++args.map a.eval++captured)).run P w:=by
 have e:execOp a.eval {dst,op:= .call {callee:= .value x,args,argTypes:=ats},type:=ty,pos,after,guard}=
  (do let d<-Deferred.ofValue (a.eval x) (args.map a.eval);invoke d.target d.args):=rfl
 rw[e,hx];simp only[Deferred.ofValue,Sem.run_bind,Sem.run_pure,Result.andThen_ok,invoke]
theorem Fm {o:Oper}{next:Act->World->Prop}{Q:Exit->Act->World->Prop}{f:FuncId}{args:List CV}{args':Array Value}(hc:fL P call)(hr:call f args st= .ok v st')(hw:WR ρ st w)(ha:cL ρ args args'.toList)
 (ie:(execOp a.eval o).run P w=(callFunc f args').run P w) (hn:∀v' w' ρ',VR ρ' v v'->aY ρ st w ρ' st' w'->next (a.put o.dst v') w'):o.wp P a w next Q:=by
 rcases hc f args st v st' hr with⟨h1,h2⟩|⟨h1,h2⟩
 ·unfold Oper.wp;rw[ie,vz _ h1,Oper.upon_enter];refine(h2 ρ w args' hw ha).mono ?_;rintro e w' ⟨v',ρ',rfl,hv,hA⟩;exact hn v' w' ρ' hv hA
 ·subst h1;obtain⟨v',h3,h4⟩:=h2 ρ w args' hw ha;unfold Oper.wp;rw[ie,h3,Oper.upon_value];exact hn v' w ρ h4 (aY.refl hw)
theorem Cs {f:CV}{args:List CV}(hr:pY call f args st= .ok v st'){f':Value}(hf:VR ρ f f'){args':List Value}(ha:cL ρ args args'):
 ∃g first captured,f'= .func (.func g) first captured/\∃l,call g l st= .ok v st'/\cL ρ l (first++args'.toArray++captured).toList:=by
 unfold pY at hr
 split at hr
 ·rename_i g fi ca;cases hf with
  |func _ _ _ f' c' hf hc h1 h2=>
   refine⟨g,f'.toArray,c'.toArray,rfl,_,hr, ?_⟩;have:=(cL.mk (ρ:=ρ) hf h1).app (ha.app (cL.mk (ρ:=ρ) hc h2))
   simpa using this
 ·cases hr
theorem wC (hc:fL P call){o:Oper}{op:ue}(h:iM P o.op=some op)(hr:bV call op fr st= .ok v st')(hw:WR ρ st w)(hf:FR ρ fr a.tmps){next:Act->World->Prop}{Q:Exit->Act->World->Prop}
 (hn:∀v' w' ρ',VR ρ' v v'->aY ρ st w ρ' st' w'->next (a.put o.dst v') w'):o.wp P a w next Q:=by
 obtain⟨dst,WH,ty,pos,after,guard⟩:=o;have fin:∀{s:Sem Next},s=execOp a.eval ⟨dst,WH,ty,pos,after,guard⟩->Af P s ρ st w v st'->Oper.wp P ⟨dst,WH,ty,pos,after,guard⟩ a w next Q:=fun e hd=>o9 (e▸hd) hn;dsimp only at h;unfold iM at h
 split at h
 ·rename_i x
  split at h
  ·rename_i x' hx;cases h;cases hr;exact fin rfl ⟨.value (a.eval x),a.eval x,w,ρ,rfl, .inl rfl,aZ hx hf,aY.refl hw⟩
  ·cases h
 ·rename_i x
  split at h
  ·rename_i x' hx;cases h;cases hr;exact fin rfl ⟨.value (a.eval x),a.eval x,w,ρ,rfl, .inl rfl,aZ hx hf,aY.refl hw⟩
  ·cases h
 ·split at h
  ·rename_i h1 h2 h3;cases h;exact fin rfl (xH hr hw (aZ h1 hf) (aZ h2 hf) (aZ h3 hf))
  ·cases h
 ·split at h
  ·rename_i i hi
   split at h
   ·rename_i z hz;cases h;obtain⟨z',z1,z2,z3⟩:=gp hz;exact fin rfl (vU hr hw hi z1 z3).fa
   ·cases h
  ·cases h
 ·split at h
  ·rename_i hx;cases h;exact fin rfl (zF hr hw (aZ hx hf)).fa
  ·cases h
 ·split at h
  ·rename_i fs i hu hi
   split at h
   ·rename_i z ps hz hp oy;cases h;obtain⟨z',z1,z2,z3⟩:=gp hz;have Hu:=jy hp hf;refine fin rfl (tP hr hw hu hi z1 z3 (by rw[ahj];exact Hu) (fun f hfm=> ?_)).fa;have:=List.all_eq_true.1 oy f hfm;exact Option.isSome_iff_exists.1 this
   ·cases h
  ·rename_i n e i hu hi
   split at h
   ·rename_i j hj
    split at h
    ·rename_i z ps hz hp;cases h;obtain⟨z',z1,z2,z3⟩:=gp hz;have Hu:=jy hp hf;exact fin rfl (vS hr hw hu hi z1 z3 hj (by rw[ahj];exact Hu)).fa
    ·cases h
   ·cases h
  ·cases h
 ·split at h
  ·rename_i e hu
   split at h
   ·rename_i i hi;simp only[aO,agw]at h
    split at h
    ·rename_i hle
     split at h
     ·rename_i z ps hz hp;cases h;obtain⟨z',z1,z2,z3⟩:=gp hz;have Hu:=jy hp hf;exact fin rfl (o4 hr hw hu hi z1 z2 z3 (by rw[ahj];exact Hu) hle).fa
     ·cases h
    ·cases h
   ·cases h
  ·cases h
 ·split at h
  ·rename_i u i x' hu hi hx;rw[aO]at h
   split at h
   ·rename_i ha;cases h;exact fin rfl (vK hr hw (aZ hx hf) (by rw[ni hu,ha]) (fx hi)).fa
   ·rename_i ha;cases h;exact fin rfl (vL hr hw (aZ hx hf) (by rw[ni hu,show fj u=false by simpa using ha])).fa
  ·cases h
 ·split at h
  ·rename_i i x' y' hi hx hy;cases h;exact fin rfl (vI hr hw (aZ hx hf) (aZ hy hf) (fx hi)).fa
  ·cases h
 ·rename_i x
  split at h
  ·rename_i x' hx;cases h;exact o9 (zA (o:=⟨dst, .nilCheck x,ty,pos,after,guard⟩) hr hw (aZ hx hf) rfl rfl) hn
  ·cases h
 ·rename_i op2 t x y yt
  split at h
  ·rename_i x' y' hx hy;cases h;refine fin rfl (zG (X:=x) (Y:=y) (f:=40) hr hw (aZ hx hf) (aZ hy hf) (fun e he=>(sH he).1) (by omega) rfl (fun e he=>(sH he).2)).fa
  ·cases h
 ·split at h
  ·rename_i x' hx;cases h;exact fin rfl (BC hr hw (aZ hx hf)).fa
  ·cases h
 ·split at h
  ·rename_i c x' hk hx;cases h;exact fin rfl (xL hr hw (aZ hx hf) (tY hk)).fa
  ·cases h
 ·split at h
  ·rename_i hu hx;cases h;exact fin rfl (xG hr hw (aZ hx hf) hu).fa
  ·cases h
 ·split at h
  ·rename_i hk hx;cases h;exact fin rfl (vM hr hw (aZ hx hf) hk).fa
  ·cases h
 ·split at h
  ·rename_i h1 h2;cases h;exact fin rfl (xK hr hw (by rw[ahj];exact kd h1 hf) (by rw[ahj];exact kd h2 hf)).fa
  ·cases h
 ·split at h
  ·rename_i hu h1;cases h;exact fin rfl (vJ hr hw (dN h1 hf) hu).fa
  ·cases h
 ·split at h
  ·rename_i e l' c' hu h1 h2
   split at h
   ·rename_i i hi
    split at h
    ·rename_i z hz;cases h;obtain⟨z',z1,z2,z3⟩:=gp hz;exact fin rfl (xI hr hw (aZ h1 hf) (aZ h2 hf) hu hi z1 rfl z2 z3).fa
    ·cases h
   ·cases h
  ·cases h
 ·rename_i t x lo hi mx
  split at h
  ·rename_i x' nP gK hu hx IT IX Hy;cases h;have hm:=dN (ρ:=ρ) Hy hf;cases mx with
   |some m=>exact False.elim hm
   |none=>exact fin rfl (qQ hr hw (aZ hx hf) (dN IT hf) (dN IX hf) hu).fa
  ·rename_i e x' nP gK hu hx IT IX Hy;have hm:=dN (ρ:=ρ) Hy hf;cases mx with
   |some m=>exact False.elim hm
   |none=>
    split at h
    ·rename_i i CJ;cases h;exact fin rfl (rR hr hw (aZ hx hf) (dN IT hf) (dN IX hf) hu (fx CJ)).fa
    ·cases h
  ·rename_i e x' nP gK Me hu hx IT IX Hy;have hm:=dN (ρ:=ρ) Hy hf;have hh:=dN (ρ:=ρ) IX hf;cases mx with
   |none=>exact False.elim hm
   |some m=>
    cases hi with
    |none=>exact False.elim hh
    |some h2=>
     split at h
     ·rename_i i CJ;cases h;exact fin rfl (tJ hr hw (aZ hx hf) (dN IT hf) hh hm hu (fx CJ)).fa
     ·cases h
  ·rename_i n e x' nP gK hu hx IT IX Hy;have hm:=dN (ρ:=ρ) Hy hf;cases mx with
   |some m=>exact False.elim hm
   |none=>
    split at h
    ·rename_i i CJ;cases h;exact fin rfl (qR hr hw (aZ hx hf) (dN IT hf) (dN IX hf) hu (fx CJ)).fa
    ·cases h
  ·cases h
 ·split at h
  ·rename_i fs x' hu hx
   split at h
   ·rename_i fd UU
    split at h
    ·rename_i i hi;simp only[aO,agA]at h
     split at h
     ·cases h
     ·rename_i hz;cases h;exact fin rfl (pX hr hw (aZ hx hf) hu UU rfl (fx hi) hz).fa
    ·cases h
   ·cases h
  ·cases h
 ·split at h
  ·rename_i fs x' hu hx
   split at h
   ·rename_i fd UU
    split at h
    ·rename_i i u hi Tk;cases h;exact fin rfl (vO hr hw (aZ hx hf) hu UU hi Tk).fa
    ·cases h
   ·cases h
  ·cases h
 ·split at h
  ·rename_i n e x' i' hu hx hi
   split at h
   ·rename_i j hj;cases h;exact fin rfl (tM hr hw (aZ hx hf) (aZ hi hf) hu (fx hj)).fa
   ·cases h
  ·rename_i e x' i' hu hx hi
   split at h
   ·rename_i j hj;cases h;exact fin rfl (vN hr hw (aZ hx hf) (aZ hi hf) hu (fx hj)).fa
   ·cases h
  ·cases h
 ·split at h
  ·rename_i x' i' hu hx hi;cases h;exact fin rfl (tL hr hw (aZ hx hf) (aZ hi hf) hu).fa
  ·rename_i n e x' i' hu hx hi
   split at h
   ·rename_i j u hj Cy;cases h;exact fin rfl (tN hr hw (aZ hx hf) (aZ hi hf) hu hj Cy).fa
   ·cases h
  ·cases h
 ·split at h
  ·rename_i e d x' k' hk hx CG
   split at h
   ·rename_i i hi
    split at h
    ·rename_i z hz;cases h;obtain⟨kt,k1,k2,k3⟩:=jL hk;obtain⟨z',z1,z2⟩:=uf hz;exact fin rfl (tK hr hw (aZ hx hf) (aZ CG hf) k1 k2 (by omega) k3 hi z1 (z2 ρ)).fa
    ·cases h
   ·cases h
  ·cases h
 ·split at h
  ·rename_i e d m' k' x' hk hm CG hx;cases h;obtain⟨kt,k1,k2,k3⟩:=jL hk;exact fin rfl (kL hr hw (aZ hm hf) (aZ CG hf) (aZ hx hf) k1 k2 (by omega) k3).fa
  ·cases h
 ·split at h
  ·rename_i e d m' k' x' hk hm CG hx;cases h;obtain⟨kt,k1,k2,k3⟩:=jL hk;exact fin rfl (kL hr hw (aZ hm hf) (aZ CG hf) (aZ hx hf) k1 k2 (by omega) k3).fa
  ·cases h
 ·split at h
  ·rename_i e d m' k' hk hm CG
   split at h
   ·rename_i i hi
    split at h
    ·rename_i z hz;cases h;obtain⟨kt,k1,k2,k3⟩:=jL hk;obtain⟨z',z1,z2⟩:=uf hz;exact fin rfl (qS hr hw (aZ hm hf) (aZ CG hf) k1 k2 (by omega) k3 hi z1 (z2 ρ)).fa
    ·cases h
   ·cases h
  ·cases h
 ·split at h
  ·rename_i m' s' x' hm hs hx;cases h;exact fin rfl (oY hr hw (aZ hm hf) (aZ hs hf) (aZ hx hf)).fa
  ·cases h
 ·split at h
  ·rename_i x' hx;cases h;exact fin rfl (rV hr hw (aZ hx hf)).fa
  ·cases h
 ·exact fin rfl (pC h hr hw hf)
 ·rename_i f args ats
  split at h
  ·rename_i l hl;cases h;refine Fm (o:=⟨dst, .call {callee:= .value (.func f),args:=args,argTypes:=ats},ty,pos,after,guard⟩) hc hr hw (args':= #[]++args.map a.eval++ #[]) (by simpa using kd hl hf) (uw rfl) hn
  ·cases h
 ·rename_i f args ats T6
  split at h
  ·rename_i f' l UX hl;cases h;obtain⟨g,first,captured,e1,l',e2,e3⟩:=Cs hr (aZ UX hf) (kd hl hf);refine Fm (o:=⟨dst, .call {callee:= .value f,args:=args,argTypes:=ats},ty,pos,after,guard⟩) hc e2 hw (args':=first++args.map a.eval++captured) (by simpa using e3) (uw e1) hn
  ·cases h
 ·cases h
end
inductive Rs where
 |norm (fr:Fr) (st:St)
 |exit (id:Nat) (fr:Fr) (st:St)
 |ret (fr:Fr) (st:St)
 |bad
def dP (ops:Array Oper)(fr:Fr)(o:Oper):Option Bool:=
 match o.guard with
 |none=>some true
 |some (g,b)=>(match (ops[g]?).bind (·.dst)with
  |none=>some false
  |some d=>(match dL fr d with
   | .bool c=>some (bk b c (Bool.not c))
   | .undef=>some false
   |_=>none))
def iT (P:Program)(call:dY)(ops:Array Oper)(o:Oper)(fr:Fr)(st:St):OR:=
 match dP ops fr o with
 |some true=>(match iM P o.op with|some op=>bV call op fr st|none=> .bad)
 |some false=> .ok .undef st
 |none=> .bad
section
variable {P:Program} {ρ:Ren} {st st':St} {w:World} {v:CV} {fr:Fr} {a:Act} {call:dY}
theorem fJ {ops:Array Oper}{o:Oper}{b:Bool}(h:dP ops fr o=some b)(hf:FR ρ fr a.tmps):Region.wanted o (yielded ops a.tmps)=b:=by
 unfold dP at h;unfold Region.wanted
 split at h
 ·rename_i hg;cases h;rw[hg]
 ·rename_i g want hg;rw[hg];dsimp only;unfold yielded
  split at h
  ·rename_i hd;cases h;rw[hd];rfl
  ·rename_i d hd;rw[hd,Option.bind_some];have hv:=hf d
   split at h
   ·rename_i c hc;cases h;rw[hc]at hv;cases P5:a.tmps[d]? with
    |none=>
     have:a.tmps.getD d Go.undef=Go.undef:=by simp[P5]
     rw[this]at hv;cases hv
    |some x=>
     have:a.tmps.getD d Go.undef=x:=by simp[P5]
     rw[this]at hv;cases hv;dsimp only;cases c<;>cases want<;>rfl
   ·rename_i hc;cases h;rw[hc]at hv;cases P5:a.tmps[d]? with
    |none=>rfl
    |some x=>
     have:a.tmps.getD d Go.undef=x:=by simp[P5]
     rw[this]at hv;cases hv
     rfl
   ·cases h
theorem mu (hc:fL P call){ops:Array Oper}{o:Oper}(h:iT P call ops o fr st= .ok v st')(hw:WR ρ st w)(hf:FR ρ fr a.tmps){next:Act->World->Prop}{Q:Exit->Act->World->Prop}
 (hn:∀v' w' ρ',VR ρ' v v'->aY ρ st w ρ' st' w'->next (a.put o.dst v') w'):
 if Region.wanted o (yielded ops a.tmps)then o.wp P a w next Q else next (a.put o.dst undef) w:=by
 unfold iT at h
 split at h
 ·rename_i tT;rw[agl (fJ tT hf)]
  split at h
  ·rename_i op yP;exact wC hc yP h hw hf hn
  ·cases h
 ·rename_i tT;rw[agf (by rw[fJ tT hf];simp)];cases h;exact hn _ w ρ .undef (aY.refl hw)
 ·cases h
end
def ko (P:Program)(call:dY)(n:Nat)(ops:Array Oper)(l:List Oper)(fr:Fr)(st:St):Rs:=
 match l with
 |[]=> .norm fr st
 |o::l=>match iT P call ops o fr st with
  | .ok v st=>(match o.dst with|none=>ko P call n ops l fr st|some d=>if d<n then ko P call n ops l (fr.put d (some v)) st else .bad)
  | .bad=> .bad
structure FC (ρ:Ren)(st:St)(w:World)(n:Nat)(fr':Fr)(st':St)(a':Act)(w':World)(ρ':Ren):Prop where
 fr:FR ρ' fr' a'.tmps
 sz:n<=a'.tmps.size
 defers:a'.defers=[]
 after:aY ρ st w ρ' st' w'
def kW (ρ:Ren)(st:St)(w:World)(n:Nat)(r:Rs)(e:Exit)(a':Act)(w':World):Prop:=
 match r with
 | .norm fr' st'=>e= .normal/\∃ρ',FC ρ st w n fr' st' a' w' ρ'
 | .exit id fr' st'=>e= .exit id/\∃ρ',FC ρ st w n fr' st' a' w' ρ'
 | .ret fr' st'=>e= .ret/\∃ρ',FC ρ st w n fr' st' a' w' ρ'
 | .bad=>False
theorem kW.step {ρ ρ1:Ren}{st eY:St}{w w1:World}{n:Nat}{r:Rs}{e:Exit}{a':Act}{w':World}(hA:aY ρ st w ρ1 eY w1)(h:kW ρ1 eY w1 n r e a' w'):kW ρ st w n r e a' w':=by
 cases r<;>simp only[kW]at h⊢
 ·obtain⟨h1,ρ',h2⟩:=h;exact⟨h1,ρ',h2.fr,h2.sz,h2.defers,hA.trans h2.after⟩
 ·obtain⟨h1,ρ',h2⟩:=h;exact⟨h1,ρ',h2.fr,h2.sz,h2.defers,hA.trans h2.after⟩
 ·obtain⟨h1,ρ',h2⟩:=h;exact⟨h1,ρ',h2.fr,h2.sz,h2.defers,hA.trans h2.after⟩
theorem xx (a:Act)(d:Option Tmp)(v:Value):(a.put d v).tmps.size=a.tmps.size:=by cases d<;>simp[Act.put]
theorem rM (a:Act)(d:Option Tmp)(v:Value):(a.put d v).defers=a.defers:=by cases d<;>rfl
section
variable {P:Program} {call:dY} {n:Nat} {ops:Array Oper}
theorem zl (fr:Fr)(st:St):ko P call n ops [] fr st= .norm fr st:=rfl
theorem qx (o:Oper)(l:List Oper)(fr:Fr)(st:St):ko P call n ops (o::l) fr st=
 match iT P call ops o fr st with
 | .ok v st=>(match o.dst with|none=>ko P call n ops l fr st|some d=>if d<n then ko P call n ops l (fr.put d (some v)) st else .bad)
 | .bad=> .bad:=rfl
theorem FR.Nk {ρ:Ren}{fr:Fr}{a:Act}(h:FR ρ fr a.tmps){d:Nat}(hd:d<a.tmps.size){v:CV}{v':Value}(hv:VR ρ v v'):FR ρ (fr.put (d) (some v)) (a.put (some d) v').tmps:=h.put hd hv
theorem vA (hc:fL P call)(l:List Oper):∀(fr:Fr) (st:St) (ρ:Ren) (a:Act) (w:World),ko P call n ops l fr st≠ .bad->WR ρ st w->FR ρ fr a.tmps->n<=a.tmps.size->a.defers=[]->
 wpList P ops (kW ρ st w n (ko P call n ops l fr st)) l a w:=by
 induction l with
 |nil=>intro fr st ρ a w _ hw hf hn hd;rw[zl];exact wpList_nil ⟨rfl,ρ,hf,hn,hd,aY.refl hw⟩
 |cons o l ih=>
  intro fr st ρ a w hb hw hf hn hd;rw[qx]at hb⊢;cases hs:iT P call ops o fr st with
  |bad=>rw[hs]at hb;exact absurd rfl hb
  |ok v eY=>
   rw[hs]at hb;refine wpList_step fun K hK=>mu hc hs hw hf fun v' w' ρ' hv hA=>hK _ _ ?_;dsimp only at hb⊢
   have mono:∀{r:Rs} {l:List Oper} {a:Act} {w1:World},wpList P ops (kW ρ' eY w' n r) l a w1->wpList P ops (kW ρ st w n r) l a w1:=by
    intro r l
    induction l with
    |nil=>intro a w1 h;exact kW.step hA h
    |cons o l ih=>
     intro a w1 h;unfold wpList at h⊢
     split
     ·rename_i tT;rw[agl tT]at h;rcases h with h|⟨h1,a2,w2,h2⟩
      ·left;unfold Oper.wp at h⊢;generalize (execOp a.eval o).run P w1=rr at h⊢;cases rr with
       |ok x w2=>
        cases x<;>simp only[Oper.upon]at h⊢<;>first
         |exact ih h
         |exact h.mono (fun e w3 he=>by cases e<;>first|exact ih he|exact kW.step hA he|(obtain⟨a4,w4,h4⟩:=he;exact⟨a4,w4,kW.step hA h4⟩))
         |exact h.mono (fun _ _ he=>ih he)
       |halt x w2=>cases x<;>simp only[Oper.upon]at h⊢<;>exact kW.step hA h
      ·exact .inr ⟨h1,a2,w2,kW.step hA h2⟩
     ·rename_i tT;rw[agf tT]at h;exact ih h
   cases OQ:o.dst with
   |none=>
    rw[OQ]at hb;refine mono (ih fr eY ρ' (a.put none v') w' hb hA.wr (hf.mono hA.ext) hn hd)
   |some d=>
    rw[OQ]at hb;dsimp only at hb⊢
    split at hb
    ·rename_i I5;rw[agl I5];exact mono (ih _ eY ρ' (a.put (some d) v') w' hb hA.wr ((hf.mono hA.ext).Nk (ago I5 hn) hv) (by rw[xx];exact hn) (by rw[rM];exact hd))
    ·exact absurd rfl hb
end
