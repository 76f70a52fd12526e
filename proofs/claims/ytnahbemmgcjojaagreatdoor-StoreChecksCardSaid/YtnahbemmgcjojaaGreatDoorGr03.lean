import Derived.Test.YtnahbemmgcjojaaGreatDoorGr02
namespace Lim
open Go
noncomputable section
abbrev qN:=dY->Nat->Array Oper->Fr->St->Rs
def nL (r:Rs)(k:Fr->St->Rs):Rs:=match r with| .norm fr st=>k fr st| .exit id fr st=> .exit id fr st| .ret fr st=> .ret fr st| .bad=> .bad
def mP (id:Nat)(r:Rs):Rs:=match r with| .norm fr st=> .norm fr st| .exit i fr st=>bk (Nat.beq i id) (.norm fr st) (.exit i fr st)| .ret fr st=> .ret fr st| .bad=> .bad
def AD:List Nat->List CV->Fr
 |[],_=>fun _=>some .any
 |l::L,vs=>PT.put (AD L (vs.drop 1)) l (some (vs.headD .any))
def yS:Code->Nat
 | .region id _ _=>id
 | .seq x _=>yS x
 | .cond _ x _=>yS x
 | .block _ x=>yS x
 | .loop x=>yS x
 | .scope x=>yS x
 |_=>0
def qj (L:Option (List Nat))(fr:Fr):Fr:=match L with|none=>fr|some L=>AD L (L.map (dL fr))
def qB (body:Fr->St->Rs)(L:Option (List Nat)):Nat->Fr->St->Rs
 |0,_,_=> .bad
 |n+1,fr,st=>nL (body (qj L fr) st) (qB body L n)
def uX (c:Operand)(x y:Fr->St->Rs)(fr:Fr)(st:St):Rs:=
 match dv c with|some c=>(match ev fr c with| .bool t=>bk t (x fr st) (y fr st)|_=> .bad)|none=> .bad
def iB (P:Program)(call:dY)(dr:qN)(lv:Nat->Option (List Nat))(fuel n:Nat)(c:Code)(fr:Fr)(st:St):Rs:=
 match c with
 | .skip=> .norm fr st
 | .region _ ops draw=>bk draw (dr call n ops fr st) (ko P call n ops ops.toList fr st)
 | .seq x y=>nL (iB P call dr lv fuel n x fr st) (fun fr st=>iB P call dr lv fuel n y (qj (lv (yS y)) fr) st)
 | .cond c x y=>uX c (iB P call dr lv fuel n x) (iB P call dr lv fuel n y) fr st
 | .block id x=>mP id (iB P call dr lv fuel n x fr st)
 | .loop x=>qB (iB P call dr lv fuel n x) (lv (yS x)) fuel fr st
 | .exit id=> .exit id fr st
 | .scope x=>iB P call dr lv fuel n x fr st
 | .label _=> .norm fr st
 | .ret=> .ret fr st
 |_=> .bad
def nz (P:Program)(dr:qN):Prop:=
 ∀(call:dY) (n:Nat),fL P call->∀(id:Nat) (ops:Array Oper) (fr:Fr) (st:St) (ρ:Ren) (a:Act) (w:World),dr call n ops fr st≠ .bad->WR ρ st w->FR ρ fr a.tmps->n<=a.tmps.size->a.defers=[]->
  (Code.region id ops true).wp P (kW ρ st w n (dr call n ops fr st)) a w
section
variable {P:Program} {call:dY} {dr:qN} {n:Nat} {lv:Nat->Option (List Nat)} {fuel:Nat}
def Ok (P:Program)(n:Nat)(c:Code)(f:Fr->St->Rs):Prop:=
 ∀(fr:Fr) (st:St) (ρ:Ren) (a:Act) (w:World),f fr st≠ .bad->WR ρ st w->FR ρ fr a.tmps->n<=a.tmps.size->a.defers=[]->c.wp P (kW ρ st w n (f fr st)) a w
theorem C6 {x y:Code}{f g:Fr->St->Rs}(hx:Ok P n x f)(hy:Ok P n y g):Ok P n (.seq x y) (fun fr st=>nL (f fr st) g):=by
 intro fr st ρ a w hb hw hf hn hd;have h1:=hx fr st ρ a w;refine wp_seq ?_;dsimp only at hb⊢;generalize f fr st=r at hb h1⊢;cases r with
 |bad=>exact absurd rfl hb
 |norm iK eY=>
  refine wp_mono (h1 (by simp) hw hf hn hd) ?_;rintro e a1 w1 ⟨rfl,ρ1,hp⟩;exact wp_mono (hy iK eY ρ1 a1 w1 hb hp.after.wr hp.fr hp.sz hp.defers) (fun e a w h=>kW.step hp.after h)
 |exit id iK eY=>
  refine wp_mono (h1 (by simp) hw hf hn hd) ?_;rintro e a1 w1 ⟨rfl,hp⟩;exact⟨rfl,hp⟩
 |ret iK eY=>
  refine wp_mono (h1 (by simp) hw hf hn hd) ?_;rintro e a1 w1 ⟨rfl,hp⟩;exact⟨rfl,hp⟩
theorem xY {x:Code}{f:Fr->St->Rs}{id:Nat}(hx:Ok P n x f):Ok P n (.block id x) (fun fr st=>mP id (f fr st)):=by
 intro fr st ρ a w hb hw hf hn hd;have h1:=hx fr st ρ a w;refine wp_block ?_;dsimp only at hb⊢;generalize f fr st=r at hb h1⊢;cases r with
 |bad=>exact absurd rfl hb
 |norm iK eY=>
  refine wp_mono (h1 (by simp) hw hf hn hd) ?_;rintro e a1 w1 ⟨rfl,hp⟩;exact⟨rfl,hp⟩
 |exit i iK eY=>
  refine wp_mono (h1 (by simp) hw hf hn hd) ?_;rintro e a1 w1 ⟨rfl,hp⟩;have e0:mP id (.exit i iK eY)=bk (Nat.beq i id) (.norm iK eY) (.exit i iK eY):=rfl;rw[e0];simp only[aO,agA,Exit.inBlock]
  by_cases hi:i=id
  ·simp only[agl hi];exact⟨rfl,hp⟩
  ·simp only[agf hi];exact⟨rfl,hp⟩
 |ret iK eY=>
  refine wp_mono (h1 (by simp) hw hf hn hd) ?_;rintro e a1 w1 ⟨rfl,hp⟩;exact⟨rfl,hp⟩
theorem EY (ρ:Ren)(fr:Fr)(tmps:Array Value)(h:FR ρ fr tmps):∀(L:List Nat),FR ρ (AD L (L.map (dL fr))) tmps:=by
 intro L
 induction L with
 |nil=>intro t;exact .any _
 |cons l L ih=>
  intro t;show VR ρ (dL (PT.put (AD L ((dL fr l::L.map (dL fr)).drop 1)) l (some (dL fr l))) t) _
  by_cases e:t=l
  ·subst e;rw[iQ];exact h t
  ·rw[iY _ _ _ _ e];exact ih t
theorem Ba {ρ:Ren}{fr:Fr}{tmps:Array Value}{L:Option (List Nat)}(h:FR ρ fr tmps):FR ρ (qj L fr) tmps:=by
 cases L with
 |none=>exact h
 |some L=>exact EY ρ fr tmps h L
theorem vZ {x:Code}{f:Fr->St->Rs}{L:Option (List Nat)}(hx:Ok P n x f):∀(k:Nat) (fr:Fr) (st:St) (ρ:Ren) (a:Act) (w:World),qB f L k fr st≠ .bad->WR ρ st w->FR ρ fr a.tmps->n<=a.tmps.size->a.defers=[]->
 Code.rounds P x (kW ρ st w n (qB f L k fr st)) k a w:=by
 intro k
 have mono:∀{Q Q':Exit->Act->World->Prop} (h:∀e a w,Q e a w->Q' e a w) (k:Nat) (a:Act) (w:World),Code.rounds P x Q k a w->Code.rounds P x Q' k a w:=by
  intro Q Q' h k
  induction k with
  |zero=>intro a w hh;exact hh
  |succ k ih=>
   intro a w hh;rw[rounds_succ]at hh⊢;refine wp_mono hh ?_;intro e a w hq;cases e<;>first|exact ih _ _ hq|exact h _ _ _ hq
 induction k with
 |zero=>intro fr st ρ a w hb;exact absurd rfl hb
 |succ k ih=>
  intro sE st ρ a w hb hw OO hn hd;have hf:=Ba (L:=L) OO;have e:qB f L (k+1) sE st=nL (f (qj L sE) st) (qB f L k):=rfl;rw[e]at hb⊢;generalize qj L sE=fr at hf hb⊢;rw[rounds_succ];cases hr:f fr st with
  |bad=>rw[hr]at hb;exact absurd rfl hb
  |norm iK eY=>
   have h1:=hx fr st ρ a w (by rw[hr];simp) hw hf hn hd;rw[hr]at h1 hb;refine wp_mono h1 ?_;rintro e a1 w1 ⟨rfl,ρ1,hp⟩;exact mono (fun e a w h=>kW.step hp.after h) k a1 w1 (ih iK eY ρ1 a1 w1 hb hp.after.wr hp.fr hp.sz hp.defers)
  |exit id iK eY=>
   have h1:=hx fr st ρ a w (by rw[hr];simp) hw hf hn hd;rw[hr]at h1;refine wp_mono h1 ?_;rintro e a1 w1 ⟨rfl,hp⟩;exact⟨rfl,hp⟩
  |ret iK eY=>
   have h1:=hx fr st ρ a w (by rw[hr];simp) hw hf hn hd;rw[hr]at h1;refine wp_mono h1 ?_;rintro e a1 w1 ⟨rfl,hp⟩;exact⟨rfl,hp⟩
theorem HT (hc:fL P call)(ED:nz P dr)(c:Code):Ok P n c (iB P call dr lv fuel n c):=by
 induction c with
 |skip=>intro fr st ρ a w _ hw hf hn hd;exact wp_skip ⟨rfl,ρ,hf,hn,hd,aY.refl hw⟩
 |region id ops draw=>
  intro fr st ρ a w hb hw hf hn hd;cases draw with
  |true=>exact ED call n hc id ops fr st ρ a w hb hw hf hn hd
  |false=>exact wp_region_list (vA hc ops.toList fr st ρ a w hb hw hf hn hd)
 |seq x y hx hy=>exact C6 hx (fun fr st ρ a w hb hw hf hn hd=>hy _ st ρ a w hb hw (Ba hf) hn hd)
 |cond c x y hx hy=>
  intro fr st ρ a w hb hw hf hn hd;have e:iB P call dr lv fuel n (.cond c x y) fr st=uX c (iB P call dr lv fuel n x) (iB P call dr lv fuel n y) fr st:=rfl;rw[e]at hb⊢;unfold uX at hb⊢;cases zU:dv c with
  |none=>rw[zU]at hb;exact absurd rfl hb
  |some c'=>
   rw[zU]at hb;have UY:=aZ zU hf;dsimp only at hb⊢;generalize wj:ev fr c'=cv at hb UY⊢;cases cv with
   |bool t=>
    generalize hv':a.eval c=cv' at UY;cases UY;cases t with
    |true=>exact wp_cond_true hv' (hx fr st ρ a w hb hw hf hn hd)
    |false=>exact wp_cond_false hv' (hy fr st ρ a w hb hw hf hn hd)
   |_=>exact absurd rfl hb
 |block id x hx=>exact xY hx
 |loop x hx=>intro fr st ρ a w hb hw hf hn hd;exact wp_loop_rounds fuel (vZ hx fuel fr st ρ a w hb hw hf hn hd)
 |rangeFunc f ps x y hx hy=>intro fr st ρ a w hb;exact absurd rfl hb
 |exit id=>intro fr st ρ a w _ hw hf hn hd;exact wp_exit ⟨rfl,ρ,hf,hn,hd,aY.refl hw⟩
 |scope x hx=>
  intro fr st ρ a w hb hw hf hn hd;refine wp_scope_straight (wp_mono (hx fr st ρ a w hb hw hf hn hd) ?_);intro e a1 w1 h;have e0:iB P call dr lv fuel n (.scope x) fr st=iB P call dr lv fuel n x fr st:=rfl;rw[e0];cases e with
  |goto l=>
   unfold kW at h
   split at h
   ·exact absurd h.1 (by simp)
   ·exact absurd h.1 (by simp)
   ·exact absurd h.1 (by simp)
   ·exact h.elim
  |_=>exact h
 |label l=>intro fr st ρ a w _ hw hf hn hd;exact wp_label ⟨rfl,ρ,hf,hn,hd,aY.refl hw⟩
 |goto l=>intro fr st ρ a w hb;exact absurd rfl hb
 |ret=>intro fr st ρ a w _ hw hf hn hd;exact wp_ret ⟨rfl,ρ,hf,hn,hd,aY.refl hw⟩
 |refuse y=>intro fr st ρ a w hb;exact absurd rfl hb
end
def lQ (args:List CV):Fr:=fun t=>args[t]?
theorem zV {ρ:Ren}{args:List CV}{args':Array Value}(h:cL ρ args args'.toList)(k:Nat):FR ρ (lQ args) (args'++Array.replicate k undef):=by
 intro t;have hlen:args.length=args'.size:=by rw[h.len];simp
 by_cases ht:t<args.length
 ·have h1:args[t]?=some args[t]:=by simp[ht]
  have h2:args'.toList[t]?=some (args'[t]'(by omega)):=by simp
  have h3:=h.ji t _ _ h1 h2
  have h4:(args'++Array.replicate k undef).getD t Go.undef=args'[t]'(by omega):=by
   simp[Array.getElem?_append,show t<args'.size by omega]
  have h5:dL (lQ args) t=args[t]:=by show(Option.rec _ _ (args[t]?):CV)=_;rw[h1]
  rw[h4,h5];exact h3
 ·have h4:(args'++Array.replicate k undef).getD t Go.undef=Go.undef:=by
   simp only[Array.getD_eq_getD_getElem?,Array.getElem?_append,agf (show¬t<args'.size by omega),Array.getElem?_replicate]
   split<;>rfl
  have h5:dL (lQ args) t= .undef:=by show(Option.rec _ _ (args[t]?):CV)=_;rw[agL (by omega)]
  rw[h4,h5];exact .undef
def ux (P:Program)(fr:Fr)(st:St)(r:ResultVar):Option CV:=
 match r with
 | .tmp t=>some (dL fr (t))
 | .cell a t=>(match P.underlying t,P.info? t with
   |some u,some i=>(match bk (fj u) (aP i.size (dL fr (a)) st) (aw (dL fr (a)) st)with| .ok v _=>some v| .bad=>none)
   |_,_=>none)
def zo (P:Program)(fr:Fr)(st:St)(l:List ResultVar):Option (List CV):=
 List.rec (some []) (fun r _ ih=>match ux P fr st r,ih with|some v,some l=>some (v::l)|_,_=>none) l
def tG (P:Program)(fr:Fr)(st:St)(l:List ResultVar):OR:=
 match zo P fr st l with
 |some []=> .ok .undef st
 |some [v]=> .ok v st
 |some l=> .ok (.tuple l) st
 |none=> .bad
def wA (P:Program)(dr:qN)(lv:Nat->Nat->Option (List Nat))(fuel:Nat)(call:dY)(f:Nat)(args:List CV)(st:St):OR:=
 bk (eV P f) (match P.funcs[f]? with
  |some fn=>(match fn.body with
   |some c=>(match iB P call dr (lv f) fuel fn.ntmps c (lQ args) st with
    | .norm fr st=>tG P fr st fn.results.toList
    | .exit _ _ _=> .bad
    | .ret fr st=>tG P fr st fn.results.toList
    | .bad=> .bad)
   |none=> .bad)
  |none=> .bad) .bad
section
variable {P:Program} {call:dY} {dr:qN} {ρ:Ren} {st st':St} {w:World} {fr:Fr} {a:Act} {v:CV}
theorem BO {t:TypeId}{p:CV}{p':Value}(h:aw p st= .ok v st')(hw:WR ρ st w)(hp:VR ρ p p')(ht:(isAgg t).run P w= .ok false w):
 ∃v',(do loadVar t (<-asAddr p'):Sem Value).run P w= .ok v' w/\VR ρ v v':=by
 unfold aw at h
 split at h
 ·rename_i b off
  split at h
  ·rename_i s t' g hm;cases hx:s[off]? with
   |none=>rw[hx]at h;cases h
   |some x=>
    rw[hx]at h;cases h;cases hp with
    |ptr _ _ r sz hr=>
     obtain⟨c,lo,hi,e1,e2,e3,e4,e5⟩:=hw.row hm hr;obtain⟨x',g1,g2⟩:=ng e4 hx;refine⟨_, ?_,g2⟩;simp[asAddr,loadVar,ht,ju P w r off c t' (lo,hi) x' e1 (oM g1),-run_load]
  ·rename_i s o0 hm;cases hx:s[off]? with
   |none=>rw[hx]at h;cases h
   |some x=>
    rw[hx]at h;cases h;cases hp with
    |ptr _ _ r sz hr=>
     obtain⟨c,t',lo,hi,e1,e2,e3,e4⟩:=hw.Dr hm hr;obtain⟨x',g1,g2⟩:=ng e4 hx;refine⟨_, ?_,g2⟩;simp[asAddr,loadVar,ht,ju P w r off c t' (lo,hi) x' e1 (oM g1),-run_load]
  ·cases h
 ·cases h
theorem BN {t:TypeId}{n:Nat}{p:CV}{p':Value}(h:aP n p st= .ok v st')(hw:WR ρ st w)(hp:VR ρ p p')(ht:(isAgg t).run P w= .ok true w)
 (hn:(Go.sizeOf t).run P w= .ok n w):∃v',(do loadVar t (<-asAddr p'):Sem Value).run P w= .ok v' w/\VR ρ v v':=by
 unfold aP at h
 split at h
 ·rename_i b off
  split at h
  ·rename_i s t' g hm;cases hx:fG s off n with
   |none=>rw[hx]at h;cases h
   |some x=>
    rw[hx]at h;cases h;cases hp with
    |ptr _ _ r sz hr=>
     obtain⟨c,lo,hi,e1,e2,e3,e4,e5⟩:=hw.row hm hr;obtain⟨g1,g2⟩:=gu hx;refine⟨.agg ((c.toList.drop off).take n).toArray, ?_,(VR.wK ?_)⟩
     ·simp[asAddr,loadVar,ht,hn,cZ P w r off n c t' (lo,hi) e1 (by omega)]
     ·rw[show x=(s.drop off).take n from g2]
      have e:(c.toList.drop off).take n=((c.toList.take s.length).drop off).take n:=by
       rw[ahs,agV,agD (by omega)]
      rw[e];exact(e4.drop off).take n
  ·rename_i s o0 hm;cases hx:fG s off n with
   |none=>rw[hx]at h;cases h
   |some x=>
    rw[hx]at h;cases h;cases hp with
    |ptr _ _ r sz hr=>
     obtain⟨c,t',lo,hi,e1,e2,e3,e4⟩:=hw.Dr hm hr;obtain⟨g1,g2⟩:=gu hx;refine⟨.agg ((c.toList.drop off).take n).toArray, ?_,(VR.wK ?_)⟩
     ·simp[asAddr,loadVar,ht,hn,cZ P w r off n c t' (lo,hi) e1 (by omega)]
     ·rw[show x=(s.drop off).take n from g2]
      have e:(c.toList.drop off).take n=((c.toList.take s.length).drop off).take n:=by
       rw[ahs,agV,agD (by omega)]
      rw[e];exact(e4.drop off).take n
  ·cases h
 ·cases h
def vD (a:Act)(r:ResultVar):Sem Value:=match r with| .tmp t=>pure (a.tmps.getD t undef)| .cell ad t=>do loadVar t (<-asAddr (a.tmps.getD ad undef))
theorem xw {r:ResultVar}{v:CV}(h:ux P fr st r=some v)(hw:WR ρ st w)(hf:FR ρ fr a.tmps):
 ∃v',(vD a r).run P w= .ok v' w/\VR ρ v v':=by
 unfold ux at h
 split at h
 ·rename_i t;cases h;exact⟨_,rfl,hf t⟩
 ·rename_i ad t
  split at h
  ·rename_i u i hu hi;have hp:=hf ad;rw[aO]at h
   by_cases ha:fj u=true
   ·rw[agl ha]at h
    split at h
    ·rename_i v1 eY hh;cases h;exact BN (t:=t) hh hw hp (by rw[ni hu,ha]) (fx hi)
    ·cases h
   ·rw[agf ha]at h
    split at h
    ·rename_i v1 eY hh;cases h;exact BO (t:=t) hh hw hp (by rw[ni hu,show fj u=false by simpa using ha])
    ·cases h
  ·cases h
theorem oe:∀{l:List ResultVar} {vs:List CV},zo P fr st l=some vs->WR ρ st w->FR ρ fr a.tmps->∃uh,(l.mapM (vD a)).run P w= .ok uh w/\cL ρ vs uh:=by
 intro l
 induction l with
 |nil=>intro vs h _ _;cases h;exact⟨[],rfl,cL.nil ρ⟩
 |cons r l ih=>
  intro vs h hw hf;have e:zo P fr st (r::l)=(match ux P fr st r,zo P fr st l with|some v,some l=>some (v::l)|_,_=>none):=rfl;rw[e]at h
  split at h
  ·rename_i v l1 h1 h2;cases h;obtain⟨v',g1,g2⟩:=xw h1 hw hf;obtain⟨uh,g3,g4⟩:=ih h2 hw hf;exact⟨v'::uh,by simp[List.mapM_cons,g1,g3],cL.cons g2 g4⟩
  ·cases h
theorem rL {fn:Func}(h:tG P fr st fn.results.toList= .ok v st')(hw:WR ρ st w)(hf:FR ρ fr a.tmps):st'=st/\∃v',(results fn a.tmps).run P w= .ok v' w/\VR ρ v v':=by
 unfold tG at h
 have e:∀{uh},(fn.results.toList.mapM (vD a)).run P w= .ok uh w->(results fn a.tmps).run P w= .ok (if h:uh.toArray.size=1 then uh.toArray[0]else .tuple uh.toArray) w:=by
  intro uh hv;have e1:results fn a.tmps=(do let vs<-fn.results.mapM (vD a);pure (if h:vs.size=1 then vs[0]else .tuple vs)):=rfl;rw[e1,Array.mapM_eq_mapM_toList];simp[hv]
 split at h
 ·rename_i hl;cases h;obtain⟨uh,g1,g2⟩:=oe hl hw hf;have:uh=[]:=by have:=g2.len;simpa using this.symm
  subst this;exact⟨rfl,_,e g1,by simpa using VR.undef⟩
 ·rename_i u hl;cases h;obtain⟨uh,g1,g2⟩:=oe hl hw hf;obtain⟨u',t',rfl,g3,g4⟩:=g2.inv;have:t'=[]:=by have:=g4.len;simpa using this.symm
  subst this;exact⟨rfl,_,e g1,by simpa using g3⟩
 ·rename_i l h0 h1 hl;cases h;obtain⟨uh,g1,g2⟩:=oe hl hw hf;refine⟨rfl,_,e g1, ?_⟩
  have hlen:uh.toArray.size≠1:=by
   intro hh;have:=g2.len;simp only[ahK]at hh;rw[hh]at this;obtain⟨x,rfl⟩:=List.length_eq_one_iff.1 this;exact h1 x rfl
  rw[dif_neg hlen];exact VR.tuple _ _ (by exact g2.len) (by exact g2.ji)
 ·cases h
theorem pA (hc:fL P call)(ED:nz P dr){lv:Nat->Nat->Option (List Nat)}{fuel f:Nat}{args:List CV}(h:wA P dr lv fuel call f args st= .ok v st'):eV P f=true/\wN P f args st v st':=by
 unfold wA at h;rw[aO]at h
 split at h
 ·rename_i EJ;refine⟨EJ, ?_⟩
  split at h
  ·rename_i fn hfn
   split at h
   ·rename_i c hb;intro ρ w args' hw ha;refine calls_of_wp hfn hb ?_;have so:=HT (n:=fn.ntmps) (lv:=lv f) (fuel:=fuel) hc ED c (lQ args) st ρ {tmps:=args'++Array.replicate (fn.ntmps-args'.size) undef,defers:=[]} w;generalize iB P call dr (lv f) fuel fn.ntmps c (lQ args) st=r at h so;have so:=so (by intro e;subst e;cases h) hw (zV ha _) (by simp;omega) rfl;cases r with
    |norm iK eY=>
     refine wp_mono so ?_;rintro e a1 w1 ⟨rfl,ρ1,hp⟩;obtain⟨rfl,v',g1,g2⟩:=rL h hp.after.wr hp.fr;exact⟨hp.defers,v',g1,v',ρ1,rfl,g2,hp.after⟩
    |ret iK eY=>
     refine wp_mono so ?_;rintro e a1 w1 ⟨rfl,ρ1,hp⟩;obtain⟨rfl,v',g1,g2⟩:=rL h hp.after.wr hp.fr;exact⟨hp.defers,v',g1,v',ρ1,rfl,g2,hp.after⟩
    |exit id iK eY=>cases h
    |bad=>cases h
   ·cases h
  ·cases h
 ·cases h
end
abbrev tc:=Nat->List CV->St->Option OR
def ql (P:Program)(I:tc):Prop:=∀f args st v st',I f args st=some (.ok v st')->pM P f args st v st'
def vB (P:Program)(dr:qN)(lv:Nat->Nat->Option (List Nat))(I:tc):Nat->dY
 |0=>fun _ _ _=> .bad
 |n+1=>fun f args st=>match I f args st with|some r=>r|none=>wA P dr lv n (vB P dr lv I n) f args st
theorem zn {P:Program}{dr:qN}{lv:Nat->Nat->Option (List Nat)}{I:tc}(ED:nz P dr)(hI:ql P I):∀fuel,fL P (vB P dr lv I fuel):=by
 intro fuel
 induction fuel with
 |zero=>intro f args st v st' h;cases h
 |succ fuel ih=>
  intro f args st v st' h;simp only[vB]at h
  split at h
  ·rename_i r hr;exact hI f args st v st' (by rw[hr,h])
  ·exact .inl (pA ih ED h)
abbrev Pt (p q:Nat):Bool:=Nat.beq p q
theorem yB {p q:Nat}:Pt p q=true↔p=q:=by rw[agA]
def p5 (x:Option df):List df:=match x with|some x=>[x]|none=>[]
def ue.args:ue->List df
 | .Iv x| .nil x| .un _ x| .conv _ x| .zk _ x| .iface _ x| .fieldAddr _ x| .field _ _ _ x| .extract x _| .len _ x| .clear _ x| .box _ x| .xQ x| .r7 _ x=>[x]
 | .pick c a b=>[c,a,b]
 | .new _ _=>[]
 | .build _ ps=>ps.map (·.2.2)
 | .buildSlice _ _ _ ps=>ps.map (·.2.2)
 | .store _ a x| .bin _ _ _ a x| .ov _ _ a x| .si _ a x| .ot a x| .ox _ _ _ a x| .lookup _ _ _ a x| .mapEntry _ _ a x| .append _ _ _ _ _ a x| .copy _ _ a x| .mM _ a x| .delete _ a x=>[a,x]
 | .func _ f c=>f++c
 | .mkMap r=>p5 r
 | .mkSlice _ _ _ l c=>[l,c]
 | .jB x lo hi| .lr _ x lo hi| .jC _ _ x lo hi=>x::(p5 lo++p5 hi)
 | .slice3 _ x lo hi mx=>x::hi::mx::p5 lo
 | .mapUpdate _ m k x| .entryStore m k x=>[m,k,x]
 | .call _ args=>args
 | .u5 f args=>f::args
theorem nt {fr fr':Fr}:∀{l:List df},(∀x∈l,ev fr x=ev fr' x)->A7 fr l=A7 fr' l:=by
 intro l
 induction l with
 |nil=>intro _;rfl
 |cons x l ih=>
  intro h;show ev fr x::A7 fr l=ev fr' x::A7 fr' l;rw[h x (by simp),ih fun y hy=>h y (by simp[hy])]
theorem uU {fr fr':Fr}:∀{l:List nV},(∀x∈l.map (·.2.2),ev fr x=ev fr' x)->Ck fr l=Ck fr' l:=by
 intro l
 induction l with
 |nil=>intro _;rfl
 |cons p l ih=>
  intro h;show(p.1,p.2.1,ev fr p.2.2)::Ck fr l=(p.1,p.2.1,ev fr' p.2.2)::Ck fr' l;rw[h p.2.2 (by simp),ih fun y hy=>h y (by simp at hy⊢;exact .inr hy)]
theorem ns {fr fr':Fr}{x:Option df}(h:∀y∈p5 x,ev fr y=ev fr' y):EZ fr x=EZ fr' x:=by
 cases x with
 |none=>rfl
 |some x=>show some (ev fr x)=some (ev fr' x);rw[h x (by simp[p5])]
theorem xr {call:dY}{op:ue}{fr fr':Fr}{st:St}(h:∀x∈op.args,ev fr x=ev fr' x):bV call op fr st=bV call op fr' st:=by
 cases op<;>simp only[ue.args,age,agz,agX,aic,forall_eq_or_imp,forall_eq]at h<;>simp only[bV]
 all_goals first
  |rfl
  |rw[h]
  |rw[h.1,h.2]
  |rw[h.1,h.2.1,h.2.2]
  |rw[nt h]
  |rw[uU h]
  |rw[ns h]
  |rw[h.1,nt h.2]
  |rw[nt fun x hx=>h x (.inl hx),nt fun x hx=>h x (.inr hx)]
  |rw[h.1,ns fun x hx=>h.2 x (.inl hx),ns fun x hx=>h.2 x (.inr hx)]
  |rw[h.1,h.2.1,h.2.2.1,ns h.2.2.2]
def ue.still:ue->Bool
 | .Iv _| .pick .. | .xQ _| .r7 .. | .nil _| .un .. | .zk .. | .iface .. | .func .. | .jB .. | .lr .. | .slice3 .. | .jC .. | .fieldAddr .. | .field .. =>true
 | .ov .. | .si .. | .ot .. | .ox .. | .lookup .. | .extract .. | .len .. | .mM .. | .bin .. | .build .. =>true
 | .conv c _=>(match c with| .bytesOf _=>false|_=>true)
 |_=>false
structure Still (st:St)(r:OR):Prop where
 eq:∀v st',r= .ok v st'->st'=st
section
variable {st:St}
theorem Still.bad:Still st .bad:=⟨fun _ _ h=>by cases h⟩
theorem Still.ok (v:CV):Still st (.ok v st):=⟨fun _ _ h=>by cases h;rfl⟩
theorem Still.bk {b:Bool}{x y:OR}(hx:Still st x)(hy:Still st y):Still st (bk b x y):=by cases b;exact hy;exact hx
theorem Still.opt {α:Type}{x:Option α}{n:OR}{f:α->OR}(hn:Still st n)(h:∀v,Still st (f v)):Still st (Option.rec (motive:=fun _=>OR) n f x):=by cases x;exact hn;exact h _
end
theorem Still.Kl {st:St}{op:BinOp}{k:IntKind}{a b:Int}:Still st (iU op k a b st):=by
 cases op<;>simp only[iU]<;>first|exact Still.ok _|exact Still.bad|(split<;>first|exact Still.ok _|exact Still.bad)
theorem Still.int {st:St}{op:BinOp}{k j:IntKind}{a b:Int}:Still st (ib op k a j b st):=by
 cases op<;>simp only[ib]<;>split<;>first|exact Still.ok _|exact Still.bad|exact Still.Kl
theorem Still.str {st:St}{op:BinOp}{a b:List UInt8}:Still st (mE op a b st):=by
 cases op<;>simp only[mE]<;>first|exact Still.ok _|exact Still.bad|(split<;>first|exact Still.ok _|exact Still.bad)
theorem Still.bin {st:St}{op:BinOp}{d:Option gH}{tk:Bool}{x y:CV}:Still st (ai op d tk x y st):=by
 unfold ai
 split<;>first
  |exact Still.int
  |exact Still.str
  |exact Still.bad
  |(unfold oZ;split<;>first|exact Still.bad|exact Still.bk Still.bad (Still.ok _))
  |(split
    ·unfold Mc;split<;>first|exact Still.ok _|exact Still.bad
    ·exact Still.bad)
theorem mB {call:dY}{op:ue}{fr:Fr}{st:St}(h:op.still=true):Still st (bV call op fr st):=by
 cases op with
 |Iv x=>exact Still.ok _
 |pick c a b=>simp only[bV];unfold aK;split<;>first|exact Still.bk (Still.ok _) (Still.ok _)|exact Still.bad
 |xQ x=>simp only[bV];unfold aw;split<;>first|(split<;>first|exact Still.opt Still.bad (fun _=>Still.ok _)|exact Still.bad)|exact Still.bad
 |r7 n x=>simp only[bV];unfold aP;split<;>first|(split<;>first|exact Still.opt Still.bad (fun _=>Still.ok _)|exact Still.bad)|exact Still.bad
 |nil x=>simp only[bV];unfold cz;split<;>first|exact Still.ok _|exact Still.bad
 |bin op d tk x y=>exact Still.bin
 |un op x=>simp only[bV];unfold fA;split<;>first|exact Still.ok _|exact Still.bad|(split<;>first|exact Still.ok _|exact Still.bad)
 |conv c x=>simp only[bV];unfold bQ;split<;>first|exact Still.ok _|exact Still.bad|(cases h;done)|(split<;>first|exact Still.bad|(split<;>first|exact Still.ok _|exact Still.bad))
 |zk n x=>simp only[bV];unfold mF;split<;>first|exact Still.bk (Still.ok _) Still.bad|exact Still.bad
 |iface t x=>exact Still.ok _
 |func fn f c=>exact Still.ok _
 |jB x lo hi=>simp only[bV];unfold fK;split<;>first|exact Still.bad|(split<;>first|exact Still.ok _|exact Still.bad)
 |lr size x lo hi=>
  simp only[bV];unfold cc;split
  ·split<;>first|exact Still.ok _|exact Still.bad
  ·refine Still.bk ?_ Still.bad
   split
   ·exact Still.bk (Still.ok _) (Still.bk (Still.ok _) Still.bad)
   ·exact Still.bad
  ·exact Still.bad
 |slice3 size x lo hi mx=>
  simp only[bV];unfold oU;split
  ·split
   ·split
    ·exact Still.bk (Still.bk (Still.ok _) (Still.ok _)) Still.bad
    ·exact Still.bad
   ·exact Still.bad
  ·split
   ·split<;>first|exact Still.ok _|exact Still.bad
   ·exact Still.bad
  ·exact Still.bad
 |jC n size x lo hi=>simp only[bV];unfold bM;split<;>first|exact Still.bad|(split<;>first|exact Still.bad|exact Still.bk (Still.ok _) (Still.ok _))
 |fieldAddr off x=>simp only[bV];unfold al;split<;>first|exact Still.ok _|exact Still.bad
 |field agg off size x=>simp only[bV];unfold rU;split<;>first|exact Still.opt Still.bad (fun _=>Still.ok _)|exact Still.bad
 |ov n size x i=>simp only[bV];unfold cQ;split<;>first|exact Still.bk (Still.ok _) Still.bad|exact Still.bad
 |si size x i=>simp only[bV];unfold cm;split<;>first|exact Still.bk (Still.ok _) Still.bad|exact Still.bad
 |ot x i=>simp only[bV];unfold jv;split<;>first|exact Still.bad|(split<;>first|exact Still.ok _|exact Still.bad)
 |ox n size agg x i=>simp only[bV];unfold oW;split<;>first|exact Still.bk (Still.opt Still.bad (fun _=>Still.ok _)) Still.bad|exact Still.bad
 |lookup d z ok x k=>
  simp only[bV];unfold fO;refine Still.bk ?_ Still.bad
  split
  ·unfold oV;split<;>first|exact Still.bad|(split<;>exact Still.bk (Still.ok _) (Still.ok _))
  ·split
   ·split<;>first|exact Still.bad|exact Still.bk (Still.ok _) (Still.ok _)
   ·exact Still.bad
 |extract x i=>simp only[bV];unfold aB;split<;>first|exact Still.opt Still.bad (fun _=>Still.ok _)|exact Still.bad
 |len k x=>simp only[bV];unfold bO;split<;>first|exact Still.ok _|exact Still.bad|exact Still.bk (Still.ok _) (Still.ok _)|(split<;>first|exact Still.ok _|exact Still.bad)
 |mM mx x y=>simp only[bV];unfold GG;split<;>first|exact Still.bk (Still.ok _) Still.bad|exact Still.bad
 |build z parts=>simp only[bV];unfold bf;exact Still.opt Still.bad (fun _=>Still.ok _)
 |_=>cases h
def jI (P:Program)(o:Oper):Option (TypeId×List CV):=
 match o.op with
 | .alloc t=>(match P.info? t with|some i=>(match rq i with|some z=>some (t,z)|none=>none)|none=>none)
 |_=>none
def hU (P:Program)(o:Oper):Option (Nat×Nat×List CV×List nV):=
 match o.op with
 | .buildSlice t len parts=>(match P.underlying t with
   |some (.slice e)=>(match P.info? e with
    |some i=>bk (Nat.ble (Nat.mul len i.size) 16777216) (match rq i,mU (jf i.size) parts.toList with|some z,some ps=>some (e,len,z,ps)|_,_=>none) none
    |none=>none)
   |_=>none)
 |_=>none
def kO (P:Program)(o:Oper):Bool:=Option.rec (motive:=fun _=>Bool) false (fun _=>true) (hU P o)
def dW (b:Nat)(e len:Nat)(z:List CV)(parts:List nI)(st:St):OR:=
 Option.rec (motive:=fun _=>OR) (Option.rec .bad (fun s=> .ok (.slice b 0 len len 0) ⟨st.mem.put b (some (.cells s e false)),st.next⟩) (eZ parts z)) (fun _=> .bad) (st.mem.get b)
open Classical in
def gO (b:Nat)(z:List CV)(t:TypeId)(st:St):OR:=match st.mem.get b with|some (.cells s u _)=>if s=z/\u=t then .ok (.ptr b 0) st else .bad|_=> .bad
def eQ (P:Program)(call:dY)(ops:Array Oper)(ab:Option Nat)(o:Oper)(fr:Fr)(st:St):OR:=
 match jI P o,ab with
 |none,none=>iT P call ops o fr st
 |some tz,some b=>(match dP ops fr o with|some true=>gO b tz.2 tz.1 st|some false=> .ok .undef st|none=> .bad)
 |none,some b=>(match hU P o with
  |some x=>(match dP ops fr o with|some true=>dW b x.1 x.2.1 (cM x.2.1 x.2.2.1) (Ck fr x.2.2.2) st|some false=> .ok .undef st|none=> .bad)
  |none=> .bad)
 |_,_=> .bad
def jd (P:Program)(o:Oper):Bool:=match jI P o with|some _=>false|none=>(match hU P o with|some _=>false|none=>(match iM P o.op with|some op=>Bool.not op.still|none=>false))
theorem zM {P:Program}{o:Oper}{e len:Nat}{z:List CV}{ps:List nV}(h:hU P o=some (e,len,z,ps)):iM P o.op=some (.buildSlice e len z ps):=by
 unfold hU at h;unfold iM
 split at h
 ·rename_i t l parts ho;rw[ho];dsimp only
  split at h
  ·rename_i e' hu;rw[hu];dsimp only
   split at h
   ·rename_i i hi;rw[hi];dsimp only;rw[aO]at h⊢
    split at h
    ·rename_i hb;rw[agl hb]
     split at h
     ·rename_i z' WE hz hp;cases h;rw[hz,hp]
     ·cases h
    ·cases h
   ·cases h
  ·cases h
 ·cases h
theorem p7 {P:Program}{o:Oper}(h:jI P o≠none):hU P o=none:=by
 unfold jI at h;unfold hU
 split at h
 ·rename_i t ho;rw[ho]
 ·exact absurd rfl h
section
variable {P:Program} {ρ:Ren} {st st':St} {w:World} {v:CV} {fr:Fr} {a:Act} {call:dY}
theorem aY.rD {ρ0:Ren}{mw M M2:St}{w0:World}(h:aY ρ0 mw w0 ρ M w)(hm:∀q x,ρ q=some x->M2.mem.get q=M.mem.get q)(hn:M2.next=M.next):aY ρ0 mw w0 ρ M2 w where
 wr:=⟨fun b blk r sz h1 h2=>h.wr.ji b blk r sz (by rw[<-hm b _ h2];exact h1) h2,fun b b' k k' r s s' h1 h2 h3 h4=>h.wr.inj b b' k k' r s s' (by rw[<-hm b _ h3];exact h1) (by rw[<-hm b' _ h4];exact h2) h3 h4,fun b x hx=>by rw[hn];exact h.wr.fresh b x hx⟩
 ext:=h.ext
 Gb:=h.Gb
 next:=by rw[hn];exact h.next
 origin:=fun b blk r sz h1 h2=>h.origin b blk r sz (by rw[<-hm b _ h2];exact h1) h2
 kept:=h.kept
 size:=h.size
 os:=h.os
 output:=h.output
theorem WR.sub {M s:St}(h:WR ρ M w)(hm:∀q x,ρ q=some x->s.mem.get q=M.mem.get q\/s.mem.get q=none)(hn:s.next=M.next):WR ρ s w:=by
 have key:∀b blk x,s.mem.get b=some blk->ρ b=some x->M.mem.get b=some blk:=fun b blk x h1 h2=>by
  rcases hm b x h2 with e|e
  ·rw[<-e];exact h1
  ·rw[e]at h1;cases h1
 exact⟨fun b blk r sz h1 h2=>h.ji b blk r sz (key b blk _ h1 h2) h2,fun b b' k k' r z z' h1 h2 h3 h4=>h.inj b b' k k' r z z' (key b k _ h1 h3) (key b' k' _ h2 h4) h3 h4,fun b x hx=>by rw[hn];exact h.fresh b x hx⟩
theorem aY.frame {M M' s s':St}{ρ':Ren}{w':World}(h:WR ρ M w)(hn:s.next=M.next)(hm:∀q x,ρ q=some x->s.mem.get q=M.mem.get q\/s.mem.get q=none)(hA:aY ρ s w ρ' s' w')(Ud:M'.next=s'.next)
 (hm':∀q x,ρ' q=some x->M'.mem.get q=s'.mem.get q\/((∃y,ρ q=some y)/\s.mem.get q=none/\M'.mem.get q=M.mem.get q)):aY ρ M w ρ' M' w':=by
 have low:∀q blk r sz,M.mem.get q=some blk->ρ q=some (r,sz)->r<w.heap.size:=fun q blk r sz h1 h2=>by
  obtain⟨o,e2,_⟩:=h.ji q blk r sz h1 h2;exact(agG.1 e2).1
 have up:∀q blk x,s.mem.get q=some blk->ρ q=some x->M.mem.get q=some blk:=fun q blk x h1 h2=>by
  rcases hm q x h2 with e|e
  ·rw[<-e];exact h1
  ·rw[e]at h1;cases h1
 have WO:∀b blk r sz,s'.mem.get b=some blk->ρ' b=some (r,sz)->∀q dz C7,s.mem.get q=none->M.mem.get q=some dz->ρ q=some (r,C7)->False:=by
  intro b blk r sz h1 h2 q dz C7 h3 h4 h5;rcases hA.origin b blk r sz h1 h2 with⟨b0,gw,vj,g1,g2⟩|g
  ·have:=h.inj b0 q gw dz r vj C7 (up b0 gw _ g1 g2) h4 g2 h5;subst this;rw[h3]at g1;cases g1
  ·have:=low q dz r C7 h4 h5;omega
 have Mq:∀b blk r sz,M'.mem.get b=some blk->ρ' b=some (r,sz)->(∃b0 gw vj,M.mem.get b0=some gw/\ρ b0=some (r,vj))\/w.heap.size<=r:=fun b blk r sz h1 h2=>by
  rcases hm' b _ h2 with e|⟨⟨y,e2⟩,e3,e4⟩
  ·rcases hA.origin b blk r sz (by rw[<-e];exact h1) h2 with⟨b0,gw,vj,g1,g2⟩|g
   ·exact .inl ⟨b0,gw,vj,up b0 gw _ g1 g2,g2⟩
   ·exact .inr g
  ·have:=hA.ext b y e2;rw[h2]at this;cases this;exact .inl ⟨b,blk,sz,by rw[<-e4];exact h1,e2⟩
 have CF:∀r:Nat,r<w.heap.size->(∀b blk sz,M.mem.get b=some blk->ρ b≠some (r,sz))->w'.heap[r]?=w.heap[r]?:=fun r hr hk=>hA.kept r hr fun b blk sz g1 g2=>hk b blk sz (up b blk _ g1 g2) g2;refine⟨⟨fun b blk r sz h1 h2=> ?_,fun b b' k k' r z z' h1 h2 h3 h4=> ?_,fun b x hx=>by rw[Ud];exact hA.wr.fresh b x hx⟩,hA.ext,fun q hq hr=>hA.Gb q (by rw[hn];exact hq) hr,by rw[Ud,<-hn];exact hA.next,fun b blk r sz h1 h2=> ?_,fun r hr hk=>hA.kept r hr fun b blk sz g1 g2=>hk b blk sz (up b blk _ g1 g2) g2,hA.size,hA.os,hA.output⟩
 ·rcases hm' b _ h2 with e|⟨⟨y,e2⟩,e3,e4⟩
  ·exact hA.wr.ji b blk r sz (by rw[<-e];exact h1) h2
  ·have:=hA.ext b y e2;rw[h2]at this;cases this;rw[e4]at h1;obtain⟨o,g1,g2⟩:=h.ji b blk r sz h1 e2;refine⟨o, ?_,g2.mono hA.ext⟩;rw[hA.kept r (low b blk r sz h1 e2)]
   ·exact g1
   ·intro b' dz C7 g3 g4;have:=h.inj b' b dz blk r C7 sz (up b' dz _ g3 g4) h1 g4 e2;subst this;rw[e3]at g3;cases g3
 ·rcases hm' b _ h3 with e|⟨⟨y,e2⟩,e3,e4⟩
  ·rcases hm' b' _ h4 with f|⟨⟨y',f2⟩,f3,f4⟩
   ·exact hA.wr.inj b b' k k' r z z' (by rw[<-e];exact h1) (by rw[<-f];exact h2) h3 h4
   ·have:=hA.ext b' y' f2;rw[h4]at this;cases this;exact absurd (WO b k r z (by rw[<-e];exact h1) h3 b' k' z' f3 (by rw[<-f4];exact h2) f2) id
  ·have:=hA.ext b y e2;rw[h3]at this;cases this;rcases hm' b' _ h4 with f|⟨⟨y',f2⟩,f3,f4⟩
   ·exact absurd (WO b' k' r z' (by rw[<-f];exact h2) h4 b k z e3 (by rw[<-e4];exact h1) e2) id
   ·have:=hA.ext b' y' f2;rw[h4]at this;cases this;exact h.inj b b' k k' r z z' (by rw[<-e4];exact h1) (by rw[<-f4];exact h2) e2 f2
 ·rcases hm' b _ h2 with e|⟨⟨y,e2⟩,e3,e4⟩
  ·rcases hA.origin b blk r sz (by rw[<-e];exact h1) h2 with⟨b0,gw,vj,g1,g2⟩|g
   ·exact .inl ⟨b0,gw,vj,up b0 gw _ g1 g2,g2⟩
   ·exact .inr g
  ·have:=hA.ext b y e2;rw[h2]at this;cases this;exact .inl ⟨b,blk,sz,by rw[<-e4];exact h1,e2⟩
theorem aY.Cn {ρ0:Ren}{mw M:St}{w0:World}{b:Nat}{s:List CV}{t:TypeId}{g:Bool}{l:List Value}(hA:aY ρ0 mw w0 ρ M w)(hm:M.mem.get b=some (.cells s t g))(hb:ρ b=none)(hlt:b<M.next)(hl:cL ρ s l)(hN:mw.next<=b):
 aY ρ0 mw w0 (ρ.set b (w.heap.size,l.length)) M {w with heap:=w.heap.push (.cells l.toArray t)}:=by
 have hw:=hA.wr
 have hle:ρ.le (ρ.set b (w.heap.size,l.length)):=fun q x hx=>by
  rw[Ren.bX _ _ _ _ (fun e=>by subst e;rw[hb]at hx;cases hx)];exact hx
 have hlow:∀q blk r s,M.mem.get q=some blk->ρ q=some (r,s)->r<w.heap.size:=fun q blk r s h1 h2=>by
  obtain⟨o,e2,_⟩:=hw.ji q blk r s h1 h2;exact(agG.1 e2).1
 have te:WR (ρ.set b (w.heap.size,l.length)) M {w with heap:=w.heap.push (.cells l.toArray t)}:=by
  refine⟨fun q blk r sz h1 h2=> ?_,fun q q' blk dz r sz C7 h1 h2 h3 h4=> ?_,fun q x hx=> ?_⟩
  ·by_cases e:q=b
   ·subst e;rw[Ren.cE]at h2;cases h2;rw[hm]at h1;cases h1;have hlen:s.length=l.length:=by rw[hl.len]
    refine⟨.cells l.toArray t,by simp, ?_⟩;have F9:=BR.cells (ρ:=ρ.set q (w.heap.size,l.length)) s t g l.toArray 0 0 (by simp[hlen]) (by rw[hlen];simpa using hl.mono hle) (by omega) (by intros;omega)
    simpa using F9
   ·rw[Ren.bX _ _ _ _ e]at h2;obtain⟨o,e2,e3⟩:=hw.ji q blk r sz h1 h2;refine⟨o, ?_,e3.mono hle⟩;have:=(agG.1 e2).1;show(w.heap.push _)[r]?=_;rw[Array.getElem?_push,agf (by omega)];exact e2
  ·by_cases e:q=b
   ·by_cases e':q'=b
    ·rw[e,e']
    ·rw[e,Ren.cE]at h3;cases h3;rw[Ren.bX _ _ _ _ e']at h4;have:=hlow q' dz _ _ h2 h4;omega
   ·by_cases e':q'=b
    ·rw[e',Ren.cE]at h4;cases h4;rw[Ren.bX _ _ _ _ e]at h3;have:=hlow q blk _ _ h1 h3;omega
    ·rw[Ren.bX _ _ _ _ e]at h3;rw[Ren.bX _ _ _ _ e']at h4;exact hw.inj q q' blk dz r sz C7 h1 h2 h3 h4
  ·by_cases e:q=b
   ·subst e;exact hlt
   ·rw[Ren.bX _ _ _ _ e]at hx;exact hw.fresh q x hx
 refine⟨te,fun q x hx=>hle q x (hA.ext q x hx),fun q hq hn=> ?_,hA.next,fun q blk r sz h1 h2=> ?_,fun r hr hn=> ?_, ?_,hA.os,hA.output⟩
 ·rw[Ren.bX _ _ _ _ (fun e=>by subst e;omega)];exact hA.Gb q hq hn
 ·by_cases e:q=b
  ·subst e;rw[Ren.cE]at h2;cases h2;exact .inr hA.size
  ·rw[Ren.bX _ _ _ _ e]at h2;exact hA.origin q blk r sz h1 h2
 ·show(w.heap.push _)[r]?=_;have:=hA.size;rw[Array.getElem?_push,agf (by omega)];exact hA.kept r hr hn
 ·show w0.heap.size<=(w.heap.push _).size;have:=hA.size;rw[Array.size_push];omega
theorem BJ {o:Oper}{t:TypeId}{z:List CV}(h:jI P o=some (t,z)):∃l:List Value,(∀ρ,cL ρ z l)/\
 ∀(f:Operand->Value) (w:World),(execOp f o).run P w= .ok (.value (.pointer (some ⟨w.heap.size,0,none⟩))) {w with heap:=w.heap.push (.cells l.toArray t)}:=by
 unfold jI at h
 split at h
 ·rename_i t' ho
  split at h
  ·rename_i i hi
   split at h
   ·rename_i z' hz;cases h;obtain⟨zv,z1,z2,z3⟩:=gp hz;refine⟨zv.cells.toList,z3,fun f w=> ?_⟩;unfold execOp;rw[ho];simp[Instr.alloc,zeroValue,typeInfo,hi,z1,newVar]
    rfl
   ·cases h
  ·cases h
 ·cases h
theorem Cj {i:TypeInfo}{len:Nat}{z s:List CV}{z':Value}{parts:List nI}{parts':Array (Nat×Value)}(hf:eZ parts (cM len z)=some s)(hsz:z'.cells.size=i.size)(rk:∀ρ,cL ρ z z'.cells.toList)(hp:lU ρ (jf i.size) parts parts'.toList):
 ∃gU,Instr.fill (jf i.size) ((Array.range (len*i.size)).map (z'.cells[·%z'.cells.size]!)) parts'.toList=some gU/\cL ρ s gU.toList:=by
 have hrow:(List.replicate len z'.cells.toList).flatten=((Array.range (len*i.size)).map (z'.cells[·%z'.cells.size]!)).toList:=by
  rw[<-hsz,ahj,ahT];exact(kI z'.cells len).symm
 have Te:cL ρ (cM len z) ((Array.range (len*i.size)).map (z'.cells[·%z'.cells.size]!)).toList:=by
  rw[<-hrow];exact(rk ρ).flatten len
 exact lR hp hf Te
theorem D8 {o:Oper}{e len:Nat}{z s:List CV}{ps:List nV}(h:hU P o=some (e,len,z,ps))(hf:FR ρ fr a.tmps)(hs:eZ (Ck fr ps) (cM len z)=some s):
 ∃l:List Value,cL ρ s l/\∀w,(execOp a.eval o).run P w= .ok (.value (.slice (some ⟨w.heap.size,0,none⟩) len len)) {w with heap:=w.heap.push (.cells l.toArray e)}:=by
 unfold hU at h
 split at h
 ·rename_i t l parts ho
  split at h
  ·rename_i e' hu
   split at h
   ·rename_i i hi;simp only[aO,agw]at h
    split at h
    ·rename_i hle
     split at h
     ·rename_i z' WE hz hp;cases h;obtain⟨zv,z1,z2,z3⟩:=gp hz;have Hu:=jy hp hf;obtain⟨gU,f1,f2⟩:=Cj (parts':=parts.map fun p=>(p.1,a.eval p.2)) hs z2 z3 (by rw[ahj];exact Hu);refine⟨gU.toList,f2,fun w=> ?_⟩;have hn:¬(len*i.size>2^24):=by have KK:len*i.size<=16777216:=hle;show¬(len*i.size>16777216);omega
      have h1:∀c:Array Value,(newRow e c).run P w= .ok ⟨w.heap.size,0,none⟩ {w with heap:=w.heap.push (.cells c e)}:=fun c=>rfl
      have he:execOp a.eval o=(do let v<-Instr.buildSlice t len (parts.map fun p=>(p.1,a.eval p.2));pure (.value v)):=by
       unfold execOp;rw[ho]
      have CB:(fun k=>some (k*i.size,i.size))=jf i.size:=rfl;rw[he,ahi];simp only[Instr.buildSlice,Sem.run_bind,agd hu,Result.andThen_ok,Go.sizeOf,typeInfo,run_program,hi,Sem.run_pure,agf hn]
      by_cases h0:len*i.size=0
      ·have hz0:((Array.range (len*i.size)).map (zv.cells[·%zv.cells.size]!))=((Array.range (len*i.size)).map ((#[]:Array Value)[·%(#[]:Array Value).size]!)):=by
        rw[h0,Array.range_zero'];simp
       rw[hz0]at f1;rw[agl h0]
       show Result.andThen (Sem.run P (do
        let some cells:=Instr.fill (jf i.size) ((Array.range (len*i.size)).map ((#[]:Array Value)[·%(#[]:Array Value).size]!)) (parts.map fun p=>(p.1,a.eval p.2)).toList|stuck "buildSlice: a part of the wrong size"
        pure (Value.slice (some (<-newRow e cells)) len len)) w) _=_
       rw[f1];simp only[Sem.run_bind,h1,Result.andThen_ok,Sem.run_pure]
      ·rw[agf h0];simp only[zeroValue,typeInfo,Sem.run_bind,run_program,Result.andThen_ok,hi,z1,Sem.run_pure];rw[CB,f1];simp only[Sem.run_bind,h1,Result.andThen_ok,Sem.run_pure]
     ·cases h
    ·cases h
   ·cases h
  ·cases h
 ·cases h
theorem tC {ops:Array Oper}{b:Nat}{o:Oper}{tz:TypeId×List CV}(T6:jI P o=some tz){M:St}(h:eQ P call ops (some b) o fr st= .ok v st')(hm:M.mem.get b=st.mem.get b){ρ0:Ren}{mw:St}{w0:World}(hA:aY ρ0 mw w0 ρ M w)(hf:FR ρ fr a.tmps)(hb:ρ b=none)(hlt:b<M.next)(hN:mw.next<=b)
 {next:Act->World->Prop} {Q:Exit->Act->World->Prop} (hn:∀v' w' ρ',VR ρ' v v'->aY ρ0 mw w0 ρ' M w'->ρ.le ρ'->(∀q,q≠b->ρ' q=ρ q)->next (a.put o.dst v') w'):
 if Region.wanted o (yielded ops a.tmps)then o.wp P a w next Q else next (a.put o.dst undef) w:=by
 obtain⟨t,z⟩:=tz;unfold eQ at h;rw[T6]at h;dsimp only at h
 split at h
 ·rename_i tT;rw[agl (fJ tT hf)];unfold gO at h
  split at h
  ·rename_i s u g oI
   split at h
   ·rename_i hh;obtain⟨rfl,rfl⟩:=hh;cases h;obtain⟨l,hl,ie⟩:=BJ T6;unfold Oper.wp;rw[ie];exact hn _ _ _ (.ptr b 0 _ _ (Ren.cE ρ b _)) (hA.Cn (by rw[hm];exact oI) hb hlt (hl ρ) hN) (fun q x hx=>by rw[Ren.bX _ _ _ _ (fun e=>by subst e;rw[hb]at hx;cases hx)];exact hx) (fun q hq=>Ren.bX _ _ _ _ hq)
   ·cases h
  ·cases h
 ·rename_i tT;rw[agf (by rw[fJ tT hf];simp)];cases h;exact hn _ w ρ .undef hA (fun _ _ h=>h) fun _ _=>rfl
 ·cases h
theorem oO {ops:Array Oper}{b:Nat}{o:Oper}{x:Nat×Nat×List CV×List nV}(hl:hU P o=some x)(h:eQ P call ops (some b) o fr st= .ok v st'):
 (dP ops fr o=some false/\v= .undef/\st'=st)\/
 (dP ops fr o=some true/\∃s,eZ (Ck fr x.2.2.2) (cM x.2.1 x.2.2.1)=some s/\st.mem.get b=none/\v= .slice b 0 x.2.1 x.2.1 0/\st'=⟨st.mem.put b (some (.cells s x.1 false)),st.next⟩):=by
 have hn:jI P o=none:=by
  cases hh:jI P o with
  |none=>rfl
  |some tz=>have:=p7 (P:=P) (o:=o) (by rw[hh];simp);rw[hl]at this;cases this
 unfold eQ at h;rw[hn,hl]at h;dsimp only at h
 split at h
 ·rename_i tT;unfold dW at h;cases hg:st.mem.get b with
  |some _=>rw[hg]at h;cases h
  |none=>
   rw[hg]at h;cases hf:eZ (Ck fr x.2.2.2) (cM x.2.1 x.2.2.1)with
   |none=>rw[hf]at h;cases h
   |some s=>
    rw[hf]at h;dsimp only at h;cases h;exact .inr ⟨tT,s,rfl,rfl,rfl,rfl⟩
 ·rename_i tT;cases h;exact .inl ⟨tT,rfl,rfl⟩
 ·cases h
theorem mv {ops:Array Oper}{ab:Option Nat}{o:Oper}(hn:jI P o=none)(hl:hU P o=none)(h:eQ P call ops ab o fr st= .ok v st'):ab=none/\iT P call ops o fr st= .ok v st':=by
 unfold eQ at h;rw[hn]at h;cases ab with
 |none=>exact⟨rfl,h⟩
 |some b=>dsimp only at h;rw[hl]at h;cases h
theorem tq {ops:Array Oper}{o:Oper}{fr':Fr}(h:∀g b d,o.guard=some (g,b)->(ops[g]?).bind (·.dst)=some d->dL fr (d)=dL fr' (d)):dP ops fr o=dP ops fr' o:=by
 unfold dP;cases hg:o.guard with
 |none=>rfl
 |some gb=>
  obtain⟨g,b⟩:=gb;dsimp only;cases hd:(ops[g]?).bind (·.dst)with
  |none=>rfl
  |some d=>dsimp only;rw[h g b d hg hd]
end
def zt {β:Type}(P:Program)(l:List Oper):St->(List (Option Nat)->St->β)->β:=
 List.rec (motive:=fun _=>St->(List (Option Nat)->St->β)->β) (fun st k=>k [] st)
  (fun o _ ih st k=>Option.rec (Bool.rec (motive:=fun _=>β) (ih st fun as st=>k (none::as) st) (j9 (st.next+1) fun nx=>ih ⟨st.mem,nx⟩ fun as nZ=>k (some st.next::as) nZ) (kO P o))
   (fun tz=>j9 (st.next+1) fun nx=>j9 ⟨st.mem.put st.next (some (.cells tz.2 tz.1 false)),nx⟩ fun eY=>ih eY fun as nZ=>k (some st.next::as) nZ) (jI P o)) l
structure nU (P:Program)(l:List Oper)(st:St)(as:List (Option Nat))(eY:St):Prop where
 len:as.length=l.length
 next:st.next<=eY.next
 range:∀(i:Nat) (b:Nat),as[i]?=some (some b)->st.next<=b/\b<eY.next
 uniq:∀(i j:Nat) (b:Nat),as[i]?=some (some b)->as[j]?=some (some b)->i=j
 after:∀ρ w,WR ρ st w->aY ρ st w ρ eY w
 olds:∀(i:Nat) (o:Oper),l[i]?=some o->jI P o=none->kO P o=false->as[i]?=some none
 news:∀(i:Nat) (o:Oper),l[i]?=some o->jI P o≠none\/kO P o=true->∃b,as[i]?=some (some b)
theorem aY.BA {ρ:Ren}{st:St}{w:World}(h:WR ρ st w)(blk:mc):aY ρ st w ρ (st.new blk) w:=by
 have hn:ρ st.next=none:=by
  cases hh:ρ st.next with
  |none=>rfl
  |some x=>have:=h.fresh _ x hh;omega
 have hold:∀b dz x,(st.new blk).mem.get b=some dz->ρ b=some x->st.mem.get b=some dz:=fun b dz x h1 h2=>by
  have hb:b≠st.next:=fun e=>by rw[e,hn]at h2;cases h2
  simpa[St.new,PT.dh _ _ _ _ hb]using h1
 refine⟨⟨fun b dz r sz h1 h2=>h.ji b dz r sz (hold b dz _ h1 h2) h2,fun b b' k k' r s s' h1 h2 h3 h4=>h.inj b b' k k' r s s' (hold b k _ h1 h3) (hold b' k' _ h2 h4) h3 h4,fun b x hx=> ?_⟩,fun _ _ h=>h,fun _ _ h=>h, ?_,
  fun b dz r sz h1 h2=> .inl ⟨b,dz,sz,hold b dz _ h1 h2,h2⟩,fun _ _ _=>rfl,aga _,rfl,rfl⟩
 ·show b<(st.next+1);have:=h.fresh b x hx;omega
 ·show st.next<=(st.next+1);omega
theorem aY.skip {ρ:Ren}{st:St}{w:World}(h:WR ρ st w):aY ρ st w ρ ⟨st.mem,(st.next+1)⟩ w:=
 ⟨⟨h.ji,h.inj,fun b x hx=>by show b<(st.next+1);have:=h.fresh b x hx;omega⟩,fun _ _ h=>h,fun _ _ h=>h,by show st.next<=(st.next+1);omega,
   fun b dz r sz h1 h2=> .inl ⟨b,dz,sz,h1,h2⟩,fun _ _ _=>rfl,aga _,rfl,rfl⟩
theorem nU.cons {P:Program}{l:List Oper}{st nZ:St}{as:List (Option Nat)}{o:Oper}(hg:jI P o≠none\/kO P o=true){mem:PT mc}(h1:nU P l ⟨mem,(st.next+1)⟩ as nZ)(ha:∀ρ w,WR ρ st w->aY ρ st w ρ ⟨mem,(st.next+1)⟩ w):nU P (o::l) st (some st.next::as) nZ:=by
 have hnx:((st.next+1))=st.next+1:=rfl
 have hr:∀(i:Nat) (b:Nat),as[i]?=some (some b)->st.next+1<=b/\b<nZ.next:=fun i b h=>by
  have:=h1.range i b h;have e:(St.mk mem (st.next+1)).next=st.next+1:=hnx;omega
 have hx:st.next+1<=nZ.next:=by have:=h1.next;have e:(St.mk mem (st.next+1)).next=st.next+1:=hnx;omega
 refine⟨by simp[h1.len],by omega,fun i b h=> ?_,fun i j b h h'=> ?_,fun ρ w hw=>(ha ρ w hw).trans (h1.after ρ w (ha ρ w hw).wr),fun i o' h hh hb=> ?_,fun i o' h hh=> ?_⟩
 ·cases i with
  |zero=>simp at h;subst h;omega
  |succ i=>have:=hr i b (by simpa using h);omega
 ·cases i with
  |zero=>
   cases j with
   |zero=>rfl
   |succ j=>simp at h;subst h;have:=hr j _ (by simpa using h');omega
  |succ i=>cases j with
   |zero=>simp at h';subst h';have:=hr i _ (by simpa using h);omega
   |succ j=>rw[h1.uniq i j b (by simpa using h) (by simpa using h')]
 ·cases i with
  |zero=>simp at h;subst h;rcases hg with hg|hg;exact absurd hh hg;rw[hb]at hg;cases hg
  |succ i=>exact h1.olds i o' (by simpa using h) hh hb
 ·cases i with
  |zero=>exact⟨_,rfl⟩
  |succ i=>exact h1.news i o' (by simpa using h) hh
theorem Aw {P:Program}:∀(l:List Oper) (st:St),∃as eY,nU P l st as eY/\∀(β:Type) (k:List (Option Nat)->St->β),zt P l st k=k as eY:=by
 intro l
 induction l with
 |nil=>intro st;exact⟨[],st,⟨rfl,aga _,fun i b h=>by simp at h,fun i j b h=>by simp at h,fun ρ w h=>aY.refl h,fun i o h=>by simp at h,fun i o h=>by simp at h⟩,fun β k=>rfl⟩
 |cons o l ih=>
  intro st
  have e:∀(β:Type) (k:List (Option Nat)->St->β),zt P (o::l) st k=Option.rec (Bool.rec (motive:=fun _=>β) (zt P l st fun as st=>k (none::as) st) (j9 (st.next+1) fun nx=>zt P l ⟨st.mem,nx⟩ fun as nZ=>k (some st.next::as) nZ) (kO P o))
   (fun tz=>j9 (st.next+1) fun nx=>j9 ⟨st.mem.put st.next (some (.cells tz.2 tz.1 false)),nx⟩ fun eY=>zt P l eY fun as nZ=>k (some st.next::as) nZ) (jI P o):=fun β k=>rfl
  cases hn:jI P o with
  |none=>
   cases hb:kO P o with
   |false=>
    obtain⟨as,eY,h1,h2⟩:=ih st;refine⟨none::as,eY,⟨by simp[h1.len],h1.next,fun i b h=> ?_,fun i j b h h'=> ?_,h1.after,fun i o h hh Jb=>by cases i with|zero=>rfl|succ i=>exact h1.olds i o (by simpa using h) hh Jb,fun i o h hh=>by cases i with|zero=>(simp at h;subst h;rcases hh with hh|hh;exact absurd hn hh;rw[hb]at hh;cases hh)|succ i=>exact h1.news i o (by simpa using h) hh⟩,fun β k=>by rw[e,hn,hb];exact h2 _ _⟩
    ·cases i with
     |zero=>simp at h
     |succ i=>exact h1.range i b (by simpa using h)
    ·cases i with
     |zero=>simp at h
     |succ i=>cases j with
      |zero=>simp at h'
      |succ j=>rw[h1.uniq i j b (by simpa using h) (by simpa using h')]
   |true=>
    obtain⟨as,nZ,h1,h2⟩:=ih ⟨st.mem,(st.next+1)⟩;exact⟨some st.next::as,nZ,h1.cons (.inr hb) fun ρ w hw=>aY.skip hw,fun β k=>by rw[e,hn,hb];show j9 (st.next+1) _=_;rw[dj];exact h2 _ _⟩
  |some tz=>
   obtain⟨as,nZ,h1,h2⟩:=ih (st.new (.cells tz.2 tz.1 false))
   exact⟨some st.next::as,nZ,nU.cons (mem:=st.mem.put st.next (some (.cells tz.2 tz.1 false))) (.inl (by rw[hn];simp)) h1 fun ρ w hw=>aY.BA hw (.cells tz.2 tz.1 false),fun β k=>by
    rw[e,hn];show j9 (st.next+1) _=_;rw[dj];rw[dj];exact h2 _ _⟩
def wJ {α:Type}(l:List α)(p:α->Bool):Bool:=List.rec false (fun x _ r=>Bool.or (p x) r) l
def uc {α:Type}(l:List α)(p:α->Bool):Bool:=List.rec true (fun x _ r=>Bool.and (p x) r) l
theorem sU {α:Type}{l:List α}{p:α->Bool}:wJ l p=true↔∃x∈l,p x=true:=by
 induction l with
 |nil=>simp[wJ]
 |cons x l ih=>
  have e:wJ (x::l) p=Bool.or (p x) (wJ l p):=rfl;rw[e];simp only[agU,ih,age,exists_eq_or_imp]
theorem jQ {α:Type}{l:List α}{p:α->Bool}:uc l p=true↔∀x∈l,p x=true:=by
 induction l with
 |nil=>simp[uc]
 |cons x l ih=>
  have e:uc (x::l) p=Bool.and (p x) (uc l p):=rfl;rw[e];simp only[agp,ih,age,forall_eq_or_imp]
def BV {α:Type}(l:List α):Nat->List (Nat×α):=List.rec (motive:=fun _=>Nat->List (Nat×α)) (fun _=>[]) (fun x _ ih i=>(i,x)::ih (Nat.succ i)) l
theorem pn {α:Type}:∀{l:List α} {i:Nat} {k:Nat} {x:α},l[k]?=some x->(i+k,x)∈BV l i:=by
 intro l
 induction l with
 |nil=>intro i k x h;simp at h
 |cons y l ih=>
  intro i k x h;have e:BV (y::l) i=(i,y)::BV l (i+1):=rfl;rw[e];cases k with
  |zero=>simp at h;subst h;simp
  |succ k=>
   simp at h;have:=ih (i:=i+1) h;rw[show i+(k+1)=i+1+k by omega];exact agO _ this
def lM (P:Program)(ops:Array Oper)(o:Oper):List df:=
 (match iM P o.op with|some op=>op.args|none=>[])++
 (match o.guard with|some (g,_)=>(match (ops[g]?).bind (·.dst)with|some d=>[df.tmp (d)]|none=>[])|none=>[])
def dO (ops:Array Oper)(f:Nat):Nat->Nat->Bool:=
 Nat.rec (motive:=fun _=>Nat->Nat->Bool) (fun _ _=>false) (fun _ ih i j=>match ops[i]? with
  |none=>false
  |some o=>wJ o.after.toList fun e=>Bool.and (Region.binds .any e) (j9 e.on fun k=>Bool.or (Nat.beq k j) (ih k j))) f
section
variable {P:Program} {call:dY} {ops:Array Oper}
theorem xd {o:Oper}{fr fr':Fr}{st:St}(h:∀x∈lM P ops o,ev fr x=ev fr' x):iT P call ops o fr st=iT P call ops o fr' st:=by
 have hw:dP ops fr o=dP ops fr' o:=by
  unfold dP;unfold lM at h;cases hg:o.guard with
  |none=>rfl
  |some gb=>
   obtain⟨g,b⟩:=gb;dsimp only;rw[hg]at h;dsimp only at h;cases hd:(ops[g]?).bind (·.dst)with
   |none=>rfl
   |some d=>
    rw[hd]at h;have h1:dL fr (d)=dL fr' (d):=h (.tmp (d)) (by simp);dsimp only;rw[h1]
 unfold iT;rw[hw]
 split
 ·cases ho:iM P o.op with
  |none=>rfl
  |some op=>
   dsimp only;refine xr fun x hx=>h x ?_;unfold lM;rw[ho];simp[hx]
 ·rfl
 ·rfl
theorem jW {ab:Option Nat}{o:Oper}{fr fr':Fr}{st:St}(h:∀x∈lM P ops o,ev fr x=ev fr' x):eQ P call ops ab o fr st=eQ P call ops ab o fr' st:=by
 have hw:=tq fun g b d hg hd=>
  h (.tmp (d)) (by unfold lM;rw[hg];dsimp only;rw[hd];simp)
 unfold eQ;rw[xd h,hw];cases jI P o with
 |some tz=>cases ab<;>rfl
 |none=>
  cases ab with
  |none=>rfl
  |some b=>
   dsimp only;cases hl:hU P o with
   |none=>rfl
   |some x=>
    obtain⟨e,len,z,ps⟩:=x;dsimp only;have hc:=zM hl;rw[uU (fr:=fr) (fr':=fr')];intro y hy;refine h y ?_;unfold lM;rw[hc];exact List.mem_append_left _ hy
theorem Ee {o:Oper}(h:kO P o=false):hU P o=none:=by
 unfold kO at h;cases hl:hU P o with
 |none=>rfl
 |some x=>rw[hl]at h;cases h
theorem sf {o:Oper}(h:kO P o=true):∃x,hU P o=some x:=by
 unfold kO at h;cases hl:hU P o with
 |none=>rw[hl]at h;cases h
 |some x=>exact⟨x,rfl⟩
theorem Hn {o:Oper}(h:kO P o=true):jI P o=none:=by
 obtain⟨x,hx⟩:=sf h;cases hn:jI P o with
 |none=>rfl
 |some tz=>have:=p7 (P:=P) (o:=o) (by rw[hn];simp);rw[hx]at this;cases this
theorem wg {o:Oper}(h:kO P o=true):jd P o=false:=by
 obtain⟨x,hx⟩:=sf h;unfold jd;rw[Hn h,hx]
theorem mr {ab:Option Nat}{o:Oper}{fr:Fr}{st st':St}{v:CV}(hw:jd P o=false)(hb:kO P o=false)(h:eQ P call ops ab o fr st= .ok v st'):st'=st:=by
 have hl:=Ee hb;unfold eQ at h;unfold jd at hw;rw[hl]at hw h
 split at h
 ·rename_i hn;rw[hn]at hw;dsimp only at hw;unfold iT at h
  split at h
  ·split at h
   ·rename_i op yP;rw[yP]at hw;exact(mB (by simpa using hw)).eq _ _ h
   ·cases h
  ·cases h;rfl
  ·cases h
 ·split at h
  ·unfold gO at h
   split at h
   ·split at h
    ·cases h;rfl
    ·cases h
   ·cases h
  ·cases h;rfl
  ·cases h
 ·cases h
 ·cases h
def la (aX:Array Bool)(i:Nat):Prop:=aX.getD i false=true
def Im (ops:Array Oper)(aX:Array Bool)(i:Nat):Prop:=∀o,ops[i]?=some o->∀e∈o.after,Region.binds .any e=true->la aX e.on
theorem sV {aX:Array Bool}(uS:∀i,la aX i->Im ops aX i):∀(f i j:Nat),dO ops f i j=true->Im ops aX i->la aX j:=by
 intro f
 induction f with
 |zero=>intro i j h;cases h
 |succ f ih=>
  intro i j h hd
  have e:dO ops (f+1) i j=(match ops[i]? with
   |none=>false
   |some o=>wJ o.after.toList fun e=>Bool.and (Region.binds .any e) (j9 e.on fun k=>Bool.or (Nat.beq k j) (dO ops f k j))):=rfl
  rw[e]at h
  split at h
  ·cases h
  ·rename_i o ho;rw[sU]at h;obtain⟨x,hx,h⟩:=h;simp only[dj,agp,agU,agA]at h;have hl:=hd o ho x (by simpa using hx) h.1;rcases h.2 with h2|h2
   ·rw[<-h2];exact hl
   ·exact ih _ _ h2 (uS _ hl)
end
structure TR where
 i:Nat
 ab:Option Nat
 o:Oper
 w:Bool
 c:Nat
 fr:Fr
 v:CV
 s:St
 s1:St
def xz (n:Nat)(dst:Option Tmp)(v:CV)(fr:Fr):Option Fr:=
 match dst with
 |none=>some fr
 |some d=>bk (Nat.ble (Nat.succ d) n) (j9 (fr.put (d) (some v)) some) none
theorem uz {n:Nat}{dst:Option Tmp}{v:CV}{fr fr':Fr}(h:xz n dst v fr=some fr'):(dst=none/\fr'=fr)\/∃d,dst=some d/\d<n/\fr'=fr.put (d) (some v):=by
 unfold xz at h
 split at h
 ·cases h;exact .inl ⟨rfl,rfl⟩
 ·rename_i d;simp only[aO,agw,ahY,dj]at h
  split at h
  ·rename_i hd;cases h;exact .inr ⟨d,rfl,hd,rfl⟩
  ·cases h
abbrev LQ:=List TR×List St×Fr×St
def l5 (P:Program)(call:dY)(n:Nat)(ops:Array Oper)(l:List (Oper×Option Nat)):Nat->Nat->Fr->St->Option LQ:=
 List.rec (motive:=fun _=>Nat->Nat->Fr->St->Option LQ) (fun _ _ fr st=>some ([],[],fr,st)) (fun o _ ih i c fr st=>
  OR.rec (fun v st'=>j9 v fun v=>j9 st' fun st'=>
   Option.rec none (fun fr'=>bk (jd P o.1)
    (Option.rec none (fun r=>some (⟨i,o.2,o.1,true,c,fr,v,st,st'⟩::r.1,st::r.2.1,r.2.2)) (ih (Nat.succ i) (Nat.succ c) fr' st'))
    (Option.rec none (fun r=>some (⟨i,o.2,o.1,false,c,fr,v,st,st'⟩::r.1,r.2.1,r.2.2)) (ih (Nat.succ i) c fr' st'))) (xz n o.1.dst v fr)) none (eQ P call ops o.2 o.1 fr st)) l
def ia (dg:List TR)(iE:St)(k:Nat):St:=match dg[k]? with|some t=>t.s|none=>iE
def LX (l:List Oper)(dg:List TR)(L:Nat->Prop)(sE f:Fr):Prop:=
 (∀j o d t,L j->l[j]?=some o->o.dst=some d->dg[j]?=some t->dL f (d)=t.v)/\
 (∀p,(∀j o d,L j->l[j]?=some o->o.dst=some d->d≠p)->dL f p=dL sE p)
def Bi (l:List Oper):Prop:=∀(j k:Nat) (a b:Oper) (d:Tmp),j<k->l[j]?=some a->l[k]?=some b->a.dst=some d->b.dst≠some d
def fc (P:Program)(l:List Oper)(k:Nat):Nat:=(l.take k).countP (jd P)
section
variable {P:Program} {call:dY} {n:Nat} {ops:Array Oper}
theorem jO {l:List Oper}{k:Nat}{o:Oper}(h:l[k]?=some o):fc P l (k+1)=fc P l k+(if jd P o then 1 else 0):=by
 unfold fc;rw[List.take_add_one,h];simp[List.countP_append,List.countP_cons]
theorem pE {l:List Oper}{k:Nat}{o:Oper}:fc P (o::l) (k+1)=(if jd P o then 1 else 0)+fc P l k:=by
 unfold fc;rw[List.take_succ_cons,List.countP_cons];omega
theorem iZ {l:List Oper}{j k:Nat}(h:j<=k):fc P l j<=fc P l k:=by
 unfold fc;have:l.take j=(l.take k).take j:=by rw[agV,agD h]
 rw[this];exact(List.take_sublist _ _).countP_le
theorem pD {l:List Oper}:∀(k:Nat),k<=l.length->∀c,c<fc P l k->∃j o,j<k/\l[j]?=some o/\jd P o=true/\fc P l j=c:=by
 intro k
 induction k with
 |zero=>intro _ c h;simp[fc]at h
 |succ k ih=>
  intro hk c h;have wS:l[k]?=some l[k]:=by simp
  rw[jO wS]at h
  by_cases hc:c<fc P l k
  ·obtain⟨j,o,h1,h2,h3,h4⟩:=ih (by omega) c hc;exact⟨j,o,by omega,h2,h3,h4⟩
  ·have hw:jd P l[k]=true:=by
    cases hh:jd P l[k]with
    |true=>rfl
    |false=>rw[hh]at h;simp at h;omega
   rw[hw]at h;simp only[ags]at h;exact⟨k,_,by omega,wS,hw,by omega⟩
structure yG (L:List (Oper×Option Nat))(P:Program)(call:dY)(n:Nat)(ops:Array Oper)(i c:Nat)(fr:Fr)(st:St)(dg:List TR)(ch:List St)(ym:Fr)(iE:St):Prop where
 len:dg.length=L.length
 ji:∀k o ab,L[k]?=some (o,ab)->∃t,dg[k]?=some t/\t.i=i+k/\t.ab=ab/\t.o=o/\t.w=jd P o/\t.c=c+fc P (L.map (·.1)) k/\(∀d,o.dst=some d->d<n)/\LX (L.map (·.1)) dg (·<k) fr t.fr/\
  eQ P call ops ab o t.fr t.s= .ok t.v t.s1/\(jd P o=true->ch[fc P (L.map (·.1)) k]?=some t.s)
 fst:ia dg iE 0=st
 Md:∀k t,dg[k]?=some t->t.s1=ia dg iE (k+1)
 fin:LX (L.map (·.1)) dg (·<L.length) fr ym
 Yz:ch.length=fc P (L.map (·.1)) L.length
theorem LX.cons {l:List Oper}{dg:List TR}{k:Nat}{o:Oper}{t0:TR}{sE iK f:Fr}(My:Bi (o::l))(h:LX l dg (·<k) iK f)(BW:(o.dst=none/\iK=sE)\/∃d,o.dst=some d/\d<n/\iK=sE.put (d) (some t0.v)):
 LX (o::l) (t0::dg) (·<k+1) sE f:=by
 constructor
 ·intro j oj d t hj h1 h2 h3;cases j with
  |zero=>
   simp at h1 h3;subst h1;subst h3;rcases BW with⟨e,_⟩|⟨d',e,_,rfl⟩
   ·rw[h2]at e;cases e
   ·rw[h2]at e;cases e;rw[h.2 (d),iQ];intro j oj d' hj h4 h5 e;subst e;exact My 0 (j+1) o oj d' (by omega) (by simp) (by simpa using h4) h2 h5
  |succ j=>exact h.1 j oj d t (by have:=hj;show j<k;omega) (by simpa using h1) h2 (by simpa using h3)
 ·intro p hp;rw[h.2 p fun j oj d hj h1 h2=>hp (j+1) oj d (by have:j<k:=hj;show j+1<k+1;omega) (by simpa using h1) h2];rcases BW with⟨_,rfl⟩|⟨d,e,_,rfl⟩
  ·rfl
  ·rw[iY];exact fun e'=>hp 0 o d (by show 0<k+1;omega) (by simp) e e'.symm
theorem wZ:∀{L:List (Oper×Option Nat)} {i c:Nat} {fr:Fr} {st:St} {dg:List TR} {ch:List St} {ym:Fr} {iE:St},l5 P call n ops L i c fr st=some (dg,ch,ym,iE)->Bi (L.map (·.1))->yG L P call n ops i c fr st dg ch ym iE:=by
 intro L
 induction L with
 |nil=>
  intro i c fr st dg ch ym iE h _;cases h;exact⟨rfl,fun k o ab h=>by simp at h,rfl,fun k t h=>by simp at h,⟨fun j o d t _ h=>by simp at h,fun p _=>rfl⟩,rfl⟩
 |cons oa L ih=>
  obtain⟨o,ab⟩:=oa;intro i c fr st dg ch ym iE h My;rw[agH]at My
  have e:l5 P call n ops ((o,ab)::L) i c fr st=OR.rec (motive:=fun _=>Option LQ) (fun v st'=>j9 v fun v=>j9 st' fun st'=>
   Option.rec none (fun fr'=>bk (jd P o)
    (Option.rec none (fun r=>some (⟨i,ab,o,true,c,fr,v,st,st'⟩::r.1,st::r.2.1,r.2.2)) (l5 P call n ops L (i+1) (c+1) fr' st'))
    (Option.rec none (fun r=>some (⟨i,ab,o,false,c,fr,v,st,st'⟩::r.1,r.2.1,r.2.2)) (l5 P call n ops L (i+1) c fr' st'))) (xz n o.dst v fr)) none (eQ P call ops ab o fr st):=rfl
  rw[e]at h;have O2:Bi (L.map (·.1)):=fun j k a b d XR h1 h2=>My (j+1) (k+1) a b d (by omega) (by simpa using h1) (by simpa using h2);cases hs:eQ P call ops ab o fr st with
  |bad=>rw[hs]at h;cases h
  |ok v eY=>
   rw[hs]at h;simp only[dj,dj]at h;cases hp:xz n o.dst v fr with
   |none=>rw[hp]at h;cases h
   |some iK=>
    rw[hp]at h;simp only[aO]at h;have BW:=uz hp
    have I5:∀d,o.dst=some d->d<n:=fun d hd=>by
     rcases BW with⟨e,_⟩|⟨d',e,h',_⟩
     ·rw[hd]at e;cases e
     ·rw[hd]at e;cases e;exact h'
    have key:∀(w:Bool) (C0:List TR) (MH VX:List St) (ES:Fr) (Db:St),jd P o=w->yG L P call n ops (i+1) (c+if w then 1 else 0) iK eY C0 MH ES Db->VX=(if w then st::MH else MH)->
     yG ((o,ab)::L) P call n ops i c fr st (⟨i,ab,o,w,c,fr,v,st,eY⟩::C0) VX ES Db:=by
     intro w C0 MH VX ES Db hw IH La;refine⟨by simp[IH.len],fun k o' ab' hk=> ?_,rfl,fun k t hk=> ?_,by rw[agH];exact IH.fin.cons My BW, ?_⟩
     ·rw[agH];cases k with
      |zero=>
       simp at hk;obtain⟨rfl,rfl⟩:=hk;refine⟨_,rfl,rfl,rfl,rfl,hw.symm,rfl,I5,⟨fun j _ _ _ hj=>absurd hj (Nat.not_lt_zero _),fun p _=>rfl⟩,hs,fun hh=> ?_⟩;rw[hh]at hw;subst hw;rw[La];rfl
      |succ k=>
       simp only[agb]at hk;obtain⟨t,h1,h2,h2',h3,h4,h5,h6,h7,h9,HN⟩:=IH.ji k o' ab' hk;refine⟨t,by simpa using h1,by omega,h2',h3,h4, ?_,h6,h7.cons My BW,h9,fun Hp=> ?_⟩
       ·rw[h5,pE,hw];omega
       ·rw[pE,hw,La];have:=HN Hp;cases w
        ·simpa using this
        ·simp only[ags];rw[Nat.add_comm 1];simpa using this
     ·cases k with
      |zero=>
       simp at hk;subst hk;have:=IH.fst;show eY=ia _ _ _;rw[<-this];unfold ia;simp
      |succ k=>
       have:=IH.Md k t (by simpa using hk);rw[this];unfold ia;simp
     ·rw[agH,agT,pE,hw,La];have:=IH.Yz;cases w
      ·simp[this]
      ·simp[this];omega
    cases hw:jd P o with
    |true=>
     rw[hw]at h;simp only[ags]at h;cases ht:l5 P call n ops L (i+1) (c+1) iK eY with
     |none=>rw[ht]at h;cases h
     |some r=>
      obtain⟨C0,MH,ES,Db⟩:=r;rw[ht]at h;cases h;exact key true _ _ _ _ _ hw (ih ht O2) rfl
    |false=>
     rw[hw]at h;simp only[afY,agn]at h;cases ht:l5 P call n ops L (i+1) c iK eY with
     |none=>rw[ht]at h;cases h
     |some r=>
      obtain⟨C0,MH,ES,Db⟩:=r;rw[ht]at h;cases h;exact key false _ _ _ _ _ hw (ih ht O2) rfl
end
