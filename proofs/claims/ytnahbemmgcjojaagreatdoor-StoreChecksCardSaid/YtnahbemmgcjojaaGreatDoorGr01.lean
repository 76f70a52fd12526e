import Derived.Test.YtnahbemmgcjojaaGreatDoorGr00
import Derived.IntWalk
namespace Lim
open Go
noncomputable section
section
variable {P:Program} {ρ:Ren} {st st':St} {w:World} {v:CV}
def yT (x:Option CV)(Lz y:Nat):Option Nat:=
 match x with
 |none=>some Lz
 |some (.int _ (.ofNat n))=>bk (Nat.ble n y) (some n) none
 |_=>none
theorem fZ {x:CV}{x':Value}{Lz y n:Nat}(h:yT (some x) Lz y=some n)(hx:VR ρ x x'){Y:Nat}(hY:y<=Y)(code:BoundsCode):
 (Instr.sliceBound x' Y code).run P w= .ok n w/\n<=y:=by
 unfold yT at h
 split at h
 ·rename_i e;cases e
 ·rename_i k m e;cases e;simp only[aO,agw]at h
  split at h
  ·rename_i hle;cases h;cases hx;refine⟨?_,hle⟩;have h1:(0:Int)<=Int.ofNat n/\Int.ofNat n<=(Y:Int):=⟨ahH _,by show(n:Int)<=Y;omega⟩;simp only[Instr.sliceBound,asIntOf,Sem.run_bind,Sem.run_pure,Result.andThen_ok,Sem.run_ite,agl h1]
   rfl
  ·cases h
 ·cases h
def FP (ρ:Ren)(x:Option CV)(x':Option Value):Prop:=match x,x' with|none,none=>True|some x,some x'=>VR ρ x x'|_,_=>False
def jU (lo hi:Option CV)(len cap:Nat):Option (Nat×Nat):=
 match yT hi len cap with
 |some h=>(match yT lo 0 h with|some l=>some (l,h)|none=>none)
 |none=>none
theorem jt {isSlice:Bool}{lo hi:Option CV}{nP gK:Option Value}{len cap cap' l h:Nat}(hb:jU lo hi len cap=some (l,h))(h1:FP ρ lo nP)(h2:FP ρ hi gK)(hc:cap<=cap')
 (hl:hi=none->len<=cap):(Instr.sliceBounds isSlice len cap' nP gK none).run P w= .ok (l,h,cap') w/\l<=h/\h<=cap:=by
 unfold jU at hb;cases e1:yT hi len cap with
 |none=>rw[e1]at hb;cases hb
 |some h0=>
  rw[e1]at hb;cases e2:yT lo 0 h0 with
  |none=>dsimp only at hb;rw[e2]at hb;cases hb
  |some l0=>
   dsimp only at hb;rw[e2]at hb;cases hb
   have H:h<=cap:=by
    cases hi with
    |none=>cases e1;exact hl rfl
    |some x=>cases gK with
     |none=>exact h2.elim
     |some x'=>exact(fZ (P:=P) (w:=w) e1 h2 (aga _) .index).2
   have L:l<=h:=by
    cases lo with
    |none=>cases e2;omega
    |some x=>cases nP with
     |none=>exact h1.elim
     |some x'=>exact(fZ (P:=P) (w:=w) e2 h1 (aga _) .index).2
   refine⟨?_,L,H⟩;cases hi with
   |none=>
    cases gK with
    |some _=>exact h2.elim
    |none=>
     cases e1;cases lo with
     |none=>cases nP with
      |some _=>exact h1.elim
      |none=>cases e2;simp[Instr.sliceBounds]
     |some x=>cases nP with
      |none=>exact h1.elim
      |some x'=>simp[Instr.sliceBounds,(fZ (P:=P) (w:=w) e2 h1 (aga _) .sliceB).1]
   |some y=>
    cases gK with
    |none=>exact h2.elim
    |some y'=>
     have E1:=fun code=>(fZ (P:=P) (w:=w) e1 h2 hc code).1;cases lo with
     |none=>cases nP with
      |some _=>exact h1.elim
      |none=>cases e2;cases isSlice<;>simp[Instr.sliceBounds,E1]
     |some x=>cases nP with
      |none=>exact h1.elim
      |some x'=>cases isSlice<;>simp[Instr.sliceBounds,E1,(fZ (P:=P) (w:=w) e2 h1 (aga _) .sliceB).1]
def fK (x:CV)(lo hi:Option CV)(st:St):OR:=
 match x with
 | .str s=>(match jU lo hi s.length s.length with|some (l,h)=> .ok (.str ((s.drop l).take (h-l))) st|none=> .bad)
 |_=> .bad
theorem oN (s:List UInt8)(l h:Nat):(fe s).extract l h=fe ((s.drop l).take (h-l)):=by
 unfold fe;apply ByteArray.ext;rw[ByteArray.data_extract];apply Array.ext';simp only[Array.toList_extract,List.extract_eq_take_drop]
theorem qQ {t:TypeId}{x:CV}{x':Value}{lo hi:Option CV}{nP gK:Option Value}(h:fK x lo hi st= .ok v st')(hw:WR ρ st w)(hx:VR ρ x x')(h1:FP ρ lo nP)(h2:FP ρ hi gK)
 (hu:P.underlying t=some .string):bh P (Instr.sliceAt t x' nP gK none) ρ st w v st':=by
 unfold fK at h
 split at h
 ·rename_i s
  split at h
  ·rename_i l k hb;cases h;cases hx;obtain⟨b1,b2,b3⟩:=jt (P:=P) (w:=w) (isSlice:=false) hb h1 h2 (aga _) (fun _=>aga _);refine bh.still hw (v':= .string ((fe s).extract l k)) ?_ (by rw[oN];exact .str _);have e:=hE s;simp[Instr.sliceAt,agd hu,Instr.slice,e,b1]
  ·cases h
 ·cases h
def cc (size:Nat)(x:CV)(lo hi:Option CV)(st:St):OR:=
 match x with
 | .aa=>(match jU lo hi 0 0 with|some _=> .ok .aa st|none=> .bad)
 | .slice b off len cap grow=>bk (Nat.ble len cap) (match jU lo hi len cap with
   |some (l,h)=>j9 (Nat.sub h l) fun n=>j9 (Nat.sub cap l) fun c=>
    bk (Bool.and (Nat.beq grow 0) (Nat.beq l cap)) (.ok (.slice b off n c grow) st) (j9 (Nat.add off (Nat.mul l size)) fun o=>bk (Bool.or (Nat.beq grow 0) (Nat.beq grow size)) (.ok (.slice b o n c grow) st) .bad)
   |none=> .bad) .bad
 |_=> .bad
theorem rR {t e:TypeId}{size:Nat}{x:CV}{x':Value}{lo hi:Option CV}{nP gK:Option Value}(h:cc size x lo hi st= .ok v st')(hw:WR ρ st w)(hx:VR ρ x x')(h1:FP ρ lo nP)(h2:FP ρ hi gK)
 (hu:P.underlying t=some (.slice e)) (hs:(Go.sizeOf e).run P w= .ok size w):bh P (Instr.sliceAt t x' nP gK none) ρ st w v st':=by
 unfold cc at h
 split at h
 ·split at h
  ·rename_i lh hb;obtain⟨l,k⟩:=lh;cases h;cases hx;obtain⟨b1,b2,b3⟩:=jt (P:=P) (w:=w) (isSlice:=true) hb h1 h2 (aga _) (fun _=>aga _);have hk:k=0:=by omega
   have hl:l=0:=by omega
   subst hk;subst hl;refine bh.still hw ?_ .aa;simp[Instr.sliceAt,agd hu,Instr.slice,b1,hs]
  ·cases h
 ·rename_i b off len cap grow;rw[aO]at h
  split at h
  rotate_left
  ·cases h
  rename_i Qo;rw[agw]at Qo
  split at h
  ·rename_i l k hb;rw[dj,dj]at h;obtain⟨r,sz,cx,cap',rfl,hr,c1,c2,c3,c4⟩:=hx.eC;obtain⟨b1,b2,b3⟩:=jt (P:=P) (w:=w) (isSlice:=true) hb h1 h2 c2 (fun _=>Qo)
   have ie:(Instr.sliceAt t (.slice (some ⟨r,cx,none⟩) len cap') nP gK none).run P w=
    .ok (.slice (if cap'=l then some ⟨r,cx,none⟩else some ⟨r,cx+l*size,none⟩) (k-l) (cap'-l)) w:=by
    simp[Instr.sliceAt,agd hu,Instr.slice,b1,hs,gL]
   simp only[aO,agp,agU,agA,dj]at h
   split at h
   ·rename_i hg;obtain⟨hg,hl⟩:=hg;cases h;obtain⟨e1,e2⟩:=c3 hg;subst hg;subst e1;subst e2;subst hl;refine bh.still hw ie ?_;rw[agl rfl];exact .slice _ _ _ _ r sz hr
   ·rename_i hng
    split at h
    ·rename_i hg
     ·cases h
      by_cases hz:grow=0
      ·obtain⟨e1,e2⟩:=c3 hz;subst hz;subst e1;subst e2;refine bh.still hw ie ?_;rw[agf (fun e=>hng ⟨rfl,e.symm⟩)];exact .slice _ _ _ _ r sz hr
      ·have hgs:grow=size:=by rcases hg with hg|hg;exact absurd hg hz;exact hg
       obtain⟨d1,d2⟩:=c4 (by omega);refine bh.still hw ie ?_
       have key:∀o',o'+(cap'-l)*grow<=sz->(0<cap-l->o'=off+l*size)->
        VR ρ (.slice b (off+l*size) (k-l) (cap-l) grow) (.slice (some ⟨r,o',none⟩) (k-l) (cap'-l)):=fun o' XH Qi=>
        .lu _ _ o' _ _ (cap'-l) grow r sz hr (by omega) (by omega) (by omega) Qi XH
       split
       ·rename_i uS;exact key cx (by rw[uS,Nat.sub_self,Nat.zero_mul];omega) (by omega)
       ·refine key (cx+l*size) ?_ (fun hp=>by rw[c1 (by omega)])
        have:l*size+(cap'-l)*grow=cap'*grow:=by
         rw[hgs,<-ahm];congr 1;omega
        omega
    ·cases h
  ·cases h
 ·cases h
def oU (size:Nat)(x:CV)(lo:Option CV)(hi mx:CV)(st:St):OR:=
 match x with
 | .slice b off len cap grow=>(match yT (some mx) 0 cap with
   |some m=>(match jU lo (some hi) len m with
    |some (l,h)=>bk (Bool.or (Nat.beq grow 0) (Nat.ble (Nat.succ l) cap)) (j9 (Nat.sub h l) fun n=>j9 (Nat.sub m l) fun c=>bk (Nat.beq m l) (.ok (.slice b off n c 0) st) (j9 (Nat.add off (Nat.mul l size)) fun o=> .ok (.slice b o n c 0) st)) .bad
    |none=> .bad)
   |none=> .bad)
 | .aa=>(match yT (some mx) 0 0 with
   |some m=>(match jU lo (some hi) 0 m with|some _=> .ok .aa st|none=> .bad)
   |none=> .bad)
 |_=> .bad
theorem tJ {t e:TypeId}{size:Nat}{x:CV}{x':Value}{lo:Option CV}{nP:Option Value}{hi mx:CV}{gK Me:Value}(h:oU size x lo hi mx st= .ok v st')(hw:WR ρ st w)(hx:VR ρ x x')(h1:FP ρ lo nP)(h2:VR ρ hi gK)(h3:VR ρ mx Me)
 (hu:P.underlying t=some (.slice e)) (hs:(Go.sizeOf e).run P w= .ok size w):bh P (Instr.sliceAt t x' nP (some gK) (some Me)) ρ st w v st':=by
 unfold oU at h
 split at h
 ·rename_i b off len cap grow
  split at h
  ·rename_i m hm
   split at h
   ·rename_i l k hb;obtain⟨r,sz,cx,cap',rfl,hr,c1,c2,c3,c4⟩:=hx.eC;obtain⟨m1,m2⟩:=fZ (P:=P) (w:=w) hm h3 c2 .slice3Acap;unfold jU at hb;cases e1:yT (some hi) len m with
    |none=>rw[e1]at hb;cases hb
    |some h0=>
     rw[e1]at hb;cases e2:yT lo 0 h0 with
     |none=>dsimp only at hb;rw[e2]at hb;cases hb
     |some l0=>
      dsimp only at hb;rw[e2]at hb;cases hb;obtain⟨k1,k2⟩:=fZ (P:=P) (w:=w) e1 h2 (aga _) .slice3B
      have hl:l<=k/\(Instr.sliceBounds true len cap' nP (some gK) (some Me)).run P w= .ok (l,k,m) w:=by
       cases lo with
       |none=>cases nP with
        |some _=>exact h1.elim
        |none=>cases e2;exact⟨by omega,by simp[Instr.sliceBounds,m1,k1]⟩
       |some y=>cases nP with
        |none=>exact h1.elim
        |some y'=>
         obtain⟨l1,l2⟩:=fZ (P:=P) (w:=w) e2 h1 (aga _) .slice3C;exact⟨l2,by simp[Instr.sliceBounds,m1,k1,l1]⟩
      have ie:(Instr.sliceAt t (.slice (some ⟨r,cx,none⟩) len cap') nP (some gK) (some Me)).run P w=
       .ok (.slice (if m=l then some ⟨r,cx,none⟩else some ⟨r,cx+l*size,none⟩) (k-l) (m-l)) w:=by
       simp[Instr.sliceAt,agd hu,Instr.slice,hl.2,hs,gL]
      simp only[aO,agU,agA,agw,dj]at h
      split at h
      ·rename_i hg
       have ho:cx=off:=by
        rcases hg with hg|hg
        ·exact(c3 hg).2
        ·exact c1 (by omega)
       subst ho
       split at h
       ·rename_i FY;cases h;refine bh.still hw ie ?_;rw[agl FY];exact .slice _ _ _ _ r sz hr
       ·rename_i FY;cases h;refine bh.still hw ie ?_;rw[agf FY];exact .slice _ _ _ _ r sz hr
      ·cases h
   ·cases h
  ·cases h
 ·split at h
  ·rename_i m hm
   split at h
   ·rename_i lh hb;obtain⟨l,k⟩:=lh;cases h;cases hx;obtain⟨m1,m2⟩:=fZ (P:=P) (w:=w) hm h3 (aga 0) .slice3Acap;have Um:m=0:=by omega
    subst Um;unfold jU at hb;cases e1:yT (some hi) 0 0 with
    |none=>rw[e1]at hb;cases hb
    |some h0=>
     rw[e1]at hb;cases e2:yT lo 0 h0 with
     |none=>dsimp only at hb;rw[e2]at hb;cases hb
     |some l0=>
      dsimp only at hb;rw[e2]at hb;cases hb;obtain⟨k1,k2⟩:=fZ (P:=P) (w:=w) e1 h2 (aga _) .slice3B;have Qp:k=0:=by omega
      subst Qp
      have hl:l<=0/\(Instr.sliceBounds true 0 0 nP (some gK) (some Me)).run P w= .ok (l,0,0) w:=by
       cases lo with
       |none=>cases nP with
        |some _=>exact h1.elim
        |none=>cases e2;exact⟨by omega,by simp[Instr.sliceBounds,m1,k1]⟩
       |some y=>cases nP with
        |none=>exact h1.elim
        |some y'=>
         obtain⟨l1,l2⟩:=fZ (P:=P) (w:=w) e2 h1 (aga _) .slice3C;exact⟨l2,by simp[Instr.sliceBounds,m1,k1,l1]⟩
      have XM:l=0:=by omega
      subst XM;refine bh.still hw ?_ .aa;simp[Instr.sliceAt,agd hu,Instr.slice,hl.2,hs]
   ·cases h
  ·cases h
 ·cases h
def bM (n size:Nat)(x:CV)(lo hi:Option CV)(st:St):OR:=
 match x with
 | .ptr b off=>(match jU lo hi n n with
   |some (l,h)=>j9 (Nat.sub h l) fun k=>j9 (Nat.sub n l) fun c=>bk (Nat.beq n l) (.ok (.slice b off k c 0) st) (j9 (Nat.add off (Nat.mul l size)) fun o=> .ok (.slice b o k c 0) st)
   |none=> .bad)
 |_=> .bad
theorem qR {t e:TypeId}{n size:Nat}{x:CV}{x':Value}{lo hi:Option CV}{nP gK:Option Value}(h:bM n size x lo hi st= .ok v st')(hw:WR ρ st w)(hx:VR ρ x x')(h1:FP ρ lo nP)(h2:FP ρ hi gK)
 (hu:P.underlying t=some (.array n e)) (hs:(Go.sizeOf e).run P w= .ok size w):bh P (Instr.sliceAt t x' nP gK none) ρ st w v st':=by
 unfold bM at h
 split at h
 ·rename_i b off
  split at h
  ·rename_i l k hb;cases hx with
   |ptr _ _ r sz hr=>
    obtain⟨b1,b2,b3⟩:=jt (P:=P) (w:=w) (isSlice:=false) hb h1 h2 (aga _) (fun _=>aga _)
    have ie:(Instr.sliceAt t (.pointer (some ⟨r,off,none⟩)) nP gK none).run P w=
     .ok (.slice (some (if n=l then ⟨r,off,none⟩else ⟨r,off+l*size,none⟩)) (k-l) (n-l)) w:=by
     simp[Instr.sliceAt,agd hu,Instr.sureAddr,b1,hs,gL]
    simp only[aO,agA,dj]at h
    split at h
    ·rename_i yb;cases h;refine bh.still hw ie ?_;rw[agl yb];exact .slice _ _ _ _ r sz hr
    ·rename_i yb;cases h;refine bh.still hw ie ?_;rw[agf yb];exact .slice _ _ _ _ r sz hr
  ·cases h
 ·cases h
def mF (n:Nat)(x:CV)(st:St):OR:=
 match x with| .slice b off len cap grow=>bk (Bool.and (Nat.ble n len) (Bool.or (Nat.beq grow 0) (Bool.and (Nat.ble 1 cap) (Nat.ble len cap)))) (.ok (.ptr b off) st) .bad|_=> .bad
theorem xG {t e:TypeId}{n:Nat}{x:CV}{x':Value}(h:mF n x st= .ok v st')(hw:WR ρ st w)(hx:VR ρ x x')(hu:P.underlying t=some (.array n e)):bh P (Instr.arrayAt t x') ρ st w v st':=by
 unfold mF at h
 split at h
 ·rename_i b off len cap grow;simp only[aO,agp,agU,agA,agw]at h
  split at h
  ·rename_i hg;cases h;obtain⟨r,sz,cx,cap',rfl,hr,c1,c2,c3,c4⟩:=hx.eC
   have ho:cx=off:=by
    rcases hg.2 with hg|hg
    ·exact(c3 hg).2
    ·exact c1 (by omega)
   subst ho;refine bh.still hw ?_ (.ptr _ _ r sz hr);have:¬len<n:=by omega
   simp[Instr.arrayAt,agd hu,this]
  ·cases h
 ·cases h
def al (off:Nat)(x:CV)(st:St):OR:=match x with| .ptr b o=>j9 (Nat.add o off) fun o=> .ok (.ptr b o) st|_=> .bad
theorem pX {t:TypeId}{i:Nat}{fs:Array Field}{f:Field}{off n:Nat}{x:CV}{x':Value}(h:al off x st= .ok v st')(hw:WR ρ st w)(hx:VR ρ x x')(hu:P.underlying t=some (.struct fs))
 (hf:fs[i]?=some f) (ho:f.offset=off) (hs:(Go.sizeOf f.type).run P w= .ok n w) (hn:n≠0):bh P (Instr.fieldAt t x' i) ρ st w v st':=by
 unfold al at h
 split at h
 ·rename_i b o;rw[dj]at h;cases h;cases hx with
  |ptr _ _ r sz hr=>
   refine bh.still hw ?_ (.ptr _ _ r sz hr);simp[Instr.fieldAt,agd hu,hf,Instr.sureAddr,fieldPlace,hs,hn,gL,ho]
 ·cases h
def rU (agg:Bool)(off size:Nat)(x:CV)(st:St):OR:=match x with| .agg s=>Option.rec .bad (fun v=> .ok v st) (fQ agg off size s)|_=> .bad
theorem vO {t:TypeId}{i:Nat}{fs:Array Field}{f:Field}{ti:TypeInfo}{u:TypeDesc}{x:CV}{x':Value}(h:rU (fj u) f.offset ti.size x st= .ok v st')(hw:WR ρ st w)(hx:VR ρ x x')(hu:P.underlying t=some (.struct fs))
 (hf:fs[i]?=some f) (hi:P.info? f.type=some ti) (Tk:P.underlying f.type=some u):bh P (Instr.field t x' i) ρ st w v st':=by
 unfold rU at h
 split at h
 ·rename_i s;cases hc:fQ (fj u) f.offset ti.size s with
  |none=>rw[hc]at h;cases h
  |some y=>
   rw[hc]at h;cases h;cases hx with
   |agg _ l hl hh=>
    obtain⟨y',p1,p2⟩:=fv (P:=P) (w:=w) hc ⟨hl,hh⟩ hi rfl Tk rfl;refine bh.still hw ?_ p2;simp[Instr.field,agd hu,hf,asAgg,p1]
 ·cases h
def cQ (n size:Nat)(x i:CV)(st:St):OR:=
 match x,i with| .ptr b o, .int _ (.ofNat j)=>bk (Nat.ble (Nat.succ j) n) (j9 (Nat.add o (Nat.mul j size)) fun o=> .ok (.ptr b o) st) .bad|_,_=> .bad
def cm (size:Nat)(x i:CV)(st:St):OR:=
 match x,i with| .slice b o len cap grow, .int _ (.ofNat j)=>bk (Bool.and (Nat.ble (Nat.succ j) len) (Bool.or (Nat.beq grow 0) (Nat.ble len cap))) (j9 (Nat.add o (Nat.mul j size)) fun o=> .ok (.ptr b o) st) .bad|_,_=> .bad
theorem tM {t e:TypeId}{n size:Nat}{x i:CV}{x' i':Value}(h:cQ n size x i st= .ok v st')(hw:WR ρ st w)(hx:VR ρ x x')(hi:VR ρ i i')(hu:P.underlying t=some (.array n e))
 (hs:(Go.sizeOf e).run P w= .ok size w):bh P (Instr.indexAt t x' i') ρ st w v st':=by
 unfold cQ at h
 split at h
 ·rename_i b o k j;simp only[aO,agw,dj]at h
  split at h
  ·rename_i hj;cases h;cases hi;cases hx with
   |ptr _ _ r sz hr=>
    refine bh.still hw ?_ (.ptr _ _ r sz hr);have h1:(0:Int)<=Int.ofNat j/\Int.ofNat j<(n:Int):=⟨ahH _,by show(j:Int)<n;omega⟩;simp only[Instr.indexAt,asIntOf,Sem.run_bind,Sem.run_pure,Result.andThen_ok,agd hu,Instr.sureAddr,Sem.run_ite,agl h1,hs,gL]
    rfl
  ·cases h
 ·cases h
theorem vN {t e:TypeId}{size:Nat}{x i:CV}{x' i':Value}(h:cm size x i st= .ok v st')(hw:WR ρ st w)(hx:VR ρ x x')(hi:VR ρ i i')(hu:P.underlying t=some (.slice e))
 (hs:(Go.sizeOf e).run P w= .ok size w):bh P (Instr.indexAt t x' i') ρ st w v st':=by
 unfold cm at h
 split at h
 ·rename_i b o len cap grow k j;simp only[aO,agp,agU,agA,agw,dj]at h
  split at h
  ·rename_i hj;cases h;cases hi;obtain⟨r,sz,cx,cap',rfl,hr,c1,c2,c3,c4⟩:=hx.eC
   have ho:cx=o:=by
    rcases hj.2 with hg|hg
    ·exact(c3 hg).2
    ·exact c1 (by omega)
   subst ho;refine bh.still hw ?_ (.ptr _ _ r sz hr);have h1:(0:Int)<=Int.ofNat j/\Int.ofNat j<(len:Int):=⟨ahH _,by show(j:Int)<len;omega⟩;simp only[Instr.indexAt,asIntOf,Sem.run_bind,Sem.run_pure,Result.andThen_ok,agd hu,Sem.run_ite,agl h1,hs,gL]
   rfl
  ·cases h
 ·cases h
def jv (x i:CV)(st:St):OR:=
 match x,i with| .str l, .int _ (.ofNat j)=>(match l[j]? with|some b=> .ok (bo b) st|none=> .bad)|_,_=> .bad
theorem tL {t:TypeId}{x i:CV}{x' i':Value}(h:jv x i st= .ok v st')(hw:WR ρ st w)(hx:VR ρ x x')(hi:VR ρ i i')(hu:P.underlying t=some .string):bh P (Instr.index t x' i') ρ st w v st':=by
 unfold jv at h
 split at h
 ·rename_i l k j
  split at h
  ·rename_i b hj;cases h;cases hi;cases hx;refine bh.still hw ?_ (.int _ _);have h1:(0:Int)<=Int.ofNat j:=ahH _;have hlt:=(agt.1 hj).1
   have wu:(fe l)[(Int.ofNat j).toNat]?=some b:=by
    show(fe l)[j]?=_;rw[getElem?_pos (fe l) j (by rw[hE];exact hlt)];rw[<-hj,agh hlt];rfl
   simp only[Instr.index,asIntOf,Sem.run_bind,Sem.run_pure,Result.andThen_ok,agd hu,agl h1,wu]
  ·cases h
 ·cases h
def oW (n size:Nat)(agg:Bool)(x i:CV)(st:St):OR:=
 match x,i with| .agg s, .int _ (.ofNat j)=>bk (Nat.ble (Nat.succ j) n) (Option.rec .bad (fun v=> .ok v st) (fQ agg (Nat.mul j size) size s)) .bad|_,_=> .bad
theorem tN {t e:TypeId}{n:Nat}{ti:TypeInfo}{u:TypeDesc}{x i:CV}{x' i':Value}(h:oW n ti.size (fj u) x i st= .ok v st')(hw:WR ρ st w)(hx:VR ρ x x')(hi:VR ρ i i')(hu:P.underlying t=some (.array n e))
 (he:P.info? e=some ti) (Cy:P.underlying e=some u):bh P (Instr.index t x' i') ρ st w v st':=by
 unfold oW at h
 split at h
 ·rename_i s k j;simp only[aO,agw]at h
  split at h
  ·rename_i hj;cases hc:fQ (fj u) (Nat.mul j ti.size) ti.size s with
   |none=>rw[hc]at h;cases h
   |some y=>
    rw[hc]at h;cases h;cases hi;cases hx with
    |agg _ l hl hh=>
     obtain⟨y',p1,p2⟩:=fv (P:=P) (w:=w) hc ⟨hl,hh⟩ he rfl Cy rfl;refine bh.still hw ?_ p2;have h1:(0:Int)<=Int.ofNat j/\Int.ofNat j<(n:Int):=⟨ahH _,by show(j:Int)<n;omega⟩;have h2:(Go.sizeOf e).run P w= .ok ti.size w:=by simp[Go.sizeOf,typeInfo,he]
     simp only[Instr.index,asIntOf,Sem.run_bind,Sem.run_pure,Result.andThen_ok,agd hu,Sem.run_ite,agl h1,h2];exact p1
  ·cases h
 ·cases h
def lG (t:TypeId)(x:CV)(st:St):OR:= .ok (.iface t x) st
theorem vM {t:TypeId}{x:CV}{x':Value}(h:lG t x st= .ok v st')(hw:WR ρ st w)(hx:VR ρ x x')(hc:P.concrete t=true):bh P (Instr.makeInterface t x') ρ st w v st':=by
 cases h;exact bh.still hw (run_makeInterface w t x' hc) (.iface t x x' hx)
end
def cM (c:Nat)(z:List CV):List CV:=(List.replicate c z).flatten
theorem kI (z:Array Value):∀c,((List.range (c*z.size)).map fun i=>z[i%z.size]!)=(List.replicate c z.toList).flatten:=by
 intro c
 induction c with
 |zero=>simp
 |succ c ih=>
  rw[agQ,ahr,<-ih,Nat.succ_mul,Nat.add_comm,List.range_add,ahp,aid]
  congr 1
  ·apply List.ext_getElem
   ·simp
   ·intro i h1 h2;simp only[agM,List.length_range]at h1;simp[ahv h1,h1]
  ·apply List.map_congr_left;intro i _;simp
section
variable {P:Program} {ρ:Ren} {st st':St} {w:World} {v:CV}
theorem cL.flatten {l:List CV}{l':List Value}(h:cL ρ l l')(c:Nat):cL ρ (List.replicate c l).flatten (List.replicate c l').flatten:=by
 induction c with
 |zero=>exact cL.nil ρ
 |succ c ih=>rw[agQ,agQ,ahr,ahr];exact h.app ih
inductive Cu where
 |str|slice|map|cap
 |const (n:Nat)
def bO (k:Cu)(x:CV)(st:St):OR:=
 match k,x with
 | .const n,_=>ri .i64 st n
 | .str, .str l=>ri .i64 st l.length
 | .slice, .aa=>ri .i64 st 0
 | .slice, .slice _ _ len _ _=>ri .i64 st len
 | .slice, .lx=>ri .i64 st 0
 | .map, .cD=>ri .i64 st 0
 | .map, .map b=>(match st.mem.get b with|some (.map es _)=>j9 es.length (ri .i64 st)|some (.lmap es)=>j9 es.length (ri .i64 st)|_=> .bad)
 | .cap, .aa=>ri .i64 st 0
 | .cap, .slice _ _ _ cap grow=>bk (Nat.beq grow 0) (ri .i64 st cap) (.ok (.gy cap) st)
 |_,_=> .bad
def AI (P:Program)(k:Cu)(t:TypeId):Prop:=
 match k with
 | .str=>P.underlying t=some .string
 | .slice=>∃e,P.underlying t=some (.slice e)
 | .map=>∃k e,P.underlying t=some (.map k e)
 | .cap=>False
 | .const n=>(∃e,P.underlying t=some (.array n e))\/∃a e,P.underlying t=some (.pointer a)/\P.underlying a=some (.array n e)
theorem WR.map {b:Nat}{es:List (CV×CV×Nat)}{clock r sz:Nat}(h:WR ρ st w)(h1:st.mem.get b=some (.map es clock))(h2:ρ b=some (r,sz)):
 ∃es':List MapEntry,w.heap[r]?=some (.map es'.toArray clock)/\es.length=es'.length/\
  ∀(i:Nat) (e:CV×CV×Nat) (e':MapEntry),es[i]?=some e->es'[i]?=some e'->VR ρ e.1 e'.key/\VR ρ e.2.1 e'.val/\e.2.2=e'.born:=by
 obtain⟨o,e2,e3⟩:=h.ji b _ r sz h1 h2;cases e3 with
 |map _ _ es' hl h=>exact⟨es',e2,hl,h⟩
theorem WR.lmap {b:Nat}{es:List (CV×CV×Nat)}{r sz:Nat}(h:WR ρ st w)(h1:st.mem.get b=some (.lmap es))(h2:ρ b=some (r,sz)):
 ∃(l:List (CV×CV×Nat)) (clock:Nat) (es':List MapEntry),w.heap[r]?=some (.map es'.toArray clock)/\l.Perm es/\(∀e∈es,∃n:Int,e.1= .int .i64 n)/\(es.map (·.1)).Nodup/\Go.MapKept.Stamped es'.toArray clock/\l.length=es'.length/\
  ∀(i:Nat) (e:CV×CV×Nat) (e':MapEntry),l[i]?=some e->es'[i]?=some e'->VR ρ e.1 e'.key/\VR ρ e.2.1 e'.val:=by
 obtain⟨o,e2,e3⟩:=h.ji b _ r sz h1 h2;cases e3 with
 |lmap _ l clock es' hp hi hn hs hl h=>exact⟨l,clock,es',e2,hp,hi,hn,hs,hl,h⟩
theorem cu {r clock:Nat}{es:Array MapEntry}(h:w.heap[r]?=some (.map es clock)):(getObj r).run P w= .ok (.map es clock) w:=by
 simp only[getObj,Sem.run,h]
theorem zC {k:Cu}{t ty:TypeId}{x:CV}{x':Value}(h:bO k x st= .ok v st')(hw:WR ρ st w)(hx:VR ρ x x')(hf:AI P k t)(ats:Array TypeId)(hat:ats[0]?=some t):
 bh P (Builtin.len_ ats ty #[x']) ρ st w v st':=by
 unfold bO at h
 split at h
 ·cases h;refine bh.still hw ?_ (.int _ _);rcases hf with⟨e,hf⟩|⟨a,e,hf,hf2⟩
  ·simp only[Builtin.len_,hat,agP,afX,Sem.run_bind,agd hf,Result.andThen_ok]
   rfl
  ·simp only[Builtin.len_,hat,agP,afX,Sem.run_bind,agd hf,agd hf2,Result.andThen_ok]
   rfl
 ·cases h;cases hx;refine bh.still hw ?_ (.int _ _);have UX:P.underlying t=some .string:=hf;simp[Builtin.len_,hat,agd UX,goInt]
 ·cases h;cases hx;obtain⟨e,hf⟩:=hf;refine bh.still hw ?_ (.int _ _);simp[Builtin.len_,hat,agd hf,goInt]
 ·cases h;obtain⟨e,hf⟩:=hf;obtain⟨r,sz,cx,cap',rfl,_⟩:=hx.eC;refine bh.still hw ?_ (.int _ _);simp[Builtin.len_,hat,agd hf,goInt]
 ·cases h;cases hx;obtain⟨e,hf⟩:=hf;refine bh.still hw ?_ (.int _ _);simp[Builtin.len_,hat,agd hf,goInt]
 ·cases h;cases hx;obtain⟨e,e2,hf⟩:=hf;refine bh.still hw ?_ (.int _ _);simp[Builtin.len_,hat,agd hf,goInt]
 ·rename_i b;obtain⟨e,e2,hf⟩:=hf
  split at h
  ·rename_i es clock hm;rw[dj]at h;cases h;cases hx with
   |map _ r sz hr=>
    obtain⟨es',h1,h2,h3⟩:=hw.map hm hr;refine bh.still hw ?_ (.int _ _);simp[Builtin.len_,hat,agd hf,goInt,cu h1,h2]
  ·rename_i es hm;rw[dj]at h;cases h;cases hx with
   |map _ r sz hr=>
    obtain⟨l,clock,es',h1,h2,_,_,_,h3,_⟩:=hw.lmap hm hr;refine bh.still hw ?_ (.int _ _);simp[Builtin.len_,hat,agd hf,goInt,cu h1,<-h3,h2.length_eq]
  ·cases h
 ·exact hf.elim
 ·exact hf.elim
 ·cases h
theorem zE {t ty:TypeId}{x:CV}{x':Value}(h:bO .cap x st= .ok v st')(hw:WR ρ st w)(hx:VR ρ x x'){e:TypeId}(hf:P.underlying t=some (.slice e))(ats:Array TypeId)(hat:ats[0]?=some t):
 bh P (Builtin.cap_ ats ty #[x']) ρ st w v st':=by
 have e:bO .cap x st=(match (generalizing:=false) x with| .aa=>ri .i64 st 0| .slice _ _ _ cap grow=>bk (Nat.beq grow 0) (ri .i64 st cap) (.ok (.gy cap) st)|_=> .bad):=by cases x<;>rfl
 rw[e]at h
 split at h
 ·cases h;cases hx;refine bh.still hw ?_ (.int _ _);simp[Builtin.cap_,hat,agd hf,goInt]
 ·rename_i b off len cap grow;obtain⟨r,sz,cx,cap',rfl,hr,c1,c2,c3,c4⟩:=hx.eC;simp only[aO,agA]at h
  split at h
  ·rename_i hg;cases h;obtain⟨g1,_⟩:=c3 hg;subst g1;refine bh.still hw ?_ (.int _ _);simp[Builtin.cap_,hat,agd hf,goInt]
  ·cases h;refine bh.still hw (v':= .int .i64 (cap':Int)) ?_ (.gy _ _ (by exact_mod_cast c2));simp[Builtin.cap_,hat,agd hf,goInt]
 ·cases h
def jD (e bytes:Nat)(z:List CV)(l c:CV)(st:St):OR:=
 match l,c with
 | .int _ (.ofNat l), .int _ (.ofNat c)=>
   bk (Bool.and (Nat.ble l c) (Bool.and (Nat.ble (Nat.mul bytes c) 281474976710656) (Nat.ble c 9223372036854775807)))
    (.ok (.slice st.next 0 l c 0) ⟨st.mem.put st.next (some (.cells (cM c z) e false)),st.next+1⟩) .bad
 |_,_=> .bad
theorem xI {t e bytes:TypeId}{i:TypeInfo}{z:List CV}{z':Value}{l c:CV}{l' c':Value}(h:jD e bytes z l c st= .ok v st')(hw:WR ρ st w)(hl:VR ρ l l')(hc:VR ρ c c')
 (hu:P.underlying t=some (.slice e)) (hi:P.info? e=some i) (hz:i.zero=some z') (hb:i.bytes=bytes) (hsz:z'.cells.size=i.size) (rk:∀ρ,cL ρ z z'.cells.toList):
 bh P (Instr.makeSlice t l' c') ρ st w v st':=by
 unfold jD at h
 split at h
 ·rename_i k1 l k2 c;simp only[aO,agp,agw]at h
  split at h
  ·rename_i hg;cases h;cases hl;cases hc;obtain⟨g1,g2,g3⟩:=hg
   have ie:=run_make w t e i z' hu hi hz k1 k2 (l:Int) (c:Int) (ahH _) (Int.ofNat_le.2 g1) (by
    rw[hb];have:bytes*c<=281474976710656:=g2;have h4:((bytes*c:Nat):Int)<=281474976710656:=Int.ofNat_le.2 this
    rwa [Int.natCast_mul]at h4) (Int.ofNat_le.2 g3)
   have Lb:(madeCells z'.cells (c*i.size)).toList=(List.replicate c z'.cells.toList).flatten:=by
    rw[<-hsz,madeCells,ahj,ahT];exact kI z'.cells c
   obtain⟨ρ',h1,h2,h3⟩:=aY.newRow (P:=P) (t:=e) (s:=cM c z) (l:=(madeCells z'.cells (c*i.size)).toList) hw (fun ρ' _=>by
    rw[Lb];exact(rk ρ').flatten c) false
   refine⟨_,_,ρ',ie, ?_, ?_⟩
   ·have:=VR.slice (ρ:=ρ') st.next 0 l c w.heap.size _ h2
    simpa using this
   ·rw[ahi]at h3;exact h3
  ·cases h
 ·cases h
inductive yI where
 |slice|str|zeros
def dJ (k:yI)(size:Nat)(z:List CV)(x:CV)(st:St):Option (Nat×List CV):=
 match k,x with
 | .slice, .aa=>some (0,[])
 | .slice, .slice b off len cap grow=>(match cY size len (.slice b off len cap grow) st with|some s=>some (len,s)|none=>none)
 | .str, .str l=>some (l.length,l.map bo)
 | .zeros, .int _ (.ofNat n)=>bk (Nat.ble n 1099511627776) (some (n,cM n z)) none
 |_,_=>none
def vq (P:Program)(k:yI)(u:TypeId)(size:Nat):Prop:=
 match k with
 | .slice=>∃e,P.underlying u=some (.slice e)
 | .str=>P.underlying u=some .string/\size=1
 | .zeros=>∃j,P.underlying u=some (.int j)
def iS (elem:TypeId)(size:Nat)(zeros:Bool)(n:Nat)(appended:Sem (Array Value))(base:Option Addr)(sLen sCap:Nat)(s x:Value):Sem Value:=do
 let need:=sLen+n
 if need<=sCap then
  let new<-appended
  if let some a:=base then storeCells (a.add (sLen*size)) new.toList
  pure (.slice base need sCap)
 else
  if (need:Int)>IntKind.i64.max/\(zeros\/(<-typeInfo elem).bytes=0)then runtimePanic (.error "growslice: len out of range")
  if Builtin.nextslicecap need sCap*(<-typeInfo elem).bytes>2^48 then (if zeros then runtimePanic (.error "growslice: len out of range")else do
   if !(<-Builtin.mayShare size sLen n base x)then mark .noRoom
   unsupported (.resourceLimit "append: a slice or a string whose bytes no memory bears"))
  let zJ<-choose (.appendCap need sCap elem)
  askRoom (zJ*(<-typeInfo elem).bytes)
  let wQ<-Builtin.firstCells size sLen s
  let new<-appended
  let rest:=Builtin.zeroCells (<-zeroValue elem).cells (zJ-need)
  pure (.slice (some (<-newRow elem (wQ++new++rest))) need zJ)
theorem um {k:yI}{t u ty e size:TypeId}{i:TypeInfo}{z:List CV}{z':Value}{x:CV}{x':Value}{n:Nat}{s:List CV}(h:dJ k size z x st=some (n,s))(hw:WR ρ st w)(hx:VR ρ x x')
 (hf:vq P k u size) (hu:P.underlying t=some (.slice e)) (hi:P.info? e=some i) (hz:i.zero=some z') (hs:i.size=size) (hsz:z'.cells.size=size) (rk:∀ρ,cL ρ z z'.cells.toList) (hb:k= .zeros->i.bytes<=256):
 ∃vs zeros appended,cL ρ s vs/\vs.length=n*size/\(∀w1:World,w1.heap=w.heap->appended.run P w1= .ok vs.toArray w1)/\
  ∀base sLen sCap,(Builtin.append_ #[t,u] ty #[.slice base sLen sCap,x']).run P w=(iS e size zeros n appended base sLen sCap (.slice base sLen sCap) x').run P w:=by
 have jM:(Go.sizeOf e).run P w= .ok size w:=by simp[Go.sizeOf,typeInfo,hi,hs]
 unfold dJ at h
 split at h
 ·cases h;cases hx;obtain⟨e2,hf⟩:=hf;refine⟨[],false,Builtin.firstCells size 0 (.slice none 0 0),cL.nil ρ,by simp,fun w1 _=>by simp[Builtin.firstCells],fun base sLen sCap=> ?_⟩;simp only[Builtin.append_,agP,afX,agb,Sem.run_bind,agd hu,agd hf,Result.andThen_ok,jM,Sem.run_pure,Builtin.lenOf,iS,agj,ags,afY,agn]
  rfl
 ·rename_i b off len cap grow
  split at h
  ·rename_i s' qf;cases h;obtain⟨e2,hf⟩:=hf;obtain⟨vs,g1,g2,g3⟩:=iF (P:=P) qf (fun _ h _=>by cases h) hw hx;obtain⟨r,sz,cx,cap',rfl,_⟩:=hx.eC;refine⟨vs,false,_,g1,g2,g3,fun base sLen sCap=> ?_⟩;simp only[Builtin.append_,agP,afX,agb,Sem.run_bind,agd hu,agd hf,Result.andThen_ok,jM,Sem.run_pure,Builtin.lenOf,iS,agj,ags,afY,agn]
   rfl
  ·cases h
 ·rename_i m;cases h;cases hx;obtain⟨hf,rfl⟩:=hf;refine⟨(m.map fun y:UInt8=>Value.int .u8 (y.toNat:Int)),false,Builtin.firstCells 1 m.length (.string (fe m)), ?_,by simp,fun w1 _=> ?_,fun base sLen sCap=> ?_⟩
  ·exact cL.bytes ρ m
  ·simp only[Builtin.firstCells,Sem.run_pure]
   congr 1
   apply Array.ext'
   have hlen:(fe m).extract 0 m.length=fe m:=by
    have h:(fe m).extract 0 (fe m).size=fe m:=ByteArray.extract_zero_size
    rwa [hE]at h
   rw[hlen];simp[fe]
  ·simp only[Builtin.append_,agP,afX,agb,Sem.run_bind,agd hu,agd hf,Result.andThen_ok,jM,Sem.run_pure,Builtin.lenOf,iS,agj,ags,afY,agn,hE]
   rfl
 ·rename_i j m;simp only[aO,agw]at h
  split at h
  ·rename_i hm;cases h;cases hx;obtain⟨j2,hf⟩:=hf
   have hn:IntKind.i64.wrap (Int.ofNat n)=n:=by
    show IntKind.i64.wrap (n:Int)=n;exact IntWalk.i64_in _ (by omega)
   have FW:∀w1:World,(zeroValue e).run P w1= .ok z' w1:=fun w1=>by simp[zeroValue,typeInfo,hi,hz]
   refine⟨(List.replicate n z'.cells.toList).flatten,true,(if n*size=0 then pure #[]else do pure (Builtin.zeroCells (<-zeroValue e).cells n)), ?_, ?_,fun w1 _=> ?_,fun base sLen sCap=> ?_⟩
   ·exact(rk ρ).flatten n
   ·simp[hsz]
   ·split
    ·rename_i h0
     have:(List.replicate n z'.cells.toList).flatten=[]:=by
      apply agu.1;simp[hsz,h0]
     rw[this];rfl
    ·simp only[Sem.run_bind,FW,Result.andThen_ok,Sem.run_pure]
     congr 1
     apply Array.ext';rw[Builtin.zeroCells,ahj,ahT];exact kI z'.cells n
   ·have h1:¬((n:Int)<0):=by omega
    have h2:¬((n:Int)*i.bytes>2^48):=by
     have h3:n*i.bytes<=1099511627776*256:=Nat.mul_le_mul hm (hb rfl);have h4:=Int.ofNat_le.2 h3;rw[Int.natCast_mul]at h4;exact fun h5=>absurd (Int.lt_of_lt_of_le h5 h4) (by decide)
    simp only[Builtin.append_,agP,afX,agb,Sem.run_bind,agd hu,agd hf,Result.andThen_ok,jM,Sem.run_pure,asInt,asIntOf,hn,Sem.run_ite,typeInfo,run_program,hi,
     agf h1,agf h2,aia,iS,ags,agm,afY,agn]
    rfl
  ·cases h
 ·cases h
end
def St.drop (st:St)(b:Nat):St:=⟨st.mem.put b none,st.next⟩
def cy (e size bytes:Nat)(s:CV)(src:Option (Nat×List CV))(st:St):OR:=
 match s,src with
 | .aa,some (n,t)=>bk (Nat.beq n 0) (.ok .aa st)
  (bk (Bool.and (Nat.ble 1 size) (Bool.and (Nat.ble (Nat.mul n bytes) 140737488355328) (Nat.ble n 140737488355328)))
   (.ok (.slice st.next 0 n n size) ⟨st.mem.put st.next (some (.cells t e true)),st.next+1⟩) .bad)
 | .slice b off len cap grow,some (n,t)=>
   bk (Nat.beq n 0) (bk (Nat.ble len cap) (.ok (.slice b off len cap grow) st) .bad)
    (j9 (Nat.add len n) fun need=>
     bk (Nat.ble need cap)
      (match st.mem.get b with
      |some (.cells s ty g)=>bk (bu t) (Option.rec .bad (fun s'=> .ok (.slice b off need cap grow) ⟨st.mem.put b (some (.cells s' ty g)),st.next⟩) (dM s (off+len*size) t)) .bad
      |_=> .bad)
      (bk (Bool.and (Nat.ble 1 size) (Bool.and (Nat.ble (Nat.mul need bytes) 140737488355328) (Nat.ble need 140737488355328)))
       (match st.mem.get b with
       |some (.cells s ty _)=>
        (match fG s off (len*size)with
        |some olds=>(fun nx l=>
         bk (Nat.beq grow 0) (.ok (.slice st.next 0 need need size) ⟨st.mem.put st.next (some (.cells l e true)),nx⟩)
          (bk (Bool.and (Nat.beq off 0) (Bool.and (Nat.beq grow size) (Bool.and (Nat.beq ty e) (Bool.and (bu t) (Nat.ble 1 cap)))))
           (.ok (.slice st.next 0 need need size) ⟨(st.mem.put b none).put st.next (some (.cells l e true)),nx⟩) .bad)) (st.next+1) (olds++t)
        |none=> .bad)
       |_=> .bad) .bad))
 |_,_=> .bad
section
variable {P:Program} {ρ:Ren} {st st':St} {w:World} {v:CV}
theorem aY.drop (h:WR ρ st w)(b:Nat):aY ρ st w ρ (st.drop b) w:=by
 have hold:∀q blk,(st.drop b).mem.get q=some blk->st.mem.get q=some blk:=fun q blk hq=>by
  by_cases e:q=b
  ·subst e;simp only[St.drop,PT.dF]at hq;cases hq
  ·simpa only[St.drop,PT.dh _ _ _ _ e]using hq
 exact⟨⟨fun q blk r sz hq=>h.ji q blk r sz (hold q blk hq),fun q q' blk dz r s s' h1 h2=>h.inj q q' blk dz r s s' (hold q blk h1) (hold q' dz h2),h.fresh⟩,
  fun _ _ h=>h,fun _ _ h=>h,aga _,fun q blk _ sz h1 h2=> .inl ⟨q,blk,sz,hold q blk h1,h2⟩,fun _ _ _=>rfl,aga _,rfl,rfl⟩
theorem iH {e size n need sLen sCap:Nat}{zeros:Bool}{appended:Sem (Array Value)}{base:Option Addr}{s x:Value}{i:TypeInfo}{z':Value}{vs olds:List Value}(hn:need=sLen+n)(KN:sCap<need)
 (h63:need<=140737488355328) (hb:need*i.bytes<=140737488355328) (hi:P.info? e=some i) (hz:i.zero=some z') (ha:∀w1:World,w1.heap=w.heap->appended.run P w1= .ok vs.toArray w1)
 (ho:∀w1:World,w1.heap=w.heap->(Builtin.firstCells size sLen s).run P w1= .ok olds.toArray w1):
 (iS e size zeros n appended base sLen sCap s x).run P w=
  .ok (.slice (some ⟨w.heap.size,0,none⟩) need (grownCap w need sCap e))
   {w with drawn:=w.drawn+1,heap:=w.heap.push (.cells (olds.toArray++vs.toArray++Builtin.zeroCells z'.cells (grownCap w need sCap e-need)) e)}:=by
 subst hn;have h1:¬(sLen+n<=sCap):=by omega
 have KI:IntKind.i64.max=9223372036854775807:=by decide
 have h2:¬(((sLen+n:Nat):Int)>IntKind.i64.max):=by rw[KI];omega
 have h3:¬(Builtin.nextslicecap (sLen+n) sCap*i.bytes>2^48):=by
  have:=growslice_fits (bytes:=i.bytes) KN hb;exact fun h=>absurd (ago h this) (by decide)
 have h4:=ha {w with drawn:=w.drawn+1} rfl;have h5:=ho {w with drawn:=w.drawn+1} rfl;simp only[iS,Sem.run_ite,agf h1,Sem.run_bind,typeInfo,run_program,Result.andThen_ok,hi,Sem.run_pure,h2,false_and,agn,agf h3,run_choose,Question.forced,afY,run_askRoom,h4,h5,zeroValue,hz,newRow,run_newObj]
 rfl
theorem Cd (z':Value)(k:Nat):(Builtin.zeroCells z'.cells k).size=k*z'.cells.size:=by simp[Builtin.zeroCells]
theorem yl (w:World)(need wQ:Nat)(e:TypeId):need<=grownCap w need wQ e:=by show need<=need+_;omega
theorem aY.grown {e size need sCap:Nat}{z':Value}{l:List CV}{vs:List Value}(hw:WR ρ st w)(hl:cL ρ (row l) vs)(hlen:vs.length=need*size)(hsz:z'.cells.size=size)(h1:1<=size):
 ∃ρ',VR ρ' (.slice st.next 0 need need size) (.slice (some ⟨w.heap.size,0,none⟩) need (grownCap w need sCap e))/\
  aY ρ st w ρ' ⟨st.mem.put st.next (some (.cells l e true)),(st.next+1)⟩ {w with drawn:=w.drawn+1,heap:=w.heap.push (.cells (vs.toArray++Builtin.zeroCells z'.cells (grownCap w need sCap e-need)) e)}:=by
 have Ca:=yl w need sCap e;have iJ:∀b x,ρ b=some x->b≠st.next:=fun b x hx e=>by have:=hw.fresh b x hx;rw[e]at this;omega
 have yc:l.length=vs.length:=by rw[hl.len]
 have jM:(vs.toArray++Builtin.zeroCells z'.cells (grownCap w need sCap e-need)).size=grownCap w need sCap e*size:=by
  rw[Array.size_append,Cd,hsz,ahK,hlen,<-ahm];congr 1;omega
 have hb:=BR.cells (ρ:=ρ) l e true (vs.toArray++Builtin.zeroCells z'.cells (grownCap w need sCap e-need)) 0 0 (by
  rw[jM,yc,hlen];exact agS _ Ca) (by
  rw[yc,Array.toList_append,aht (by simp)];exact hl) (by omega) (by intros;omega)
 have hle:ρ.le (ρ.set st.next (w.heap.size,grownCap w need sCap e*size)):=fun b _ hr=>by rw[Ren.bX _ _ _ _ (iJ b _ hr)];exact hr
 have ha:=aY.new (hw.wv (w':={w with drawn:=w.drawn+1}) rfl) (sz:=grownCap w need sCap e*size) ((jM▸hb).mono hle);refine⟨_, .lu _ 0 0 need need (grownCap w need sCap e) size _ _ ha.2 h1 (aga _) Ca (fun _=>rfl) (by omega),(aY.draw hw (w.drawn+1)).trans ha.1⟩
theorem iG {e size n sLen sCap:Nat}{zeros:Bool}{appended:Sem (Array Value)}{a:Addr}{s x:Value}{vs:List Value}{w':World}(hle:sLen+n<=sCap)
 (ha:appended.run P w= .ok vs.toArray w) (hs:(storeCells (a.add (sLen*size)) vs).run P w= .ok () w'):
 (iS e size zeros n appended (some a) sLen sCap s x).run P w= .ok (.slice (some a) (sLen+n) sCap) w':=by
 simp only[iS,agl hle,Sem.run_bind,ha,Result.andThen_ok,hs,Sem.run_pure]
theorem tQ {k:yI}{t u ty e size bytes:Nat}{i:TypeInfo}{z:List CV}{z':Value}{s x:CV}{s' x':Value}(h:cy e size bytes s (dJ k size z x st) st= .ok v st')(hw:WR ρ st w)(hs:VR ρ s s')(hx:VR ρ x x')
 (hf:vq P k u size) (hu:P.underlying t=some (.slice e)) (hi:P.info? e=some i) (hz:i.zero=some z') (NW:i.size=size) (hsz:z'.cells.size=size) (rk:∀ρ,cL ρ z z'.cells.toList) (hb:i.bytes=bytes) (hb2:k= .zeros->bytes<=256):
 bh P (Builtin.append_ #[t,u] ty #[s',x']) ρ st w v st':=by
 unfold cy at h
 split at h
 ·
   rename_i n tt zP;obtain⟨vs,zeros,appended,g1,g2,g3,g4⟩:=um (P:=P) (w:=w) (ty:=ty) zP hw hx hf hu hi hz NW hsz rk (fun hk=>by rw[hb];exact hb2 hk);cases hs;simp only[aO,agp,agA,agw]at h
   split at h
   ·rename_i hn;subst hn;cases h;refine bh.still hw ?_ .aa;rw[g4];simp only[iS,ahC,aga,ags,Sem.run_bind,g3 w rfl,Result.andThen_ok,Sem.run_pure]
   ·rename_i hn
    split at h
    ·rename_i hc;cases h;obtain⟨c1,c2,c3⟩:=hc;have c2':n*i.bytes<=140737488355328:=by rw[hb];exact c2
     have ie:=iH (P:=P) (w:=w) (e:=e) (size:=size) (n:=n) (need:=n) (sLen:=0) (sCap:=0) (zeros:=zeros) (base:=none) (s:= .slice none 0 0) (x:=x') (olds:=[]) (by omega) (by omega) c3 c2' hi hz g3 (fun w1 _=>by simp[Builtin.firstCells]);obtain⟨ρ',k1,k2⟩:=aY.grown (e:=e) (sCap:=0) hw g1 g2 hsz c1;refine⟨_,_,ρ',by rw[g4,ie],k1, ?_⟩
     simpa using k2
    ·cases h
 ·rename_i b off len cap grow n tt zP;obtain⟨vs,zeros,appended,g1,g2,g3,g4⟩:=um (P:=P) (w:=w) (ty:=ty) zP hw hx hf hu hi hz NW hsz rk (fun hk=>by rw[hb];exact hb2 hk);obtain⟨r,sz,cx,cap',rfl,hr,c1,c2,c3,c4⟩:=hs.eC;have hvt:tt.length=n*size:=by rw[g1.len,g2]
  simp only[aO,agA,dj]at h
  split at h
  ·
    rename_i hn;subst hn
    split at h
    ·rename_i hle;rw[agw]at hle;cases h;have hv:vs=[]:=by apply agu.1;rw[g2];omega
     subst hv;refine bh.still hw ?_ hs;rw[g4,iG (by omega) (g3 w rfl) rfl];rfl
    ·cases h
  ·rename_i hn
   split at h
   ·
     rename_i hle;rw[agw]at hle;have KK:len+n<=cap:=hle;have ho:=c1 (by omega);subst ho
     split at h
     ·rename_i sg tg gg hm
      split at h
      ·rename_i kR;cases te:dM sg (cx+len*size) tt with
       |none=>rw[te]at h;cases h
       |some s2=>
        rw[te]at h;cases h;obtain⟨w',k1,k2⟩:=aY.write (P:=P) hw hm hr te g1 kR;refine⟨_,w',ρ,by rw[g4,iG (by omega) (g3 w rfl) (by rw[gL];exact k1)], ?_,k2⟩;show VR ρ (.slice b cx (len+n) cap grow) _
        by_cases hg:grow=0
        ·obtain⟨e1,_⟩:=c3 hg;subst hg;subst e1;exact .slice _ _ _ _ r sz hr
        ·obtain⟨d1,d2⟩:=c4 (by omega);exact .lu _ _ cx _ _ cap' grow r sz hr (by omega) KK c2 (fun _=>rfl) d1
      ·cases h
     ·cases h
   ·rename_i hle;rw[agw]at hle;have KK:¬len+n<=cap:=hle
    split at h
    ·rename_i hc;simp only[agp,agw]at hc;obtain⟨d1,d2,d3⟩:=hc;have Yy:(len+n)*i.bytes<=140737488355328:=by rw[hb];exact d2
     have Yx:len+n<=140737488355328:=d3
     split at h
     ·rename_i sg tg gg hm
      split at h
      ·rename_i olds Xz;obtain⟨c,lo,gK,e1,e2,e3,e4,e5⟩:=hw.row hm hr;have TW:=(gu Xz).1;have Og:=(gu Xz).2;have Xy:=TW;have hln:len*size+n*size=(len+n)*size:=(ahm _ _ _).symm
       split at h
       ·
         rename_i hg;have hg:grow=0:=by simpa using hg
         cases h;obtain⟨f1,f2⟩:=c3 hg;subst f1;subst f2
         have NR:cL ρ (olds++tt) ((c.toList.drop cx).take (len*size)++vs):=by
          refine cL.app ?_ g1;rw[show olds=(sg.drop cx).take (len*size)from Og]
          have ee:(c.toList.drop cx).take (len*size)=((c.toList.take sg.length).drop cx).take (len*size):=by
           rw[ahs,agV,agD (by omega)]
          rw[ee];exact(e4.drop cx).take _
         have hlen:((c.toList.drop cx).take (len*size)++vs).length=(len+n)*size:=by
          rw[agq,agy,ahd,ahx,g2];omega
         have ie:=iH (P:=P) (w:=w) (e:=e) (size:=size) (n:=n) (need:=len+n) (sLen:=len) (sCap:=cap') (zeros:=zeros) (base:=some ⟨r,cx,none⟩) (s:= .slice (some ⟨r,cx,none⟩) len cap') (x:=x') (olds:=(c.toList.drop cx).take (len*size)) rfl (by omega) Yx Yy hi hz g3
          (fun w1 Eh=>cZ P w1 r cx (len*size) c tg (lo,gK) (by rw[Eh];exact e1) (by omega))
         obtain⟨ρ',k1,k2⟩:=aY.grown (e:=e) (sCap:=cap') hw NR hlen hsz d1;refine⟨_,_,ρ',by rw[g4,ie],k1, ?_⟩;have:(((c.toList.drop cx).take (len*size)).toArray++vs.toArray)=((c.toList.drop cx).take (len*size)++vs).toArray:=by simp
         rw[this];exact k2
       ·split at h
        ·
          rename_i Qr hg;have Qr:grow≠0:=by simpa using Qr
          simp only[agp,agA,agw]at hg;obtain⟨rfl,rfl,rfl,kR,Ca⟩:=hg;cases h;obtain⟨f1,f2⟩:=c4 (by omega);have ho:cx=0:=c1 (by omega);subst ho
          have NR:cL ρ (olds++tt) (c.toList.take (len*grow)++vs):=by
           refine cL.app ?_ g1;rw[show olds=(sg.drop 0).take (len*grow)from Og,agC]
           have ee:c.toList.take (len*grow)=(c.toList.take sg.length).take (len*grow):=by
            rw[agV,agD (by omega)]
           rw[ee];exact e4.take _
          have hlen:(c.toList.take (len*grow)++vs).length=(len+n)*grow:=by
           rw[agq,agy,ahx,g2];omega
          by_cases En:len+n<=cap'
          ·have EC:(len+n)*grow<=sz:=aha (agS _ En) (by omega)
           have Of:∀v∈vs,v.oneCell'=true:=fun v hm'=>by
            obtain⟨j,hj,rfl⟩:=ahb hm';have:=g1.len▸hj;exact lI (g1.ji j tt[j] _ (by simp) (by simp)) (lH tt kR _ (agx _))
           have kQ:=fy P r (0+len*grow) tg lo gK vs 0 c w e1 e5 (by rw[g2];omega) Of;have ku:=setRow_heap w r c (c.toList.take (0+len*grow+0)++vs++c.toList.drop (0+len*grow+0+vs.length)).toArray tg (lo,gK) e1
           have hcs:(c.toList.take (0+len*grow+0)++vs++c.toList.drop (0+len*grow+0+vs.length)).toArray.size=sz:=by
            simp only[ahK,agq,agy,ahd,ahx];omega
           have iJ:∀b x,ρ b=some x->b≠st.next:=fun b x hx e=>by have:=hw.fresh b x hx;rw[e]at this;omega
           have Uu:ρ.le (ρ.set st.next (r,sz)):=fun q _ hq=>by rw[Ren.bX _ _ _ _ (iJ q _ hq)];exact hq
           have yc:(olds++tt).length=(len+n)*grow:=by rw[NR.len,hlen]
           have F9:=BR.cells (ρ:=ρ) (olds++tt) tg true (c.toList.take (0+len*grow+0)++vs++c.toList.drop (0+len*grow+0+vs.length)).toArray lo gK (by rw[hcs,yc];exact EC)
            (by
             rw[yc,show(c.toList.take (0+len*grow+0)++vs++c.toList.drop (0+len*grow+0+vs.length)).toArray.toList=c.toList.take (0+len*grow+0)++vs++c.toList.drop (0+len*grow+0+vs.length)from rfl];rw[aht (by simpa using hlen)]
             simpa using NR) (by rw[hcs];rw[e2]at e5;exact e5) (fun h=>by cases h)
           rw[hcs]at F9;have ha:=aY.move hw hm hr ku (F9.mono Uu) (fun k hk=>lz w r _ k hk) (my w r _) rfl rfl;refine⟨_,_,_,by rw[g4,iG En (g3 w rfl) (by rw[gL];exact kQ)], ?_,ha⟩;exact .lu _ _ 0 _ _ cap' grow r sz (Ren.cE _ _ _) (by omega) (aga _) En (fun _=>rfl) (by omega)
          ·have ie:=iH (P:=P) (w:=w) (e:=tg) (size:=grow) (n:=n) (need:=len+n) (sLen:=len) (sCap:=cap') (zeros:=zeros) (base:=some ⟨r,0,none⟩) (s:= .slice (some ⟨r,0,none⟩) len cap') (x:=x') (olds:=c.toList.take (len*grow)) rfl (by omega) Yx Yy hi hz g3
            (fun w1 Eh=>by
             have:=cZ P w1 r 0 (len*grow) c tg (lo,gK) (by rw[Eh];exact e1) (by omega);rw[agC]at this;exact this)
           have hd:=aY.drop hw b;obtain⟨ρ',k1,k2⟩:=aY.grown (st:=st.drop b) (e:=tg) (sCap:=cap') hd.wr NR hlen hsz d1;refine⟨_,_,ρ',by rw[g4,ie],k1, ?_⟩;have:((c.toList.take (len*grow)).toArray++vs.toArray)=(c.toList.take (len*grow)++vs).toArray:=by simp
           rw[this];exact hd.trans k2
        ·cases h
      ·cases h
     ·cases h
    ·cases h
 ·cases h
end
def zL (x:CV):Option Nat:=match x with| .aa=>some 0| .slice _ _ len _ _=>some len| .str l=>some l.length|_=>none
def cellsOf (str:Bool)(size n:Nat)(x:CV)(st:St):Option (List CV):=
 bk str (match x with| .str l=>if n<=l.length then some ((l.take n).map bo)else none|_=>none) (cY size n x st)
def yq (s:List CV)(off:Nat)(t:List CV)(lim:Nat):Option (List CV):=
 if off<=s.length/\s.length<=off+t.length/\off+t.length<=lim then some (s.take off++t)else none
def jF (str:Bool)(size:Nat)(d s:CV)(st:St):OR:=
 match d,zL s with
 | .aa,some _=>(match cellsOf str size 0 s st with|some _=>ri .i64 st 0|none=> .bad)
 | .slice b off len cap grow,some m=>(fun n=>
  (match cellsOf str size n s st with
  |some t=>bk (Nat.beq n 0) (ri .i64 st 0)
   (bk (Bool.and (bu t) (Bool.or (Nat.beq grow 0) (Nat.ble 1 cap)))
    (match st.mem.get b with
    |some (.cells s ty g)=>Option.rec (Option.rec .bad (fun s'=>ri .i64 ⟨st.mem.put b (some (.cells s' ty g)),st.next⟩ n) (yq s off t (off+cap*grow))) (fun s'=>ri .i64 ⟨st.mem.put b (some (.cells s' ty g)),st.next⟩ n) (dM s off t)
    |_=> .bad) .bad)
  |none=> .bad)) (min m len)
 |_,_=> .bad
section
variable {P:Program} {ρ:Ren} {st st':St} {w:World} {v:CV}
theorem aY.grow {b:Nat}{s t s':List CV}{ty:TypeId}{g:Bool}{off lim r sz:Nat}{vs:List Value}(h:WR ρ st w)
 (h1:st.mem.get b=some (.cells s ty g)) (h2:ρ b=some (r,sz)) (hw:yq s off t lim=some s') (Ot:lim<=sz) (hv:cL ρ t vs) (ho:bu t=true):
 ∃w',(storeCells ⟨r,off,none⟩ vs).run P w= .ok () w'/\aY ρ st w ρ (st.set b (.cells s' ty g)) w':=by
 obtain⟨c,lo,hi,e1,e2,e3,e4,e5⟩:=h.row h1 h2;unfold yq at hw
 split at hw
 ·rename_i hh;obtain⟨a1,PA,Wb⟩:=hh;cases hw;have hlen:vs.length=t.length:=by rw[<-hv.len]
  have kR:∀v∈vs,v.oneCell'=true:=fun v hm=>by
   obtain⟨i,gK,rfl⟩:=ahb hm;have:=hv.len▸gK;exact lI (hv.ji i t[i] _ (by simp) (by simp)) (lH t ho _ (agx _))
  have ie:=fy P r off ty lo hi vs 0 c w e1 e5 (by omega) kR;refine⟨_,ie, ?_⟩
  have qf:(s.take off++t).length=off+t.length:=by
   rw[agq,agy];omega
  have ku:=setRow_heap w r c (c.toList.take (off+0)++vs++c.toList.drop (off+0+vs.length)).toArray ty (lo,hi) e1
  have hcs:(c.toList.take (off+0)++vs++c.toList.drop (off+0+vs.length)).toArray.size=sz:=by
   simp only[ahK,agq,agy,ahd,ahx];omega
  refine aY.set h h1 h2 ku ?_ (fun k hk=>lz w r _ k hk) (my w r _) rfl rfl;have hb:=BR.cells (ρ:=ρ) (s.take off++t) ty g (c.toList.take (off+0)++vs++c.toList.drop (off+0+vs.length)).toArray lo hi (by rw[hcs,qf];omega) ?_ (by rw[hcs];rw[e2]at e5;exact e5) (h.Nh h1 h2 e1)
  ·rw[hcs]at hb;exact hb
  ·rw[qf]
   have e:(c.toList.take (off+0)++vs++c.toList.drop (off+0+vs.length)).toArray.toList.take (off+t.length)=(c.toList.take s.length).take off++vs:=by
    simp only[ahC];rw[aht (by simp only[agq,agy,ahx];omega),agV,agD a1]
   rw[e];exact(e4.take off).app hv
 ·cases hw
theorem nR {str:Bool}{size n:Nat}{x:CV}{x':Value}{t:List CV}(h:cellsOf str size n x st=some t)(hn:∀m,zL x=some m->n<=m)(hw:WR ρ st w)(hx:VR ρ x x')(hs:str=true->size=1):
 ∃vs,cL ρ t vs/\vs.length=n*size/\(Builtin.firstCells size n x').run P w= .ok vs.toArray w:=by
 unfold cellsOf at h;rw[aO]at h
 split at h
 ·rename_i Tq;have hs:=hs Tq;subst hs
  split at h
  ·rename_i l
   split at h
   ·rename_i hle;cases h;cases hx;refine⟨((l.take n).map fun y:UInt8=>Value.int .u8 (y.toNat:Int)),cL.bytes ρ _,by simp;omega, ?_⟩
    ·simp only[Builtin.firstCells,Sem.run_pure]
     congr 1
     apply Array.ext';rw[oN];simp[fe]
   ·cases h
  ·cases h
 ·obtain⟨vs,g1,g2,g3⟩:=iF (P:=P) h (fun e he iJ=>by subst he;have:=hn 0 rfl;omega) hw hx;exact⟨vs,g1,g2,g3 w rfl⟩
theorem qy {str:Bool}{size:Nat}{dT sT ty e:TypeId}{i:TypeInfo}{d s:CV}{d' s':Value}(h:jF str size d s st= .ok v st')(hw:WR ρ st w)(hd:VR ρ d d')(hs:VR ρ s s')
 (hu:P.underlying dT=some (.slice e)) (hi:P.info? e=some i) (hsz:i.size=size) (h1:str=true->size=1):bh P (Builtin.copy_ #[dT,sT] ty #[d',s']) ρ st w v st':=by
 have jM:(Go.sizeOf e).run P w= .ok size w:=by simp[Go.sizeOf,typeInfo,hi,hsz]
 have hlen:∀m,zL s=some m->(Builtin.lenOf s').run P w= .ok m w:=fun m hm=>by
  unfold zL at hm
  split at hm
  ·cases hm;cases hs;rfl
  ·cases hm;obtain⟨r,sz,cx,cap',rfl,_⟩:=hs.eC;rfl
  ·cases hm;cases hs;simp[Builtin.lenOf]
  ·cases hm
 unfold jF at h
 split at h
 ·rename_i m hm
  split at h
  ·rename_i t ht;cases h;cases hd;obtain⟨vs,g1,g2,g3⟩:=nR (P:=P) ht (fun _ _=>Nat.zero_le _) hw hs h1;refine bh.still hw ?_ (.int _ _);simp[Builtin.copy_,agd hu,hlen m hm,jM,g3,goInt]
  ·cases h
 ·rename_i b off len cap grow m hm;obtain⟨r,sz,cx,cap',rfl,hr,c1,c2,c3,c4⟩:=hd.eC;dsimp only at h
  split at h
  ·rename_i t ht;obtain⟨vs,g1,g2,g3⟩:=nR (P:=P) ht (fun m' hm'=>by rw[hm]at hm';cases hm';exact Nat.min_le_left _ _) hw hs h1;simp only[aO,agA,agp,agU,agw]at h;have KH:Nat.min m len=min m len:=rfl
   split at h
   ·rename_i h0;cases h;have hv:vs=[]:=by apply agu.1;rw[g2,h0,Nat.zero_mul]
    subst hv;refine bh.still hw ?_ (.int _ _);rw[h0]at g3;simp[Builtin.copy_,agd hu,hlen m hm,KH,h0,jM,g3,goInt,storeCells]
   ·rename_i h0
    split at h
    ·rename_i hg
     have ho:cx=off:=by
      rcases hg.2 with hg|hg
      ·exact(c3 hg).2
      ·exact c1 (by omega)
     subst ho
     split at h
     ·rename_i sg tg gg oI;cases te:dM sg cx t with
      |none=>
       rw[te]at h;dsimp only at h;cases hx:yq sg cx t (cx+cap*grow)with
       |none=>rw[hx]at h;cases h
       |some s2=>
        rw[hx]at h;cases h
        by_cases Qr:grow=0
        ·subst Qr;unfold yq at hx
         split at hx
         ·rename_i hh;exfalso;obtain⟨a1',PA,Wb⟩:=hh;unfold dM at te;rw[agl (by omega)]at te;cases te
         ·cases hx
        ·obtain⟨f1,f2⟩:=c4 (by omega)
         have Ot:cx+cap*grow<=sz:=by
          show cx+cap*grow<=sz;have:=agS grow c2;omega
         obtain⟨w',k1,k2⟩:=aY.grow (P:=P) hw oI hr hx Ot g1 hg.1;refine⟨_,w',ρ, ?_, .int .i64 _,k2⟩;simp[Builtin.copy_,agd hu,hlen m hm,KH,jM,g3,k1,goInt]
      |some s2=>
       rw[te]at h;cases h;obtain⟨w',k1,k2⟩:=aY.write (P:=P) hw oI hr te g1 hg.1;refine⟨_,w',ρ, ?_, .int .i64 _,k2⟩;simp[Builtin.copy_,agd hu,hlen m hm,KH,jM,g3,k1,goInt]
     ·cases h
    ·cases h
  ·cases h
 ·cases h
def vR (z:List CV)(x:CV)(st:St):OR:=
 match x with
 | .aa=> .ok .undef st
 | .slice b off len cap grow=>bk (Nat.beq len 0) (.ok .undef st)
  (bk (Bool.or (Nat.beq grow 0) (Nat.ble 1 cap))
   (match st.mem.get b with
   |some (.cells s ty g)=>(fun t=>bk (bu t) (Option.rec .bad (fun s'=> .ok .undef ⟨st.mem.put b (some (.cells s' ty g)),st.next⟩) (dM s off t)) .bad) (cM len z)
   |_=> .bad) .bad)
 |_=> .bad
theorem vQ {t ty e:TypeId}{i:TypeInfo}{z:List CV}{z':Value}{x:CV}{x':Value}(h:vR z x st= .ok v st')(hw:WR ρ st w)(hx:VR ρ x x')
 (hu:P.underlying t=some (.slice e)) (hi:P.info? e=some i) (hz:i.zero=some z') (rk:∀ρ,cL ρ z z'.cells.toList):bh P (Builtin.clear_ #[t] ty #[x']) ρ st w v st':=by
 have Mm:VR ρ .undef (.tuple #[]):= .undef;have FW:(zeroValue e).run P w= .ok z' w:=by simp[zeroValue,typeInfo,hi,hz]
 unfold vR at h
 split at h
 ·cases h;cases hx;exact bh.still hw (by simp[Builtin.clear_,agd hu]) Mm
 ·rename_i b off len cap grow;obtain⟨r,sz,cx,cap',rfl,hr,c1,c2,c3,c4⟩:=hx.eC;simp only[aO,agA,agU,agw]at h
  split at h
  ·rename_i h0;subst h0;cases h;exact bh.still hw (by simp[Builtin.clear_,agd hu]) Mm
  ·rename_i h0
   split at h
   ·rename_i hg
    have ho:cx=off:=by
     rcases hg with hg|hg
     ·exact(c3 hg).2
     ·exact c1 (by omega)
    subst ho
    split at h
    ·rename_i sg tg gg hm
     split at h
     ·rename_i kR;cases te:dM sg cx (cM len z)with
      |none=>rw[te]at h;cases h
      |some s2=>
       rw[te]at h;cases h
       have hv:cL ρ (cM len z) (Builtin.zeroCells z'.cells len).toList:=by
        rw[Builtin.zeroCells,ahj,ahT,kI];exact(rk ρ).flatten len
       obtain⟨w',k1,k2⟩:=aY.write (P:=P) hw hm hr te hv kR;refine⟨_,w',ρ, ?_, .undef,k2⟩;obtain⟨Kc,rfl⟩:∃k,len=k+1:=⟨len-1,by omega⟩;simp[Builtin.clear_,agd hu,FW,k1]
     ·cases h
    ·cases h
   ·cases h
 ·cases h
def GG (mx:Bool)(x y:CV)(st:St):OR:=
 match x,y with
 | .int k a, .int j b=>bk (decide (k=j)) (.ok (.int k (if mx then (if a<b then b else a)else (if b<a then b else a))) st) .bad
 |_,_=> .bad
theorem uC {mx:Bool}{x y:CV}{x' y':Value}{ats:Array TypeId}{ty:TypeId}(h:GG mx x y st= .ok v st')(hw:WR ρ st w)(hx:VR ρ x x')(hy:VR ρ y y'):
 bh P (bif mx then Builtin.max_ ats ty #[x',y']else Builtin.min_ ats ty #[x',y']) ρ st w v st':=by
 unfold GG at h
 split at h
 ·rename_i k a j b;rw[aO]at h
  split at h
  ·rename_i hk;rw[xV]at hk;subst hk;cases h;cases hx;cases hy;refine bh.still hw ?_ (.int _ _);cases mx
   ·simp only[cond_false,Builtin.min_,List.foldlM_cons,List.foldlM_nil,Builtin.min2,bind_pure,Sem.run_pure]
    rfl
   ·simp only[cond_true,Builtin.max_,List.foldlM_cons,List.foldlM_nil,Builtin.max2,bind_pure,Sem.run_pure]
    rfl
  ·cases h
 ·cases h
def xp (x y:CV):Bool:=
 match x,y with
 | .bool a, .bool b=>a==b
 | .int j a, .int k b=>decide (j=k)&&decide (a=b)
 | .str a, .str b=>a==b
 |_,_=>false
def ur:List CV->List CV->Bool
 |[],[]=>true
 |v::r,u::t=>xp v u&&ur r t
 |_,_=>false
def uu (x y:CV):Bool:=match x,y with| .agg s, .agg t=>ur s t|x,y=>xp x y
theorem qu {x y:CV}{x' y':Value}(h:xp x y=true)(hx:VR ρ x x')(hy:VR ρ y y')(n:Nat):x'=y'/\Instr.sameBits n x' y'=true:=by
 unfold xp at h
 split at h
 ·cases hx;cases hy;rw[beq_iff_eq]at h;subst h;exact⟨rfl,by simp[Instr.sameBits]⟩
 ·simp only[agp,ahB]at h;cases hx;cases hy;obtain⟨rfl,rfl⟩:=h;exact⟨rfl,by simp[Instr.sameBits]⟩
 ·cases hx;cases hy;rw[beq_iff_eq]at h;subst h;exact⟨rfl,by simp[Instr.sameBits,beq_toListBytes]⟩
 ·cases h
theorem xq (n:Nat):∀(s t:List CV) (l m:List Value),ur s t=true->cL ρ s l->cL ρ t m->l=m/\(l.zip m).all (fun (x,y)=>Instr.sameBits n x y)=true:=by
 intro s
 induction s with
 |nil=>
  intro t l m h h1 h2;cases t with
  |cons _ _=>simp[ur]at h
  |nil=>
   have a:=agu.1 h1.len.symm;have b:=agu.1 h2.len.symm;subst a;subst b;exact⟨rfl,rfl⟩
 |cons v r ih=>
  intro t l m h h1 h2;cases t with
  |nil=>simp[ur]at h
  |cons u r'=>
   simp only[ur,agp]at h;obtain⟨v',l',rfl,a1,a2⟩:=cL.inv (l:=r) h1;obtain⟨u',m',rfl,b1,b2⟩:=cL.inv (l:=r') h2;obtain⟨rfl,s1⟩:=qu h.1 a1 b1 n;obtain⟨rfl,s2⟩:=ih r' l' m' h.2 a2 b2;exact⟨rfl,by simp only[List.zip_cons_cons,List.all_cons,s1,s2,Bool.and_true]⟩
theorem qv {x y:CV}{x' y':Value}(h:uu x y=true)(hx:VR ρ x x')(hy:VR ρ y y'):x'=y'/\Instr.sameBits 10000 x' y'=true:=by
 unfold uu at h
 split at h
 ·rename_i s t
  cases hx with|agg _ l hl hh=>cases hy with|agg _ m hm OI=>
   obtain⟨rfl,h2⟩:=xq (ρ:=ρ) 9999 s t l m h ⟨hl,hh⟩ ⟨hm,OI⟩;refine⟨rfl, ?_⟩;show Instr.sameBits (9999+1) _ _=true;simp only[Instr.sameBits,beq_self_eq_true,Bool.true_and];exact h2
 ·exact qu h hx hy 10000
end
abbrev eK:=CV×CV×Nat
def ir (d:gH)(k:CV)(es:List eK):Nat->Option (Option (Nat×CV)):=
 List.rec (motive:=fun _=>Nat->Option (Option (Nat×CV))) (fun _=>some none)
  (fun e _ ih i=>Option.rec none (fun b=>bk b (some (some (i,e.2.1))) (ih (Nat.succ i))) (jx d k e.1)) es
def NG (d:gH):Bool:=match d with| .bool| .int| .str| .bytes _=>true| .struct _| .array .. =>true|_=>false
def qG (d:gH)(k:CV):Bool:=Bool.and (NG d) (Option.rec false (fun b=>b) (jx d k k))
section
variable {P:Program} {ρ:Ren} {st st':St} {w:World} {v:CV}
def fC:Nat->gH->Bool
 |0,_=>false
 |_+1, .bool=>true
 |_+1, .int=>true
 |_+1, .str=>true
 |_+1, .bytes _=>true
 |n+1, .struct fs=>A9 n fs
 |n+1, .array _ _ _ e=>fC n e
 |_+1,_=>false
where A9:Nat->Jw->Bool
 |0,_=>false
 |_+1, .nil=>true
 |n+1, .cons _ _ _ d r=>fC n d&&A9 n r
theorem qh {d:gH}{t:TypeId}{k:CV}{k':Value}(hf:wM P w ρ d t 10000)(hk:VR ρ k k'):∀(es:List eK) (es':List MapEntry) (j:Nat) (r:Option (Nat×CV)),es.length=es'.length->
 (∀(i:Nat) (e:eK) (e':MapEntry),es[i]?=some e->es'[i]?=some e'->VR ρ e.1 e'.key/\VR ρ e.2.1 e'.val/\e.2.2=e'.born)->ir d k es j=some r->
 ∃r',(Instr.findAsking t k' es' j).run P w= .ok r' w/\(match r,r' with
  |none,none=>True
  |some (i,u),some (i',u')=>i=i'/\VR ρ u u'/\j<=i/\∃e e',es[i-j]?=some e/\es'[i-j]?=some e'/\e.2.1=u/\e'.val=u'
  |_,_=>False):=by
 intro es
 induction es with
 |nil=>
  intro es' j r hl h hc;have:es'=[]:=by apply agu.1;simpa using hl.symm
  subst this;cases hc;exact⟨none,by simp[Instr.findAsking],trivial⟩
 |cons e es ih=>
  intro es' j r hl h hc;cases es' with
  |nil=>simp at hl
  |cons e' es'=>
   obtain⟨a1,a2,a3⟩:=h 0 e e' rfl rfl;have e0:ir d k (e::es) j=Option.rec none (fun b=>bk b (some (some (j,e.2.1))) (ir d k es (j+1))) (jx d k e.1):=rfl;rw[e0]at hc;cases hq:jx d k e.1 with
   |none=>rw[hq]at hc;cases hc
   |some b=>
    rw[hq]at hc;have hr:(Op.equal t k' e'.key).run P w= .ok b w:=hf k e.1 k' e'.key b hq hk a1;cases b with
    |true=>
     cases hc;exact⟨some (j,e'.val),by simp[Instr.findAsking,hr],rfl,a2,aga _,e,e',by simp,by simp,rfl,rfl⟩
    |false=>
     obtain⟨r',r1,r2⟩:=ih es' (j+1) r (by simpa using hl) (fun i x x' hx wj=>h (i+1) x x' (by simpa using hx) (by simpa using wj)) hc;refine⟨r',by simp[Instr.findAsking,hr,r1], ?_⟩;cases r with
     |none=>cases r' with
      |none=>trivial
      |some _=>exact r2
     |some p=>cases r' with
      |none=>exact r2
      |some p'=>
       obtain⟨i,u⟩:=p;obtain⟨i',u'⟩:=p';obtain⟨b1,b2,b3,x,x',b4,b5,b6,b7⟩:=r2;refine⟨b1,b2,by omega,x,x', ?_, ?_,b6,b7⟩
       ·rw[show i-j=(i-(j+1))+1 by omega];simpa using b4
       ·rw[show i-j=(i-(j+1))+1 by omega];simpa using b5
theorem nN {t:TypeId}{u:TypeDesc}{a b:Value}{q:Bool}(hu:P.underlying t=some u)(h:Instr.sameNow u a b=some q):(Op.equal t a b).run P w= .ok q w:=by
 unfold Instr.sameNow at h
 split at h
 ·split at h
  ·rename_i hk;cases h;subst hk;exact run_equalIn_int w 9999 t _ _ _ _ hu
  ·cases h
 ·cases h;rename_i x y;rw[beq_toListBytes];exact run_equalIn_string w 9999 t x y hu
 ·cases h;exact run_equalIn_bool' w 9999 t _ _ hu
 ·cases h
theorem sG {t:TypeId}{u:TypeDesc}{k':Value}(hu:P.underlying t=some u):∀(es':List MapEntry) (j:Nat) (r:Option (Nat×Value)),Instr.findNow u k' es' j=some r->(Instr.findAsking t k' es' j).run P w= .ok r w:=by
 intro es'
 induction es' with
 |nil=>intro j r h;cases h;simp[Instr.findAsking]
 |cons e es' ih=>
  intro j r h;simp only[Instr.findNow]at h
  split at h
  ·rename_i hs;cases h;simp[Instr.findAsking,nN hu hs]
  ·rename_i hs;simp[Instr.findAsking,nN hu hs,ih _ _ h]
  ·cases h
theorem yo {t:TypeId}{u:TypeDesc}{k':Value}{es':List MapEntry}{r:Option (Nat×Value)}(hu:P.underlying t=some u)(h:(Instr.findAsking t k' es' 0).run P w= .ok r w):(Instr.findKey t k' es').run P w= .ok r w:=by
 simp only[Instr.findKey,Sem.run_bind,agd hu,Result.andThen_ok];cases hn:Instr.findNow u k' es' 0 with
 |none=>exact h
 |some r'=>
  have:=sG (P:=P) (w:=w) hu es' 0 r' hn;rw[this]at h;cases h;rfl
theorem iL {d:gH}{t:TypeId}{f:Nat}{k:CV}{k':Value}{es:List eK}{es':List MapEntry}{r:Option (Nat×CV)}(hd:eh P f t=some d)(hf:f<10000)(hk:VR ρ k k')(hl:es.length=es'.length)
 (h:∀(i:Nat) (e:eK) (e':MapEntry),es[i]?=some e->es'[i]?=some e'->VR ρ e.1 e'.key/\VR ρ e.2.1 e'.val/\e.2.2=e'.born) (hc:ir d k es 0=some r):
 ∃r',(Instr.findKey t k' es').run P w= .ok r' w/\(match r,r' with
  |none,none=>True
  |some (i,u),some (i',u')=>i=i'/\VR ρ u u'/\∃e e',es[i]?=some e/\es'[i]?=some e'/\e.2.1=u/\e'.val=u'
  |_,_=>False):=by
 obtain⟨r',h1,h2⟩:=qh (P:=P) (w:=w) (E6 f t d hd 10000 hf) hk es es' 0 r hl h hc
 have hu:∃u,P.underlying t=some u:=by
  cases f with
  |zero=>cases hd
  |succ f=>
   simp only[eh]at hd;cases hu:P.underlying t with
   |none=>rw[hu]at hd;cases hd
   |some u=>exact⟨u,rfl⟩
 obtain⟨u,hu⟩:=hu;refine⟨r',yo hu h1, ?_⟩;cases r with
 |none=>cases r'<;>exact h2
 |some p=>cases r' with
  |none=>exact h2
  |some p'=>
   obtain⟨i,u⟩:=p;obtain⟨i',u'⟩:=p';obtain⟨b1,b2,b3,x,x',b4,b5,b6,b7⟩:=h2;exact⟨b1,b2,x,x',by simpa using b4,by simpa using b5,b6,b7⟩
def Ik (P:Program)(w:World)(ρ:Ren)(d:gH)(t:TypeId)(n:Nat):Prop:=
 ∀(e:Bool) (x:CV) (x':Value),jx d x x=some true->VR ρ x x'->(Instr.checkKey e n t x').run P w= .ok () w
theorem pI {a b:Option Bool}(h:andThen a b=some true):a=some true/\b=some true:=by
 cases a with
 |none=>cases h
 |some q=>cases q with
  |false=>cases h
  |true=>exact⟨rfl,h⟩
theorem Cr {len size:Nat}{agg:Bool}{e:gH}{s:List CV}:∀(off:Nat),Nat.rec (motive:=fun _=>Nat->Option Bool) (fun _=>some true)
        (fun _ ih off=>Option.rec none (fun a=>Option.rec none (fun b=>andThen (jx e a b) (ih (Nat.add off size))) (fQ agg off size s)) (fQ agg off size s)) len off=some true->
 ∀j,j<len->∃x,fQ agg (off+j*size) size s=some x/\jx e x x=some true:=by
 induction len with
 |zero=>intro off _ j hj;omega
 |succ len ih=>
  intro off h j hj;simp only at h;cases hx:fQ agg off size s with
  |none=>rw[hx]at h;cases h
  |some x=>
   rw[hx]at h;obtain⟨a1,a2⟩:=pI h;cases j with
   |zero=>exact⟨x,by simpa using hx,a1⟩
   |succ j=>
    obtain⟨y,b1,b2⟩:=ih (off+size) a2 j (by omega);exact⟨y,by rw[<-b1];congr 1;rw[Nat.succ_mul];omega,b2⟩
theorem Cq {desc:TypeId->Option gH}{s:List CV}:∀(fs:List Field) (r:Jw),kb P desc fs=some r->wE r s s=some true->
 ∀f∈fs,f.name≠ "_" /\∃i u d x,P.info? f.type=some i/\P.underlying f.type=some u/\desc f.type=some d/\fQ (fj u) f.offset i.size s=some x/\jx d x x=some true:=by
 intro fs
 induction fs with
 |nil=>intro r _ _ f hf;cases hf
 |cons g fs ih=>
  intro r h hb f hf;simp only[kb]at h
  split at h
  ·rename_i i u d r' iJ hi hu hd hr;cases h;simp only[wE]at hb;cases hx:fQ (fj u) g.offset i.size s with
   |none=>rw[hx]at hb;cases hb
   |some x=>
    rw[hx]at hb;obtain⟨a1,a2⟩:=pI hb;rcases age.1 hf with rfl|hf
    ·exact⟨by simpa using iJ,i,u,d,x,hi,hu,hd,hx,a1⟩
    ·exact ih r' hr a2 f hf
  ·cases h
theorem Hl:∀(f:Nat) (t:TypeId) (d:gH),eh P f t=some d->∀m,fC m d=true->∀n,f<n->Ik P w ρ d t n:=by
 intro f
 induction f with
 |zero=>intro t d h;cases h
 |succ f ih=>
  intro t d h m hm n hn e x x' hx hv;obtain⟨n,rfl⟩:∃k,n=k+1:=⟨n-1,by omega⟩;simp only[eh]at h
  split at h
  ·rename_i hu;simp[Instr.checkKey,agd hu]
  ·rename_i k hu;simp[Instr.checkKey,agd hu]
  ·rename_i hu;simp[Instr.checkKey,agd hu]
  ·rename_i hu;simp[Instr.checkKey,agd hu]
  ·cases h;cases m<;>simp[fC]at hm
  ·rename_i hu;simp[Instr.checkKey,agd hu]
  ·rename_i hu;simp[Instr.checkKey,agd hu]
  ·rename_i hu;simp[Instr.checkKey,agd hu]
  ·rename_i fs hu;rw[aO]at h
   split at h
   ·cases h
   ·split at h
    ·rename_i l hl;cases h;simp only[jx]at hx
     split at hx
     ·rename_i s1;cases hv with
      |agg _ lv Uo hh=>
       cases m with
       |zero=>cases hm
       |succ m=>
        have oy:=Cq (P:=P) fs.toList l hl hx;simp only[Instr.checkKey,Sem.run_bind,agd hu,Result.andThen_ok];rw[<-Array.forIn_toList]
        have I7:∀(q:Nat) (r:Jw) (fl:List Field),kb P (eh P f) fl=some r->fC.A9 q r=true->∀g∈fl,∀d',eh P f g.type=some d'->∃q',fC q' d'=true:=by
         intro q
         induction q with
         |zero=>intro r fl _ hq;cases hq
         |succ q ihq=>
          intro r fl hr hq g hg d' B9;cases fl with
          |nil=>cases hg
          |cons g0 fl=>
           simp only[kb]at hr
           split at hr
           ·rename_i i0 u0 d0 r0 acd IW Mo U8 pq;cases hr;simp only[fC.A9,agp]at hq;rcases age.1 hg with rfl|hg
            ·rw[U8]at B9;cases B9;exact⟨q,hq.1⟩
            ·exact ihq r0 fl pq hq.2 g hg d' B9
           ·cases hr
        have hg:∀g∈fs.toList,g.name≠ "_" /\∃y',(part g.type lv.toArray g.offset).run P w= .ok y' w/\(Instr.checkKey e n g.type y').run P w= .ok () w:=by
         intro g XT;obtain⟨h1,i,u,d',y,h2,h3,h4,h5,h6⟩:=oy g XT;obtain⟨y',p1,p2⟩:=fv (P:=P) (w:=w) h5 ⟨Uo,hh⟩ h2 rfl h3 rfl;obtain⟨q',TJ⟩:=I7 m l fs.toList hl hm g XT d' h4;exact⟨h1,y',p1,ih g.type d' h4 q' TJ n (by omega) e y y' h6 p2⟩
        generalize fs.toList=ll at hg;refine Eq.trans (congrArg (fun r:Result PUnit=>r.andThen _) (?_:_=Result.ok PUnit.unit w)) rfl
        induction ll with
        |nil=>rfl
        |cons g ll NL=>
         obtain⟨h1,y',p1,p2⟩:=hg g (by simp);rw[List.forIn_cons];simp only[ne_eq,h1,not_false_eq_true,ags,Sem.run_bind,p1,p2,Result.andThen_ok,Sem.run_pure];exact NL (fun g' hg'=>hg g' (by simp[hg']))
     ·cases hx
    ·cases h
  ·rename_i len el hu
   split at h
   ·rename_i i hi Cy;rw[aO]at h
    split at h
    ·rename_i h1;rw[agA]at h1;cases h;simp only[jx]at hx
     split at hx
     ·rename_i n1 sl;cases Tm:yN sl with
      |none=>rw[Tm]at hx;cases hx
      |some a=>
      rw[Tm]at hx;dsimp only at hx;rw[aO]at hx
      split at hx
      ·rename_i hq;simp only[agp,ahB]at hq;obtain⟨rfl,_⟩:=hq;have e1:=oL Tm;subst e1;rw[hv.nu];have hs:(Go.sizeOf el).run P w= .ok 1 w:=by simp[Go.sizeOf,typeInfo,hi,h1]
       simp only[Instr.checkKey,Sem.run_bind,agd hu,Result.andThen_ok,Std.Legacy.Range.forIn_eq_forIn_range',Std.Legacy.Range.size,Nat.sub_zero,Nat.add_one_sub_one,Nat.div_one];obtain⟨n',rfl⟩:∃k,n=k+1:=⟨n-1,by omega⟩;refine Eq.trans (congrArg (fun r:Result PUnit=>r.andThen _) (?_:_=Result.ok PUnit.unit w)) rfl;have hl:∀j∈List.range' 0 a.length 1,j<a.length:=fun j hj=>by simpa using (List.mem_range'_1.1 hj).2
       generalize List.range' 0 a.length 1=ll at hl
       induction ll with
       |nil=>rfl
       |cons j ll NL=>
        have hj:=hl j (by simp)
        have hp:(part el (a.map Extern.Stop.cell).toArray (j*1)).run P w= .ok (Extern.Stop.cell (a[j]'(by simpa using hj))) w:=by
         simp[part,isAgg,agd Cy,hj]
        rw[List.forIn_cons];simp only[Sem.run_bind,hs,hp,Result.andThen_ok,Instr.checkKey,agd Cy,Sem.run_pure];exact NL (fun j' UJ=>hl j' (by simp[UJ]))
      ·cases hx
     ·cases hx
    ·cases h
   ·rename_i i u iJ hi Cy
    split at h
    ·rename_i d' hd;cases h;simp only[jx]at hx
     split at hx
     ·rename_i s1;cases hv with
      |agg _ lv Uo hh=>
       cases m with
       |zero=>cases hm
       |succ m=>
        have hm':fC m d'=true:=hm;have hs:(Go.sizeOf el).run P w= .ok i.size w:=by simp[Go.sizeOf,typeInfo,hi]
        have oy:=Cr (s:=s1) 0 hx;simp only[Instr.checkKey,Sem.run_bind,agd hu,Result.andThen_ok,Std.Legacy.Range.forIn_eq_forIn_range',Std.Legacy.Range.size,Nat.sub_zero,Nat.add_one_sub_one,Nat.div_one];refine Eq.trans (congrArg (fun r:Result PUnit=>r.andThen _) (?_:_=Result.ok PUnit.unit w)) rfl;have hl:∀j∈List.range' 0 len 1,j<len:=fun j hj=>by simpa using (List.mem_range'_1.1 hj).2
        generalize List.range' 0 len 1=ll at hl
        induction ll with
        |nil=>rfl
        |cons j ll NL=>
         have hj:=hl j (by simp);obtain⟨y,b1,b2⟩:=oy j hj;rw[afZ]at b1;obtain⟨y',p1,p2⟩:=fv (P:=P) (w:=w) b1 ⟨Uo,hh⟩ hi rfl Cy rfl;have:=ih el d' hd m hm' n (by omega) e y y' b2 p2;rw[List.forIn_cons];simp only[Sem.run_bind,hs,p1,this,Result.andThen_ok,Sem.run_pure];exact NL (fun j' UJ=>hl j' (by simp[UJ]))
     ·cases hx
    ·cases h
   ·cases h
  ·cases h
end
