import Derived.Test.YtomffjeofpafnaaGreatDoorLimA
import Derived.Laws.BytesString
import Derived.IntWalk
namespace Lim
open Go
noncomputable section
set_option linter.defProp false
section
variable {P:Program} {ρ:Ren} {st st':St} {w:World} {v:CV}
def VR.eO {b:Nat}{off len cap grow:Nat}{d:Value}(h:VR ρ (.slice b off len cap grow) d):
 ∃r sz c a,d=.slice (some ⟨r,c,none⟩) len a/\ρ b=some (r,sz)/\(0<cap->c=off)/\cap<=a/\(grow=0->a=cap/\c=off)/\
  (0<grow->c+a*grow<=sz/\len<=cap):=by
 cases h with
 |slice _ _ _ _ r sz h=>exact⟨r,sz,off,cap,rfl,h,λ_=>rfl,aHK _,λ_=>⟨rfl,rfl⟩,λh=>absurd h uM⟩
 |oI _ _ c _ _ a _ r sz h hg hl hc ho hs=>exact⟨r,sz,c,a,rfl,h,ho,hc,λe=>uM,λ_=>⟨hs,hl⟩⟩
def dE (size:Nat)(n:Nat)(x:CV)(st:St):Option (List CV):=
 match x with
 | .ae=>some []
 | .slice b off len _ grow=>bE (Nat.beq n 0) (some []) (bE (Bool.or (Nat.beq grow 0) (Nat.ble n len)) (match st.m.g b with|some (.cells s _ _)=>gY s off (n*size)|some (.ro s _)=>gY s off (n*size)|_=>none) none)
 |_=>none
def mu {size n:Nat}{x:CV}{q:Value}{t:List CV}(h:dE size n x st=some t)(C:∀e,x=.ae->e=n->e=0)(y:WR ρ st w)(u:VR ρ x q):
 ∃i,eM ρ t i/\i.length=n*size/\∀d:World,d.heap=w.heap->(Builtin.firstCells size n q).run P d=.ok i.toArray d:=by
 unfold dE at h
 split at h
 .cases h;cases u;have:=C n rfl rfl;subst this;exact⟨[],eM.nil ρ,wb,λd _=>ads⟩
 .rename_i b off len cap grow;obtain⟨r,sz,a,G,rfl,z,B,F,f,A⟩:=u.eO;rw[aO]at h
  split at h
  .rename_i h0;simp only[aIs]at h0;subst h0;cases h;exact⟨[],eM.nil ρ,wb,λd _=>by simp[Builtin.firstCells,loadCells,loadCellsFrom]⟩
  .rename_i h0;simp only[aIs]at h0;rw[aO]at h
   split at h
   .rename_i hg;simp only[aIK,aIs,aIr]at hg
    split at h
    .rename_i s ty g hm;obtain⟨c,lo,hi,e1,E,D,p,H⟩:=y.row hm z;obtain⟨o,l⟩:=ko h
     have k:a=off:=by
      rcases hg with hg|hg
      .exact(f hg).2
      .by_cases j:grow=0
       .exact(f j).2
       .have:=(A uM).2;exact B uM
     subst k;have m:=o;refine⟨(c.toList.drop a).take (n*size),?_,zS,λd QO=>?_⟩
     .rw[show t=(s.drop a).take (n*size)from l]
      have e:(c.toList.drop a).take (n*size)=((c.toList.take s.length).drop a).take (n*size):=by
       rw[aJF,aJc,aIC uM]
      rw[e];exact(p.drop a).take _
     .exact eo P d r a (n*size) c ty (lo,hi) adN uM
    .rename_i s o0 hm;obtain⟨c,ty,lo,hi,e1,E,D,p⟩:=y.PN hm z;obtain⟨o,l⟩:=ko h
     have k:a=off:=by
      rcases hg with hg|hg
      .exact(f hg).2
      .by_cases j:grow=0
       .exact(f j).2
       .have:=(A uM).2;exact B uM
     subst k;have m:=o;refine⟨(c.toList.drop a).take (n*size),?_,zS,λd QO=>?_⟩
     .rw[show t=(s.drop a).take (n*size)from l]
      have e:(c.toList.drop a).take (n*size)=((c.toList.take s.length).drop a).take (n*size):=by
       rw[aJF,aJc,aIC uM]
      rw[e];exact(p.drop a).take _
     .exact eo P d r a (n*size) c ty (lo,hi) adN uM
    .cases h
   .cases h
 .cases h
inductive DQ where
 |toInt (k:IntKind)
 |same
 |bytesOf (e:TypeId)
 |strOf
def dw (c:DQ)(x:CV)(st:St):OR:=
 match c,x with
 | .toInt k,.int _ n=>.ok (.int k (k.wrap n)) st
 | .same,.str l=>.ok (.str l) st
 | .bytesOf e,.str l=>.ok (.slice st.nx 0 l.length l.length 1) ⟨st.m.put st.nx (some (.cells (l.map bP) e true)),st.nx+1⟩
 | .strOf,.ae=>.ok (.str []) st
 | .strOf,.slice b off len cap grow=>(match dE 1 len (.slice b off len cap grow) st with
   |some t=>(match I3 t with|some l=>.ok (.str l) st|none=>.bad)
   |_=>.bad)
 |_,_=>.bad
def Iz (P:Program)(c:DQ)(a b:TypeId):Prop:=
 match c with
 | .toInt k=>P.underlying b=some (.int k)/\∃d,P.underlying a=some d
 | .same=>P.underlying b=some .string/\P.underlying a=some .string
 | .bytesOf e=>P.underlying b=some (.slice e)/\P.underlying e=some (.int .u8)/\P.underlying a=some .string
 | .strOf=>∃e,P.underlying a=some (.slice e)/\P.underlying e=some (.int .u8)/\P.underlying b=some .string
def KJ (l:List Int):∀s:ByteArray,l.foldl (λr n=>r.push (UInt8.ofNat n.toNat)) s=⟨s.data++(l.map λn=>UInt8.ofNat n.toNat).toArray⟩:=by
 induction l with
 |nil=>intro s;simp
 |cons a l b=>
  intro s;rw[List.foldl_cons,b]
  congr 1
  apply Array.ext';simp[ByteArray.push]
def KQ {l:List UInt8}{a:List Value}(h:eM ρ (l.map bP) a):a=(l.map λx:UInt8=>(x.toNat:Int)).map (Value.int .u8):=by
 have:=(VR.FH h).uk;simp only[Value.agg.injEq]at this;have:=congrArg Array.toList this;simp only[]at this;rw[this,aKs];rfl
def Hc {c:DQ}{g j:TypeId}{x:CV}{z:Value}(h:dw c x st=.ok v st')(m:WR ρ st w)(n:VR ρ x z)(p:Iz P c g j):
 bH P (convert g j z) ρ st w v st':=by
 unfold dw at h
 split at h
 .obtain⟨f,d,a⟩:=p;cases h;cases n;refine bH.still m ?_ (.int _ _);simp only[convert,Sem.run_bind,aHU a,aHU f,Result.andThen_ok];cases d<;>simp[Conv.intToInt]
 .obtain⟨f,a⟩:=p;cases h;cases n;refine bH.still m ?_ (.str _);simp[convert,aHU a,aHU f]
 .rename_i e l;obtain⟨f,a,q⟩:=p;cases h;cases n
  let cap:=(Question.appendCap l.length 0 e).cut (w.tape w.drawn (.appendCap l.length 0 e))
  have C:l.length<=cap:=by show l.length<=l.length+_;omega
  let o:Obj:=.cells (((gF l).data.map λb=>Value.int .u8 b.toNat)++Array.replicate (cap-l.length) (.int .u8 0)) e (cap,cap+1)
  have D:((gF l).data.map λb=>Value.int .u8 b.toNat).toList=(l.map λx:UInt8=>Value.int .u8 (x.toNat:Int)):=by
   simp[gF]
  have i:(((gF l).data.map λb=>Value.int .u8 b.toNat)++Array.replicate (cap-l.length) (Value.int .u8 0)).size=cap:=by
   have:(gF l).data.size=l.length:=lz l;simp[this];omega
  have G:∀ρ,BR ρ (.cells (l.map bP) e true) o cap:=λρ=>by
   have hs:(l.map bP).length=l.length:=wb
   have:=BR.cells (ρ:=ρ) (l.map bP) e true (((gF l).data.map λb=>Value.int .u8 b.toNat)++Array.replicate (cap-l.length) (.int .u8 0)) cap (cap+1) (by rw[hs,i];exact C)
    (by
     rw[Array.toList_append,D,hs];rw[aJk wb];exact eM.bytes ρ l)
    (λk s=>by rw[i]at s;omega) (λh=>by cases h)
   rw[i]at this;exact this
  have A:=bp.new (m.Fj (w':={w with drawn:=w.drawn+1}) rfl) (G (ρ.set st.nx (w.heap.size,cap)));have F:=bp.draw m (w.drawn+1);refine⟨.slice (some ⟨w.heap.size,0,none⟩) l.length cap,_,_,?_,.oI _ _ 0 _ _ cap 1 _ _ A.2 uM (aHK _) C (λ_=>rfl) uM,F.trans A.1⟩;have hs:=lz l;simp only[convert,Sem.run_bind,aHU q,aHU f,aHU a,Result.andThen_ok,Conv.stringToBytes,run_choose,hs];simp only[Question.forced,aHH,aHV,Result.andThen_ok,newRow,Sem.run_bind,run_newObj,Sem.run_pure]
  have u:({heap:=w.heap.push (.cells (((gF l).data.map λb=>Value.int .u8 b.toNat)++Array.replicate (cap-l.length) (.int .u8 0)) e),tape:=w.tape,drawn:=w.drawn+1,os:=w.os,output:=w.output}:World).shape? w.heap.size=some (e,cap):=by
   simp only[World.shape?,Array.getElem?_push_size,i]
  simp only[markStringish,Sem.run_bind,run_shape,Result.andThen_ok];rw[show(Question.appendCap l.length 0 e).cut (w.tape w.drawn (Question.appendCap l.length 0 e))=cap from rfl,u];simp only[run_freeze,Result.andThen_ok]
  congr 1
  simp only[World.freeze,Nat.succ_ne_zero,aHV,World.mk.injEq,and_true];apply Array.ext
  .simp
  .intro k f a;simp only[Array.getElem_modify,Array.getElem_push]
   by_cases s:k=w.heap.size
   .subst s;simp[o]
   .have:k<w.heap.size:=by simp at a;omega
    simp[this,aIG s]
 .obtain⟨e,f,a,q⟩:=p;cases h;cases n;refine bH.still m ?_ (.str []);rw[run_convert_bytes_string w g j e none 0 0 f a q]
  rfl
 .rename_i b off len cap grow;obtain⟨e,f,a,q⟩:=p;cases hs:dE 1 len (.slice b off len cap grow) st with
  |none=>rw[hs]at h;cases h
  |some t=>
   rw[hs]at h;obtain⟨I,B,K,H⟩:=mu (P:=P) hs (λ_ h _=>by cases h) m n;obtain⟨r,sz,M,L,rfl,J,_⟩:=n.eO;have y:=H w rfl;simp only[Builtin.firstCells,aJr]at y;dsimp only at h;cases hl:I3 t with
   |none=>rw[hl]at h;cases h
   |some l=>
    rw[hl]at h;cases h;have E:=KQ (by rw[wk hl]at B;exact B);rw[E]at y;refine bH.still m ?_ (.str l);rw[run_convert_bytes_string w g j e _ _ _ f a q,run_bytesToString w _ _ _ _ y,KJ]
    congr 2
    unfold gF
    congr 1
    apply Array.ext';simp[aKs,Function.comp_def]
 .cases h
end
section
variable {x:CV}{x':Value}{n:Nat}{lQ eT:Option Value}{t e:TypeId}{i:CV}{fs:Array Field}{f:Field}{ti:TypeInfo}{u:TypeDesc}{i':Value}
section
variable {P:Program} {ρ:Ren} {st st':St} {w:World} {v:CV}
def FE (x:Option CV)(a y:Nat):Option Nat:=
 match x with
 |none=>some a
 |some (.int _ (.ofNat n))=>bE (Nat.ble n y) (some n) none
 |_=>none
def jZ {b y:Nat}(h:FE (some x) b y=some n)(c:VR ρ x x'){Y:Nat}(g:y<=Y)(a:BoundsCode):
 (Instr.sliceBound x' Y a).run P w=.ok n w/\n<=y:=by
 unfold FE at h
 split at h
 .rename_i e;cases e
 .rename_i k m e;cases e;simp only[aO,aIr]at h
  split at h
  .rename_i hle;cases h;cases c;refine⟨?_,hle⟩;have d:(0:Int)<=Int.ofNat n/\Int.ofNat n<=(Y:Int):=⟨aKf _,by show(n:Int)<=Y;omega⟩;simp only[Instr.sliceBound,asIntOf,Sem.run_bind,Sem.run_pure,Result.andThen_ok,Sem.run_ite,aHP d]
   rfl
  .cases h
 .cases h
def S8 (ρ:Ren)(x:Option CV)(x':Option Value):Prop:=match x,x' with|none,none=>True|some x,some x'=>VR ρ x x'|_,_=>False
def oi (lo hi:Option CV)(len cap:Nat):Option (Nat×Nat):=
 match FE hi len cap with
 |some h=>(match FE lo 0 h with|some l=>some (l,h)|none=>none)
 |none=>none
def nT {isSlice:Bool}{lo hi:Option CV}{len cap k l h:Nat}(a:oi lo hi len cap=some (l,h))(b:S8 ρ lo lQ)(g:S8 ρ hi eT)(p:cap<=k)
 (o:hi=none->len<=cap):(Instr.sliceBounds isSlice len k lQ eT none).run P w=.ok (l,h,k) w/\l<=h/\h<=cap:=by
 unfold oi at a;cases d:FE hi len cap with
 |none=>rw[d]at a;cases a
 |some h0=>
  rw[d]at a;cases c:FE lo 0 h0 with
  |none=>dsimp only at a;rw[c]at a;cases a
  |some q=>
   dsimp only at a;rw[c]at a;cases a
   have H:h<=cap:=by
    cases hi with
    |none=>cases d;exact o rfl
    |some x=>cases eT with
     |none=>exact g.elim
     |some x'=>exact(jZ (P:=P) (w:=w) d g (aHK _) .index).2
   have L:l<=h:=by
    cases lo with
    |none=>cases c;omega
    |some x=>cases lQ with
     |none=>exact b.elim
     |some x'=>exact(jZ (P:=P) (w:=w) c b (aHK _) .index).2
   refine⟨?_,L,H⟩;cases hi with
   |none=>
    cases eT with
    |some _=>exact g.elim
    |none=>
     cases d;cases lo with
     |none=>cases lQ with
      |some _=>exact b.elim
      |none=>cases c;simp[Instr.sliceBounds]
     |some x=>cases lQ with
      |none=>exact b.elim
      |some x'=>simp[Instr.sliceBounds,(jZ (P:=P) (w:=w) c b (aHK _) .sliceB).1]
   |some y=>
    cases eT with
    |none=>exact g.elim
    |some y'=>
     have m:=λj=>(jZ (P:=P) (w:=w) d g p j).1;cases lo with
     |none=>cases lQ with
      |some _=>exact b.elim
      |none=>cases c;cases isSlice<;>simp[Instr.sliceBounds,m]
     |some x=>cases lQ with
      |none=>exact b.elim
      |some x'=>cases isSlice<;>simp[Instr.sliceBounds,m,(jZ (P:=P) (w:=w) c b (aHK _) .sliceB).1]
def iI (x:CV)(lo hi:Option CV)(st:St):OR:=
 match x with
 | .str s=>(match oi lo hi s.length s.length with|some (l,h)=>.ok (.str ((s.drop l).take (h-l))) st|none=>.bad)
 |_=>.bad
def wo (s:List UInt8)(l h:Nat):(gF s).extract l h=gF ((s.drop l).take (h-l)):=by
 unfold gF;apply ByteArray.ext;rw[ByteArray.data_extract];apply Array.ext';simp only[Array.toList_extract,List.extract_eq_take_drop]
def zj {lo hi:Option CV}(h:iI x lo hi st=.ok v st')(b:WR ρ st w)(a:VR ρ x x')(g:S8 ρ lo lQ)(d:S8 ρ hi eT)
 (c:P.underlying t=some .string):bH P (Instr.sliceAt t x' lQ eT none) ρ st w v st':=by
 unfold iI at h
 split at h
 .rename_i s
  split at h
  .rename_i l k hb;cases h;cases a;obtain⟨j,o,m⟩:=nT (P:=P) (w:=w) (isSlice:=false) hb g d (aHK _) (λ_=>aHK _);refine bH.still b (v':=.string ((gF s).extract l k)) ?_ (by rw[wo];exact .str _);have e:=lz s;simp[Instr.sliceAt,aHU c,Instr.slice,e,j]
  .cases h
 .cases h
def aR (size:Nat)(x:CV)(lo hi:Option CV)(st:St):OR:=
 match x with
 | .ae=>(match oi lo hi 0 0 with|some _=>.ok .ae st|none=>.bad)
 | .slice b off len cap grow=>bE (Nat.ble len cap) (match oi lo hi len cap with
   |some (l,h)=>pT (Nat.sub h l) λn=>pT (Nat.sub cap l) λc=>
    bE (Bool.and (Nat.beq grow 0) (Nat.beq l cap)) (.ok (.slice b off n c grow) st) (pT (Nat.add off (Nat.mul l size)) λo=>bE (Bool.or (Nat.beq grow 0) (Nat.beq grow size)) (.ok (.slice b o n c grow) st) .bad)
   |none=>.bad) .bad
 |_=>.bad
def Ay {size:Nat}{lo hi:Option CV}(h:aR size x lo hi st=.ok v st')(o:WR ρ st w)(G:VR ρ x x')(K:S8 ρ lo lQ)(J:S8 ρ hi eT)
 (H:P.underlying t=some (.slice e)) (I:(Go.sizeOf e).run P w=.ok size w):bH P (Instr.sliceAt t x' lQ eT none) ρ st w v st':=by
 unfold aR at h
 split at h
 .split at h
  .rename_i N hb;obtain⟨l,k⟩:=N;cases h;cases G;obtain⟨F,U,T⟩:=nT (P:=P) (w:=w) (isSlice:=true) hb K J (aHK _) (λ_=>aHK _);have O:k=0:=by omega
   have B:l=0:=uM
   subst O;subst B;refine bH.still o ?_ .ae;simp[Instr.sliceAt,aHU H,Instr.slice,F,I]
  .cases h
 .rename_i b off len cap grow;rw[aO]at h
  split at h
  rotate_left
  .cases h
  rename_i j;rw[aIr]at j
  split at h
  .rename_i l k hb;rw[dH,dH]at h;obtain⟨r,sz,m,c,rfl,s,S,R,L,Q⟩:=G.eO;obtain⟨F,U,T⟩:=nT (P:=P) (w:=w) (isSlice:=true) hb K J R (λ_=>j)
   have p:(Instr.sliceAt t (.slice (some ⟨r,m,none⟩) len c) lQ eT none).run P w=
    .ok (.slice (if c=l then some ⟨r,m,none⟩else some ⟨r,m+l*size,none⟩) (k-l) (c-l)) w:=by
    simp[Instr.sliceAt,aHU H,Instr.slice,F,I,kZ]
   simp only[aO,aIf,aIK,aIs,dH]at h
   split at h
   .rename_i a;obtain⟨a,B⟩:=a;cases h;obtain⟨E,D⟩:=L a;subst a;subst E;subst D;subst B;refine bH.still o p ?_;rw[aHP rfl];exact .slice _ _ _ _ r sz s
   .rename_i A
    split at h
    .rename_i a
     .cases h
      by_cases q:grow=0
      .obtain⟨E,D⟩:=L q;subst q;subst E;subst D;refine bH.still o p ?_;rw[aHM (λe=>A ⟨rfl,e.symm⟩)];exact .slice _ _ _ _ r sz s
      .have C:grow=size:=by rcases a with a|a;exact absurd a q;exact a
       obtain⟨X,W⟩:=Q uM;refine bH.still o p ?_
       have g:∀d,d+(c-l)*grow<=sz->(0<cap-l->d=off+l*size)->
        VR ρ (.slice b (off+l*size) (k-l) (cap-l) grow) (.slice (some ⟨r,d,none⟩) (k-l) (c-l)):=λd z y=>
        .oI _ _ d _ _ (c-l) grow r sz s uM uM uM y z
       split
       .rename_i M;exact g m (by rw[M,Nat.sub_self,Nat.zero_mul];omega) uM
       .refine g (m+l*size) ?_ (λV=>by rw[S uM])
        have:l*size+(c-l)*grow=c*grow:=by
         rw[C,<-aIV];congr 1;omega
        omega
    .cases h
  .cases h
 .cases h
def jd (size:Nat)(x:CV)(lo:Option CV)(hi mx:CV)(st:St):OR:=
 match x with
 | .slice b off len cap grow=>(match FE (some mx) 0 cap with
   |some m=>(match oi lo (some hi) len m with
    |some (l,h)=>bE (Bool.or (Nat.beq grow 0) (Nat.ble (Nat.succ l) cap)) (pT (Nat.sub h l) λn=>pT (Nat.sub m l) λc=>bE (Nat.beq m l) (.ok (.slice b off n c 0) st) (pT (Nat.add off (Nat.mul l size)) λo=>.ok (.slice b o n c 0) st)) .bad
    |none=>.bad)
   |none=>.bad)
 | .ae=>(match FE (some mx) 0 0 with
   |some m=>(match oi lo (some hi) 0 m with|some _=>.ok .ae st|none=>.bad)
   |none=>.bad)
 |_=>.bad
def Ca {size:Nat}{lo:Option CV}{hi mx:CV}{eT a:Value}(h:jd size x lo hi mx st=.ok v st')(q:WR ρ st w)(C:VR ρ x x')(g:S8 ρ lo lQ)(H:VR ρ hi eT)(G:VR ρ mx a)
 (D:P.underlying t=some (.slice e)) (E:(Go.sizeOf e).run P w=.ok size w):bH P (Instr.sliceAt t x' lQ (some eT) (some a)) ρ st w v st':=by
 unfold jd at h
 split at h
 .rename_i b off len cap grow
  split at h
  .rename_i m hm
   split at h
   .rename_i l k hb;obtain⟨r,sz,p,I,rfl,F,R,Q,O,U⟩:=C.eO;obtain⟨j,J⟩:=jZ (P:=P) (w:=w) hm G Q .slice3Acap;unfold oi at hb;cases d:FE (some hi) len m with
    |none=>rw[d]at hb;cases hb
    |some h0=>
     rw[d]at hb;cases c:FE lo 0 h0 with
     |none=>dsimp only at hb;rw[c]at hb;cases hb
     |some L=>
      dsimp only at hb;rw[c]at hb;cases hb;obtain⟨o,M⟩:=jZ (P:=P) (w:=w) d H (aHK _) .slice3B
      have z:l<=k/\(Instr.sliceBounds true len I lQ (some eT) (some a)).run P w=.ok (l,k,m) w:=by
       cases lo with
       |none=>cases lQ with
        |some _=>exact g.elim
        |none=>cases c;exact⟨uM,by simp[Instr.sliceBounds,j,o]⟩
       |some y=>cases lQ with
        |none=>exact g.elim
        |some y'=>
         obtain⟨l1,l2⟩:=jZ (P:=P) (w:=w) c g (aHK _) .slice3C;exact⟨l2,by simp[Instr.sliceBounds,j,o,l1]⟩
      have B:(Instr.sliceAt t (.slice (some ⟨r,p,none⟩) len I) lQ (some eT) (some a)).run P w=
       .ok (.slice (if m=l then some ⟨r,p,none⟩else some ⟨r,p+l*size,none⟩) (k-l) (m-l)) w:=by
       simp[Instr.sliceAt,aHU D,Instr.slice,z.2,E,kZ]
      simp only[aO,aIK,aIs,aIr,dH]at h
      split at h
      .rename_i hg
       have N:p=off:=by
        rcases hg with hg|hg
        .exact(O hg).2
        .exact R uM
       subst N
       split at h
       .rename_i A;cases h;refine bH.still q B ?_;rw[aHP A];exact .slice _ _ _ _ r sz F
       .rename_i A;cases h;refine bH.still q B ?_;rw[aHM A];exact .slice _ _ _ _ r sz F
      .cases h
   .cases h
  .cases h
 .split at h
  .rename_i m hm
   split at h
   .rename_i K hb;obtain⟨l,k⟩:=K;cases h;cases C;obtain⟨j,J⟩:=jZ (P:=P) (w:=w) hm G (aHK 0) .slice3Acap;have T:m=0:=by omega
    subst T;unfold oi at hb;cases d:FE (some hi) 0 0 with
    |none=>rw[d]at hb;cases hb
    |some h0=>
     rw[d]at hb;cases c:FE lo 0 h0 with
     |none=>dsimp only at hb;rw[c]at hb;cases hb
     |some L=>
      dsimp only at hb;rw[c]at hb;cases hb;obtain⟨o,M⟩:=jZ (P:=P) (w:=w) d H (aHK _) .slice3B;have S:k=0:=uM
      subst S
      have z:l<=0/\(Instr.sliceBounds true 0 0 lQ (some eT) (some a)).run P w=.ok (l,0,0) w:=by
       cases lo with
       |none=>cases lQ with
        |some _=>exact g.elim
        |none=>cases c;exact⟨uM,by simp[Instr.sliceBounds,j,o]⟩
       |some y=>cases lQ with
        |none=>exact g.elim
        |some y'=>
         obtain⟨l1,l2⟩:=jZ (P:=P) (w:=w) c g (aHK _) .slice3C;exact⟨l2,by simp[Instr.sliceBounds,j,o,l1]⟩
      have s:l=0:=uM
      subst s;refine bH.still q ?_ .ae;simp[Instr.sliceAt,aHU D,Instr.slice,z.2,E]
   .cases h
  .cases h
 .cases h
def bT (n size:Nat)(x:CV)(lo hi:Option CV)(st:St):OR:=
 match x with
 | .ptr b off=>(match oi lo hi n n with
   |some (l,h)=>pT (Nat.sub h l) λk=>pT (Nat.sub n l) λc=>bE (Nat.beq n l) (.ok (.slice b off k c 0) st) (pT (Nat.add off (Nat.mul l size)) λo=>.ok (.slice b o k c 0) st)
   |none=>.bad)
 |_=>.bad
def zk {size:Nat}{lo hi:Option CV}(h:bT n size x lo hi st=.ok v st')(d:WR ρ st w)(j:VR ρ x x')(q:S8 ρ lo lQ)(p:S8 ρ hi eT)
 (m:P.underlying t=some (.array n e)) (o:(Go.sizeOf e).run P w=.ok size w):bH P (Instr.sliceAt t x' lQ eT none) ρ st w v st':=by
 unfold bT at h
 split at h
 .rename_i b off
  split at h
  .rename_i l k hb;cases j with
   |ptr _ _ r sz g=>
    obtain⟨s,z,y⟩:=nT (P:=P) (w:=w) (isSlice:=false) hb q p (aHK _) (λ_=>aHK _)
    have c:(Instr.sliceAt t (.pointer (some ⟨r,off,none⟩)) lQ eT none).run P w=
     .ok (.slice (some (if n=l then ⟨r,off,none⟩else ⟨r,off+l*size,none⟩)) (k-l) (n-l)) w:=by
     simp[Instr.sliceAt,aHU m,Instr.sureAddr,s,o,kZ]
    simp only[aO,aIs,dH]at h
    split at h
    .rename_i a;cases h;refine bH.still d c ?_;rw[aHP a];exact .slice _ _ _ _ r sz g
    .rename_i a;cases h;refine bH.still d c ?_;rw[aHM a];exact .slice _ _ _ _ r sz g
  .cases h
 .cases h
def pM (n:Nat)(x:CV)(st:St):OR:=
 match x with| .slice b off len cap grow=>bE (Bool.and (Nat.ble n len) (Bool.or (Nat.beq grow 0) (Bool.and (Nat.ble 1 cap) (Nat.ble len cap)))) (.ok (.ptr b off) st) .bad|_=>.bad
def G0 (h:pM n x st=.ok v st')(c:WR ρ st w)(a:VR ρ x x')(d:P.underlying t=some (.array n e)):bH P (Instr.arrayAt t x') ρ st w v st':=by
 unfold pM at h
 split at h
 .rename_i b off len cap grow;simp only[aO,aIf,aIK,aIs,aIr]at h
  split at h
  .rename_i hg;cases h;obtain⟨r,sz,k,o,rfl,g,m,q,l,p⟩:=a.eO
   have j:k=off:=by
    rcases hg.2 with hg|hg
    .exact(l hg).2
    .exact m uM
   subst j;refine bH.still c ?_ (.ptr _ _ r sz g);have:¬len<n:=uM
   simp[Instr.arrayAt,aHU d,this]
  .cases h
 .cases h
def al (off:Nat)(x:CV)(st:St):OR:=match x with| .ptr b o=>pT (Nat.add o off) λo=>.ok (.ptr b o) st|_=>.bad
def yb {i:Nat}{off:Nat}(h:al off x st=.ok v st')(c:WR ρ st w)(a:VR ρ x x')(d:P.underlying t=some (.struct fs))
 (m:fs[i]?=some f) (k:f.offset=off) (g:(Go.sizeOf f.type).run P w=.ok n w) (l:n≠0):bH P (Instr.fieldAt t x' i) ρ st w v st':=by
 unfold al at h
 split at h
 .rename_i b o;rw[dH]at h;cases h;cases a with
  |ptr _ _ r sz j=>
   refine bH.still c ?_ (.ptr _ _ r sz j);simp[Instr.fieldAt,aHU d,m,Instr.sureAddr,fieldPlace,g,l,kZ,k]
 .cases h
def AB (a:Bool)(off size:Nat)(x:CV)(st:St):OR:=match x with| .agg s=>Option.rec .bad (λv=>.ok v st) (iY a off size s)|_=>.bad
def EE {i:Nat}(h:AB (iO u) f.offset ti.size x st=.ok v st')(g:WR ρ st w)(d:VR ρ x x')(j:P.underlying t=some (.struct fs))
 (k:fs[i]?=some f) (hi:P.info? f.type=some ti) (a:P.underlying f.type=some u):bH P (Instr.field t x' i) ρ st w v st':=by
 unfold AB at h
 split at h
 .rename_i s;cases hc:iY (iO u) f.offset ti.size s with
  |none=>rw[hc]at h;cases h
  |some y=>
   rw[hc]at h;cases h;cases d with
   |agg _ l hl hh=>
    obtain⟨y',c,b⟩:=iX (P:=P) (w:=w) hc ⟨hl,hh⟩ hi rfl a rfl;refine bH.still g ?_ b;simp[Instr.field,aHU j,k,asAgg,c]
 .cases h
def fP (n size:Nat)(x i:CV)(st:St):OR:=
 match x,i with| .ptr b o,.int _ (.ofNat j)=>bE (Nat.ble (Nat.succ j) n) (pT (Nat.add o (Nat.mul j size)) λo=>.ok (.ptr b o) st) .bad|_,_=>.bad
def cV (size:Nat)(x i:CV)(st:St):OR:=
 match x,i with| .slice b o len cap grow,.int _ (.ofNat j)=>bE (Bool.and (Nat.ble (Nat.succ j) len) (Bool.or (Nat.beq grow 0) (Nat.ble len cap))) (pT (Nat.add o (Nat.mul j size)) λo=>.ok (.ptr b o) st) .bad|_,_=>.bad
def Cd {size:Nat}(h:fP n size x i st=.ok v st')(c:WR ρ st w)(a:VR ρ x x')(hi:VR ρ i i')(d:P.underlying t=some (.array n e))
 (g:(Go.sizeOf e).run P w=.ok size w):bH P (Instr.indexAt t x' i') ρ st w v st':=by
 unfold fP at h
 split at h
 .rename_i b o k j;simp only[aO,aIr,dH]at h
  split at h
  .rename_i p;cases h;cases hi;cases a with
   |ptr _ _ r sz l=>
    refine bH.still c ?_ (.ptr _ _ r sz l);have m:(0:Int)<=Int.ofNat j/\Int.ofNat j<(n:Int):=⟨aKf _,by show(j:Int)<n;omega⟩;simp only[Instr.indexAt,asIntOf,Sem.run_bind,Sem.run_pure,Result.andThen_ok,aHU d,Instr.sureAddr,Sem.run_ite,aHP m,g,kZ]
    rfl
  .cases h
 .cases h
def ED {size:Nat}(h:cV size x i st=.ok v st')(c:WR ρ st w)(a:VR ρ x x')(hi:VR ρ i i')(d:P.underlying t=some (.slice e))
 (g:(Go.sizeOf e).run P w=.ok size w):bH P (Instr.indexAt t x' i') ρ st w v st':=by
 unfold cV at h
 split at h
 .rename_i b o len cap grow k j;simp only[aO,aIf,aIK,aIs,aIr,dH]at h
  split at h
  .rename_i p;cases h;cases hi;obtain⟨r,sz,s,A,rfl,l,z,C,y,B⟩:=a.eO
   have m:s=o:=by
    rcases p.2 with hg|hg
    .exact(y hg).2
    .exact z uM
   subst m;refine bH.still c ?_ (.ptr _ _ r sz l);have q:(0:Int)<=Int.ofNat j/\Int.ofNat j<(len:Int):=⟨aKf _,by show(j:Int)<len;omega⟩;simp only[Instr.indexAt,asIntOf,Sem.run_bind,Sem.run_pure,Result.andThen_ok,aHU d,Sem.run_ite,aHP q,g,kZ]
   rfl
  .cases h
 .cases h
def pN (x i:CV)(st:St):OR:=
 match x,i with| .str l,.int _ (.ofNat j)=>(match l[j]? with|some b=>.ok (bP b) st|none=>.bad)|_,_=>.bad
def Cc (h:pN x i st=.ok v st')(g:WR ρ st w)(d:VR ρ x x')(hi:VR ρ i i')(m:P.underlying t=some .string):bH P (Instr.index t x' i') ρ st w v st':=by
 unfold pN at h
 split at h
 .rename_i l k j
  split at h
  .rename_i b c;cases h;cases hi;cases d;refine bH.still g ?_ (.int _ _);have o:(0:Int)<=Int.ofNat j:=aKf _;have a:=(aHW.1 c).1
   have p:(gF l)[(Int.ofNat j).toNat]?=some b:=by
    show(gF l)[j]?=_;rw[getElem?_pos (gF l) j (by rw[lz];exact a)];rw[<-c,aHO a];rfl
   simp only[Instr.index,asIntOf,Sem.run_bind,Sem.run_pure,Result.andThen_ok,aHU m,aHP o,p]
  .cases h
 .cases h
def wF (n size:Nat)(a:Bool)(x i:CV)(st:St):OR:=
 match x,i with| .agg s,.int _ (.ofNat j)=>bE (Nat.ble (Nat.succ j) n) (Option.rec .bad (λv=>.ok v st) (iY a (Nat.mul j size) size s)) .bad|_,_=>.bad
def Ce (h:wF n ti.size (iO u) x i st=.ok v st')(g:WR ρ st w)(d:VR ρ x x')(hi:VR ρ i i')(m:P.underlying t=some (.array n e))
 (a:P.info? e=some ti) (q:P.underlying e=some u):bH P (Instr.index t x' i') ρ st w v st':=by
 unfold wF at h
 split at h
 .rename_i s k j;simp only[aO,aIr]at h
  split at h
  .rename_i r;cases hc:iY (iO u) (Nat.mul j ti.size) ti.size s with
   |none=>rw[hc]at h;cases h
   |some y=>
    rw[hc]at h;cases h;cases hi;cases d with
    |agg _ l hl hh=>
     obtain⟨y',c,b⟩:=iX (P:=P) (w:=w) hc ⟨hl,hh⟩ a rfl q rfl;refine bH.still g ?_ b;have p:(0:Int)<=Int.ofNat j/\Int.ofNat j<(n:Int):=⟨aKf _,by show(j:Int)<n;omega⟩;have o:(Go.sizeOf e).run P w=.ok ti.size w:=by simp[Go.sizeOf,typeInfo,a]
     simp only[Instr.index,asIntOf,Sem.run_bind,Sem.run_pure,Result.andThen_ok,aHU m,Sem.run_ite,aHP p,o];exact c
  .cases h
 .cases h
def vt (t:TypeId)(x:CV)(st:St):OR:=.ok (.iface t x) st
def EC (h:vt t x st=.ok v st')(b:WR ρ st w)(a:VR ρ x x')(c:P.concrete t=true):bH P (Instr.makeInterface t x') ρ st w v st':=by
 cases h;exact bH.still b (run_makeInterface w t x' c) (.iface t x x' a)
end
end
section
variable {es:List (CV×CV×Nat)}{clock r sz:Nat}{t ty:TypeId}{x:CV}{x':Value}{e:TypeId}{i:TypeInfo}{z:List CV}{z':Value}
def cH (c:Nat)(z:List CV):List CV:=(List.replicate c z).flatten
def qz (z:Array Value):∀c,((List.range (c*z.size)).map λi=>z[i%z.size]!)=(List.replicate c z.toList).flatten:=by
 intro c
 induction c with
 |zero=>simp
 |succ c a=>
  rw[aJW,aJx,<-a,Nat.succ_mul,aKL,List.range_add,aIQ,aKs]
  congr 1
  .apply List.ext_getElem
   .simp
   .intro i h1 h2;simp only[aIx,List.length_range]at h1;simp[aJC h1,h1]
  .apply List.map_congr_left;intro i _;simp
section
variable {P:Program} {ρ:Ren} {st st':St} {w:World} {v:CV}
def eM.flatten {l:List CV}{a:List Value}(h:eM ρ l a)(c:Nat):eM ρ (List.replicate c l).flatten (List.replicate c a).flatten:=by
 induction c with
 |zero=>exact eM.nil ρ
 |succ c b=>rw[aJW,aJW,aJx,aJx];exact h.app b
inductive OI where
 |str|slice|map|cap
 |const (n:Nat)
def bt (k:OI)(x:CV)(st:St):OR:=
 match k,x with
 | .const n,_=>zn .i64 st n
 | .str,.str l=>zn .i64 st l.length
 | .slice,.ae=>zn .i64 st 0
 | .slice,.slice _ _ len _ _=>zn .i64 st len
 | .slice,.mr=>zn .i64 st 0
 | .map,.fJ=>zn .i64 st 0
 | .map,.map b=>(match st.m.g b with|some (.map es _)=>pT es.length (zn .i64 st)|some (.lmap es)=>pT es.length (zn .i64 st)|_=>.bad)
 | .cap,.ae=>zn .i64 st 0
 | .cap,.slice _ _ _ cap grow=>bE (Nat.beq grow 0) (zn .i64 st cap) (.ok (.ir cap) st)
 |_,_=>.bad
def LU (P:Program)(k:OI)(t:TypeId):Prop:=
 match k with
 | .str=>P.underlying t=some .string
 | .slice=>∃e,P.underlying t=some (.slice e)
 | .map=>∃k e,P.underlying t=some (.map k e)
 | .cap=>False
 | .const n=>(∃e,P.underlying t=some (.array n e))\/∃a e,P.underlying t=some (.pointer a)/\P.underlying a=some (.array n e)
def WR.map {b:Nat}(h:WR ρ st w)(c:st.m.g b=some (.map es clock))(a:ρ b=some (r,sz)):
 ∃es':List MapEntry,w.heap[r]?=some (.map es'.toArray clock)/\es.length=es'.length/\
  ∀(i:Nat) (e:CV×CV×Nat) (e':MapEntry),es[i]?=some e->es'[i]?=some e'->VR ρ e.1 e'.key/\VR ρ e.2.1 e'.val/\e.2.2=e'.born:=by
 obtain⟨o,f,d⟩:=h.at' b _ r sz c a;cases d with
 |map _ _ es' hl h=>exact⟨es',f,hl,h⟩
def WR.lmap {b:Nat}(h:WR ρ st w)(c:st.m.g b=some (.lmap es))(a:ρ b=some (r,sz)):
 ∃(l:List (CV×CV×Nat)) (clock:Nat) (es':List MapEntry),w.heap[r]?=some (.map es'.toArray clock)/\l.Perm es/\(∀e∈es,∃n:Int,e.1=.int .i64 n)/\(es.map (·.1)).Nodup/\Go.MapKept.Stamped es'.toArray clock/\l.length=es'.length/\
  ∀(i:Nat) (e:CV×CV×Nat) (e':MapEntry),l[i]?=some e->es'[i]?=some e'->VR ρ e.1 e'.key/\VR ρ e.2.1 e'.val:=by
 obtain⟨o,f,d⟩:=h.at' b _ r sz c a;cases d with
 |lmap _ l clock es' hp hi hn hs hl h=>exact⟨l,clock,es',f,hp,hi,hn,hs,hl,h⟩
def dF {es:Array MapEntry}(h:w.heap[r]?=some (.map es clock)):(getObj r).run P w=.ok (.map es clock) w:=by
 simp only[getObj,Sem.run,h]
def JV {k:OI}(h:bt k x st=.ok v st')(d:WR ρ st w)(g:VR ρ x x')(c:LU P k t)(ats:Array TypeId)(f:ats[0]?=some t):
 bH P (Builtin.len_ ats ty #[x']) ρ st w v st':=by
 unfold bt at h
 split at h
 .cases h;refine bH.still d ?_ (.int _ _);rcases c with⟨e,c⟩|⟨a,e,c,s⟩
  .simp only[Builtin.len_,f,aJd,aHG,Sem.run_bind,aHU c,Result.andThen_ok]
   rfl
  .simp only[Builtin.len_,f,aJd,aHG,Sem.run_bind,aHU c,aHU s,Result.andThen_ok]
   rfl
 .cases h;cases g;refine bH.still d ?_ (.int _ _);have m:P.underlying t=some .string:=c;simp[Builtin.len_,f,aHU m,goInt]
 .cases h;cases g;obtain⟨e,c⟩:=c;refine bH.still d ?_ (.int _ _);simp[Builtin.len_,f,aHU c,goInt]
 .cases h;obtain⟨e,c⟩:=c;obtain⟨r,sz,y,u,rfl,_⟩:=g.eO;refine bH.still d ?_ (.int _ _);simp[Builtin.len_,f,aHU c,goInt]
 .cases h;cases g;obtain⟨e,c⟩:=c;refine bH.still d ?_ (.int _ _);simp[Builtin.len_,f,aHU c,goInt]
 .cases h;cases g;obtain⟨e,q,c⟩:=c;refine bH.still d ?_ (.int _ _);simp[Builtin.len_,f,aHU c,goInt]
 .rename_i b;obtain⟨e,q,c⟩:=c
  split at h
  .rename_i es clock hm;rw[dH]at h;cases h;cases g with
   |map _ r sz j=>
    obtain⟨es',o,n,p⟩:=d.map hm j;refine bH.still d ?_ (.int _ _);simp[Builtin.len_,f,aHU c,goInt,dF o,n]
  .rename_i es hm;rw[dH]at h;cases h;cases g with
   |map _ r sz j=>
    obtain⟨l,clock,es',o,n,_,_,_,p,_⟩:=d.lmap hm j;refine bH.still d ?_ (.int _ _);simp[Builtin.len_,f,aHU c,goInt,dF o,<-p,n.length_eq]
  .cases h
 .exact c.elim
 .exact c.elim
 .cases h
def JX (h:bt .cap x st=.ok v st')(c:WR ρ st w)(f:VR ρ x x')(d:P.underlying t=some (.slice e))(ats:Array TypeId)(a:ats[0]?=some t):
 bH P (Builtin.cap_ ats ty #[x']) ρ st w v st':=by
 have e:bt .cap x st=(match (generalizing:=false) x with| .ae=>zn .i64 st 0| .slice _ _ _ cap grow=>bE (Nat.beq grow 0) (zn .i64 st cap) (.ok (.ir cap) st)|_=>.bad):=by cases x<;>rfl
 rw[e]at h
 split at h
 .cases h;cases f;refine bH.still c ?_ (.int _ _);simp[Builtin.cap_,a,aHU d,goInt]
 .rename_i b off len cap grow;obtain⟨r,sz,n,j,rfl,m,p,l,k,o⟩:=f.eO;simp only[aO,aIs]at h
  split at h
  .rename_i hg;cases h;obtain⟨g,_⟩:=k hg;subst g;refine bH.still c ?_ (.int _ _);simp[Builtin.cap_,a,aHU d,goInt]
  .cases h;refine bH.still c (v':=.int .i64 (j:Int)) ?_ (.ir _ _ (by exact_mod_cast l));simp[Builtin.cap_,a,aHU d,goInt]
 .cases h
def qD (e bytes:Nat)(z:List CV)(l c:CV)(st:St):OR:=
 match l,c with
 | .int _ (.ofNat l),.int _ (.ofNat c)=>
   bE (Bool.and (Nat.ble l c) (Bool.and (Nat.ble (Nat.mul bytes c) 281474976710656) (Nat.ble c 9223372036854775807)))
    (.ok (.slice st.nx 0 l c 0) ⟨st.m.put st.nx (some (.cells (cH c z) e false)),st.nx+1⟩) .bad
 |_,_=>.bad
def G9 {bytes:TypeId}{l c:CV}{f j:Value}(h:qD e bytes z l c st=.ok v st')(p:WR ρ st w)(u:VR ρ l f)(y:VR ρ c j)
 (q:P.underlying t=some (.slice e)) (hi:P.info? e=some i) (o:i.zero=some z') (A:i.bytes=bytes) (b:z'.cells.size=i.size) (k:∀ρ,eM ρ z z'.cells.toList):
 bH P (Instr.makeSlice t f j) ρ st w v st':=by
 unfold qD at h
 split at h
 .rename_i k1 l n c;simp only[aO,aIf,aIr]at h
  split at h
  .rename_i hg;cases h;cases u;cases y;obtain⟨F,E,D⟩:=hg
   have m:=run_make w t e i z' q hi o k1 n (l:Int) (c:Int) (aKf _) (Int.ofNat_le.2 F) (by
    rw[A];have:bytes*c<=281474976710656:=E;have B:((bytes*c:Nat):Int)<=281474976710656:=Int.ofNat_le.2 this
    rwa [Int.natCast_mul]at B) (Int.ofNat_le.2 D)
   have d:(madeCells z'.cells (c*i.size)).toList=(List.replicate c z'.cells.toList).flatten:=by
    rw[<-b,madeCells,aJv,aKB];exact qz z'.cells c
   obtain⟨a,G,C,g⟩:=bp.newRow (P:=P) (t:=e) (s:=cH c z) (l:=(madeCells z'.cells (c*i.size)).toList) p (λa _=>by
    rw[d];exact(k a).flatten c) false
   refine⟨_,_,a,m,?_,?_⟩
   .have:=VR.slice (ρ:=a) st.nx 0 l c w.heap.size _ C
    simpa using this
   .rw[aJp]at g;exact g
  .cases h
 .cases h
inductive IS where
 |slice|str|zeros
def cT (k:IS)(size:Nat)(z:List CV)(x:CV)(st:St):Option (Nat×List CV):=
 match k,x with
 | .slice,.ae=>some (0,[])
 | .slice,.slice b off len cap grow=>(match dE size len (.slice b off len cap grow) st with|some s=>some (len,s)|none=>none)
 | .str,.str l=>some (l.length,l.map bP)
 | .zeros,.int _ (.ofNat n)=>bE (Nat.ble n 1099511627776) (some (n,cH n z)) none
 |_,_=>none
def Ed (P:Program)(k:IS)(u:TypeId)(size:Nat):Prop:=
 match k with
 | .slice=>∃e,P.underlying u=some (.slice e)
 | .str=>P.underlying u=some .string/\size=1
 | .zeros=>∃j,P.underlying u=some (.int j)
def mQ (b:TypeId)(size:Nat)(zeros:Bool)(n:Nat)(d:Sem (Array Value))(base:Option Addr)(sLen sCap:Nat)(s x:Value):Sem Value:=do
 let need:=sLen+n
 if need<=sCap then
  let new<-d
  if let some a:=base then storeCells (a.add (sLen*size)) new.toList
  pure (.slice base need sCap)
 else
  if (need:Int)>IntKind.i64.max/\(zeros\/(<-typeInfo b).bytes=0)then runtimePanic (.error "growslice: len out of range")
  if Builtin.nextslicecap need sCap*(<-typeInfo b).bytes>2^48 then (if zeros then runtimePanic (.error "growslice: len out of range")else do
   if !(<-Builtin.mayShare size sLen n base x)then mark .noRoom
   unsupported (.resourceLimit "append: a slice or a string whose bytes no memory bears"))
  let c<-choose (.appendCap need sCap b)
  askRoom (c*(<-typeInfo b).bytes)
  let UF<-Builtin.firstCells size sLen s
  let new<-d
  let rest:=Builtin.zeroCells (<-zeroValue b).cells (c-need)
  pure (.slice (some (<-newRow b (UF++new++rest))) need c)
def CL {k:IS}{u size:TypeId}{n:Nat}{s:List CV}(h:cT k size z x st=some (n,s))(D:WR ρ st w)(f:VR ρ x x')
 (a:Ed P k u size) (p:P.underlying t=some (.slice e)) (hi:P.info? e=some i) (hz:i.zero=some z') (E:i.size=size) (g:z'.cells.size=size) (B:∀ρ,eM ρ z z'.cells.toList) (G:k=.zeros->i.bytes<=256):
 ∃d zeros q,eM ρ s d/\d.length=n*size/\(∀c:World,c.heap=w.heap->q.run P c=.ok d.toArray c)/\
  ∀base sLen sCap,(Builtin.append_ #[t,u] ty #[.slice base sLen sCap,x']).run P w=(mQ e size zeros n q base sLen sCap (.slice base sLen sCap) x').run P w:=by
 have o:(Go.sizeOf e).run P w=.ok size w:=by simp[Go.sizeOf,typeInfo,hi,E]
 unfold cT at h
 split at h
 .cases h;cases f;obtain⟨N,a⟩:=a;refine⟨[],false,Builtin.firstCells size 0 (.slice none 0 0),eM.nil ρ,wb,λc _=>ads,λbase sLen sCap=>?_⟩;simp only[Builtin.append_,aJd,aHG,aHI,Sem.run_bind,aHU p,aHU a,Result.andThen_ok,o,Sem.run_pure,Builtin.lenOf,mQ,aHY,aIj,aHH,aHV]
  rfl
 .rename_i b off len cap grow
  split at h
  .rename_i s' C;cases h;obtain⟨N,a⟩:=a;obtain⟨d,M,L,K⟩:=mu (P:=P) C (λ_ h _=>by cases h) D f;obtain⟨r,sz,S,R,rfl,_⟩:=f.eO;refine⟨d,false,_,M,L,K,λbase sLen sCap=>?_⟩;simp only[Builtin.append_,aJd,aHG,aHI,Sem.run_bind,aHU p,aHU a,Result.andThen_ok,o,Sem.run_pure,Builtin.lenOf,mQ,aHY,aIj,aHH,aHV]
   rfl
  .cases h
 .rename_i m;cases h;cases f;obtain⟨a,rfl⟩:=a;refine⟨(m.map λy:UInt8=>Value.int .u8 (y.toNat:Int)),false,Builtin.firstCells 1 m.length (.string (gF m)),?_,wb,λc _=>?_,λbase sLen sCap=>?_⟩
  .exact eM.bytes ρ m
  .simp only[Builtin.firstCells,Sem.run_pure]
   congr 1
   apply Array.ext'
   have l:(gF m).extract 0 m.length=gF m:=by
    have h:(gF m).extract 0 (gF m).size=gF m:=ByteArray.extract_zero_size
    rwa [lz]at h
   rw[l];simp[gF]
  .simp only[Builtin.append_,aJd,aHG,aHI,Sem.run_bind,aHU p,aHU a,Result.andThen_ok,o,Sem.run_pure,Builtin.lenOf,mQ,aHY,aIj,aHH,aHV,lz]
   rfl
 .rename_i j m;simp only[aO,aIr]at h
  split at h
  .rename_i hm;cases h;cases f;obtain⟨Q,a⟩:=a
   have F:IntKind.i64.wrap (Int.ofNat n)=n:=by
    show IntKind.i64.wrap (n:Int)=n;exact IntWalk.i64_in _ uM
   have O:∀c:World,(zeroValue e).run P c=.ok z' c:=λc=>abA
   refine⟨(List.replicate n z'.cells.toList).flatten,true,(if n*size=0 then pure #[]else do pure (Builtin.zeroCells (<-zeroValue e).cells n)),?_,?_,λc _=>?_,λbase sLen sCap=>?_⟩
   .exact(B ρ).flatten n
   .simp[g]
   .split
    .rename_i h0
     have:(List.replicate n z'.cells.toList).flatten=[]:=by
      apply aIh.1;simp[g,h0]
     rw[this];rfl
    .simp only[Sem.run_bind,O,Result.andThen_ok,Sem.run_pure]
     congr 1
     apply Array.ext';rw[Builtin.zeroCells,aJv,aKB];exact qz z'.cells n
   .have h1:¬((n:Int)<0):=by omega
    have J:¬((n:Int)*i.bytes>2^48):=by
     have I:n*i.bytes<=1099511627776*256:=aKK hm (G rfl);have A:=Int.ofNat_le.2 I;rw[Int.natCast_mul]at A;exact λH=>absurd (Int.lt_of_lt_of_le H A) xI
    simp only[Builtin.append_,aJd,aHG,aHI,Sem.run_bind,aHU p,aHU a,Result.andThen_ok,o,Sem.run_pure,asInt,asIntOf,F,Sem.run_ite,typeInfo,run_program,hi,
     aHM h1,aHM J,aJS,mQ,aIj,aIb,aHH,aHV]
    rfl
  .cases h
 .cases h
end
end
