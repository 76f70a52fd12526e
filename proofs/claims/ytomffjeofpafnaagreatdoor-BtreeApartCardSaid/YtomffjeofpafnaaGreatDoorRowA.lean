import Derived.Deep.Slices
import Derived.Deep.Fields
import Derived.ChangeSame
import Derived.ProofKit
import Derived.OpenShut
import Derived.Below
import Derived.Test.YtomffjeofpafnaaGreatDoorLawB
import Derived.Test.YtomffjeofpafnaaGreatDoorSndE
namespace Lim
open Go Go.RowKit Go.ChangeShapes Go.WideShapes Go.Deep Go.Proofs
noncomputable section
set_option maxRecDepth 100000
section
variable {H:Type} {enc:TypeId×Value->H} {P:Program} {w:World} {base:Nat} {spare:Nat->Bool} {held:Bool}
theorem u9 {t e:TypeId}{fs:Array Field}{fuel:Nat}{cs:List Value}{x:DataW H×List MemPlace}(ht:P.underlying t=some (.slice e))(he:P.underlying e=some (.struct fs))
 (jS:oneCellFields P fs=true) (hC:P.cellsOf e=fs.size) (h:DataW.trod enc P w base spare held fuel t cs=some x):
 (cs=[.slice none 0 0]/\x=(.nil,[]))\/
 ∃(a:Addr) (len cap m:Nat) (D:Nat->DataW H) (Pl:Nat->List MemPlace),cs=[.slice (some a) len cap]/\base<=a.block/\len<=cap/\cap<=maxLen/\m=(if spare a.block then cap else len)/\
  x=(.slice ((List.range len).map D) ((List.range (m-len)).map fun j=>D (len+j)),MemPlace.row a (m*fs.size)++(List.range m).flatMap Pl)/\
  ∀i,i<m->∃(ys:List (DataW H×List MemPlace)) (n:Nat),D i= .agg (ys.map (·.1))/\Pl i=ys.flatMap (·.2)/\ys.length=fs.size/\
   ∀(j:Nat) (f:Field),fs[j]?=some f->∃(v:Value) (y:DataW H×List MemPlace),w.cell? (a.add (i*fs.size+j))=some v/\ys[j]?=some y/\DataW.trod enc P w base spare held n f.type [v]=some y:=by
 rcases open_slice ht h with h0|⟨a,len,cap,m,n,D,Pl,tJ,hb,hl,hm,tF,hx,hi⟩
 ·exact .inl h0
 ·refine .inr ⟨a,len,cap,m,D,Pl,tJ,hb,hl,hm,tF,by rw[hC]at hx;exact hx,fun i him=> ?_⟩;obtain⟨cs',hc,zl⟩:=hi i him;rw[hC]at hc;obtain⟨ys,n',hn',hy,hlen,hyl,hf⟩:=DataW.trod_struct he zl;obtain⟨_,oF,nR⟩:=World.cells?_some hc;simp only[aCD]at hy;refine⟨ys,n',hy.1,hy.2,hyl,fun j f hj=> ?_⟩;obtain⟨ho,hk⟩:=hone_of jS j f hj;have hjl:j<fs.size:=(aBI.1 hj).1;have lj:=nR j hjl;have hv:cs'[j]?=some (cs'[j]'(by omega)):=aAV (by omega);have h1:=hf j f hj;rw[ho,hk]at h1
  have OM:(cs'.drop j).take 1=[cs'[j]'(by omega)]:=by
   rw[aBj (by omega)]
   rfl
  rw[OM]at h1;have hys:ys[j]?=some (ys[j]'(by omega)):=aAV (by omega);refine⟨_,_, ?_,hys,h1.trans hys⟩;rw[<-Go.Deep.add_add,lj,hv]
end
structure StepAt (W:World)(blk o:Nat)(p:StepP):Prop where
 c0:W.cell? ⟨blk,o,none⟩=some (.int .i64 p.kind)
 c1:W.cell? ⟨blk,o+1,none⟩=some (.string (fI p.key))
 c2:W.cell? ⟨blk,o+2,none⟩=some (.string (fI p.val))
 c3:W.cell? ⟨blk,o+3,none⟩=some (.int .i64 p.many)
 l1:p.size<=281474976710656
theorem DV {H:Type}{P:Program}{e:TypeId}{d:DataW H}{l:List (DataW H)}(hd:d∈l){n:Nat}(hn:n∈DataW.weights P e d):n∈DataW.weightsAll P e l:=by
 induction l with
 |nil=>cases hd
 |cons x r ih=>
  simp only[DataW.weightsAll,aBe];rcases aAX.1 hd with rfl|h
  ·exact .inl hn
  ·exact .inr (ih h)
theorem steps_read {H:Type}{enc:TypeId×Value->H}{W:World}{fuel:Nat}{p:Option Addr}{len cap:Nat}{x:DataW H×List MemPlace}
 (hf:DataW.trod enc Tryz.prog W 0 (fun _=>true) true fuel 22 [.slice p len cap]=some x) (hwt:∀n∈DataW.weights Tryz.prog 22 x.1,n<=140737488351232):
 len<=9223372036854775807/\∀k,k<len->∃q:StepP,∃blk off,p=some ⟨blk,off,none⟩/\StepAt W blk (off+k*4) q:=by
 rcases u9 Tryz.underlying22 Tryz.underlying31 (by kernel_rfl) (by kernel_rfl) hf with⟨tJ,_⟩|⟨a,l,c,m,D,Pl,tJ,_,hl,hm,hme,hx,hi⟩
 ·simp at tJ;obtain⟨rfl,rfl,rfl⟩:=tJ;exact⟨by omega,fun k hk=>by omega⟩
 ·simp at tJ;obtain⟨rfl,rfl,rfl⟩:=tJ;unfold maxLen at hm;refine⟨by omega,fun k hk=> ?_⟩
  have abL:a.spot=none:=by
   obtain⟨ys,n,_,_,_,ZB⟩:=hi 0 (by rw[hme];simp;omega);obtain⟨v0,y0,c0,_,t0⟩:=ZB 0 _ rfl
   simpa[Addr.add]using World.cell?_spot c0
  obtain⟨ys,n,hD,_,hyl,ZB⟩:=hi k (by rw[hme];simp;omega);obtain⟨v0,y0,c0,x0,t0⟩:=ZB 0 _ rfl;obtain⟨v1,y1,c1,x1,t1⟩:=ZB 1 _ rfl;obtain⟨v2,y2,c2,x2,t2⟩:=ZB 2 _ rfl;obtain⟨v3,y3,c3,x3,t3⟩:=ZB 3 _ rfl;obtain⟨kd,e0,z0,_⟩:=DataW.trod_int Tryz.underlying3 t0;obtain⟨ky,e1,z1,_⟩:=DataW.trod_string Tryz.underlying9 t1;obtain⟨vl,e2,z2,_⟩:=DataW.trod_string Tryz.underlying9 t2;obtain⟨mn,e3,z3,_⟩:=DataW.trod_int Tryz.underlying3 t3;simp only[aCC,and_true]at e0 e1 e2 e3;subst e0 e1 e2 e3;obtain⟨b,off,spot⟩:=a;dsimp only at abL;subst abL;have e:∀i,((⟨b,off,none⟩:Addr).add i)=⟨b,off+i,none⟩:=fun i=>by unfold Addr.add;split<;>simp_all
  simp only[e]at c0 c1 c2 c3;refine⟨⟨kd,ky.data.toList,vl.data.toList,mn⟩,b,off,rfl,c0, ?_, ?_,c3, ?_⟩
  ·rw[sn];exact c1
  ·rw[sn];exact c2
  ·subst z0 z1 z2 z3
   have hys:ys.map (·.1)=[.lit (.int .i64 kd), .lit (.string ky.data.toList), .lit (.string vl.data.toList), .lit (.int .i64 mn)]:=by
    have hy4:ys.length=4:=hyl;apply aCY;intro j;rw[aBN];rcases j with _|_|_|_|j
    ·rw[x0];rfl
    ·rw[x1];rfl
    ·rw[x2];rfl
    ·rw[x3];rfl
    ·rw[aBL (by omega)];rfl
   have hwk:DataW.weights Tryz.prog 31 (D k)=[ky.data.toList.length,vl.data.toList.length]:=by
    rw[hD,hys];simp[DataW.weights,DataW.weightsEach,Tryz.underlying31]
   have jx:∀n,n∈DataW.weights Tryz.prog 31 (D k)->n∈DataW.weights Tryz.prog 22 x.1:=fun n hn=>by
    rw[hx];simp only[DataW.weights,Tryz.underlying22,aAX,aBe];right;left;exact DV (aBv.2 ⟨k,List.mem_range.2 hk,rfl⟩) hn
   have b1:=hwt _ (jx ky.data.toList.length (by rw[hwk];simp));have b2:=hwt _ (jx vl.data.toList.length (by rw[hwk];simp));unfold StepP.size;dsimp only;omega
open Go Go.RowKit Go.ChangeShapes Go.WideShapes Go.Deep Go.Proofs
structure Left4 (W w':World):Prop where
 os:w'.os=W.os
 output:w'.output=W.output
 size:W.heap.size<=w'.heap.size
 block:∀k,k<W.heap.size->w'.heap[k]?=W.heap[k]?
theorem Left4.frame {W w':World}(h:Left4 W w')(may:MemPlace->Prop):W.keptBut w' may:=by
 refine⟨h.os,h.output,fun i hi=> ?_⟩;rw[h.block i hi]
 split<;>simp_all
theorem Left4.below {W w':World}(h:Left4 W w'):Below W.heap.size W {w' with tape:=W.tape}:=⟨h.os,rfl,h.output,h.size,h.block⟩
theorem Left4.trod {H:Type}{enc:TypeId×Value->H}{P:Program}{t:TypeId}(hl:laidOutB P=true)(hr:P.readableRec t=true)(gw:t<P.types.size){W W':World}{v:Value}{d:DataW H}{ps:List MemPlace}
 (h:DataW.Trod enc P W 0 (fun _=>true) true t v d ps) (hb:Left4 W W') (hlt:∀x∈ps,x.block<W.heap.size):
 DataW.Trod enc P W' 0 (fun b=>decide (b<W.heap.size)) true t v d ps:=
 WideElems.Trod_stays hl hr gw h (fun x hx=>by
  have:=hb.below.same (hlt x hx);cases x<;>exact this) (fun x hx=>by simpa using hlt x hx)
theorem YH {P:Nat->StepP->Prop}:∀n,(∀k,k<n->∃x,P k x)->∃S:List StepP,S.length=n/\∀k (h:k<S.length),P k S[k]:=by
 intro n
 induction n with
 |zero=>intro _;exact⟨[],rfl,fun k h=>by simp at h⟩
 |succ n ih=>
  intro h;obtain⟨S,h1,h2⟩:=ih fun k hk=>h k (by omega);obtain⟨x,hx⟩:=h n (by omega);refine⟨S++[x],by simp[h1],fun k hk=> ?_⟩
  by_cases rD:k<S.length
  ·rw[List.getElem_append_left rD];exact h2 k rD
  ·have:k=n:=by simp at hk;omega
   subst this;subst h1
   simpa using hx
theorem Ty (ρ:Ren)(l:List Value):eu ρ (List.replicate l.length .any) l:=
 ⟨by simp,fun i v v' h1 h2=>by
  rw[List.getElem?_replicate]at h1
  split at h1
  ·cases h1;exact .any _
  ·cases h1⟩
theorem Kl (ρ:Ren)(c:List Value):∀(S:List StepP) (o:Nat),(∀k (h:k<S.length),c[o+k*4]?=some (.int .i64 S[k].kind)/\c[o+k*4+1]?=some (.string (fI S[k].key))/\c[o+k*4+2]?=some (.string (fI S[k].val))/\c[o+k*4+3]?=some (.int .i64 S[k].many))->
 eu ρ (S.map wF).flatten ((c.drop o).take (S.length*4)):=by
 intro S
 induction S with
 |nil=>intro o _;simp;exact eu.nil ρ
 |cons p r ih=>
  intro o h;obtain⟨h0,h1,h2,h3⟩:=h 0 (by simp);simp only[aDE,aBJ,List.getElem_cons_zero]at h0 h1 h2 h3
  have hlen:o+3<c.length:=by
   rcases aCn (o+3) c.length with h|h
   ·exact h
   ·rw[aBL h]at h3;cases h3
  have e:c.drop o= .int .i64 p.kind:: .string (fI p.key):: .string (fI p.val):: .int .i64 p.many::c.drop (o+4):=by
   have g0:c[o]'(by omega)= .int .i64 p.kind:=by have:=aAV (l:=c) (i:=o) (by omega);rw[h0]at this;exact(aCB this).symm
   have g1:c[o+1]'(by omega)= .string (fI p.key):=by have:=aAV (l:=c) (i:=o+1) (by omega);rw[h1]at this;exact(aCB this).symm
   have g2:c[o+2]'(by omega)= .string (fI p.val):=by have:=aAV (l:=c) (i:=o+2) (by omega);rw[h2]at this;exact(aCB this).symm
   have g3:c[o+3]'(by omega)= .int .i64 p.many:=by have:=aAV (l:=c) (i:=o+3) (by omega);rw[h3]at this;exact(aCB this).symm
   rw[aBj (show o<c.length by omega),aBj (show o+1<c.length by omega),aBj (show o+1+1<c.length by omega),aBj (show o+1+1+1<c.length by omega),g0,g1];rw[show c[o+1+1]'(by omega)= .string (fI p.val)from g2,show c[o+1+1+1]'(by omega)= .int .i64 p.many from g3]
  have el:(p::r).length*4=r.length*4+4:=by simp;omega
  rw[e,el,aCP,aCP,aCP,aCP];rw[aBA,aCo];refine eu.cons (.int _ _) (eu.cons (.str _) (eu.cons (.str _) (eu.cons (.int _ _) (ih (o+4) fun k hk=> ?_))));have:=h (k+1) (by simp;omega);have e4:∀j,o+(k+1)*4+j=o+4+k*4+j:=fun j=>by omega
  have e5:o+(k+1)*4=o+4+k*4:=by omega
  simp only[e5,List.getElem_cons_succ]at this;exact this
theorem Tx {W:World}{p:Option Addr}{len cap:Nat}(hok:(p=none/\len=0/\cap=0)\/∃b off,p=some ⟨b,off,none⟩/\∃row cells,W.shape? b=some (row,cells))(hst:∀k,k<len->∃q:StepP,∃blk off,p=some ⟨blk,off,none⟩/\StepAt W blk (off+k*4) q):
 ∃(S:List StepP) (ρ:Ren) (st:St) (v:CV),WR ρ st W/\VR ρ v (.slice p len cap)/\wJ st v S/\cT st/\S.length=len/\(∀q∈S,q.size<=281474976710656)/\
  ∀b blk r sz,st.mem.get b=some blk->ρ b=some (r,sz)->b∈nL v/\∃s o,blk= .ro s o/\W.heap[r]?=some o:=by
 rcases hok with⟨rfl,rfl,rfl⟩|⟨b,off,rfl,row,cells,OF⟩
 ·exact⟨[],fun _=>none,⟨PT.nil,0⟩, .ae,⟨fun b blk r sz h=>by simp at h,fun b b' k k' r s s' h=>by simp at h,fun b x hx=>by cases hx⟩, .ae, .inl ⟨rfl,rfl⟩,fun b hb=>rfl,rfl,by simp,fun b blk r sz h=>by simp at h⟩
 ·obtain⟨S,hS,nR⟩:=YH (P:=fun k q=>StepAt W b (off+k*4) q) len fun k hk=>by
   obtain⟨q,blk,df,e,h⟩:=hst k hk;cases e;exact⟨q,h⟩
  obtain⟨c,lo,hi,ho⟩:∃c lo hi,W.heap[b]?=some (.cells c row (lo,hi)):=by
   unfold World.shape? at OF
   split at OF
   ·rename_i c t fr hb;cases OF;obtain⟨lo,hi⟩:=fr;exact⟨c,lo,hi,hb⟩
   ·cases OF
  have lj:∀o x,W.cell? ⟨b,o,none⟩=some x->c.toList[o]?=some x:=fun o x h=>by
   simp only[World.cell?,ho]at h
   simpa using h
  have tJ:∀k (h:k<S.length),c.toList[off+k*4]?=some (.int .i64 S[k].kind)/\c.toList[off+k*4+1]?=some (.string (fI S[k].key))/\c.toList[off+k*4+2]?=some (.string (fI S[k].val))/\c.toList[off+k*4+3]?=some (.int .i64 S[k].many):=fun k hk=>by
   have h:=nR k hk;exact⟨lj _ _ h.c0,lj _ _ h.c1,lj _ _ h.c2,lj _ _ h.c3⟩
  have hle:S.length=0\/off+S.length*4<=c.toList.length:=by
   by_cases h0:S.length=0
   ·exact .inl h0
   ·right;obtain⟨_,_,_,h3⟩:=tJ (S.length-1) (by omega);rcases aCn (off+(S.length-1)*4+3) c.toList.length with h|h
    ·omega
    ·rw[aBL h]at h3;cases h3
  have hVR:∀ρ:Ren,eu ρ (List.replicate (c.toList.take off).length .any++(S.map wF).flatten) (c.toList.take (List.replicate (c.toList.take off).length CV.any++(S.map wF).flatten).length):=fun ρ=>by
   have h1:=(Ty ρ (c.toList.take off)).app (Kl ρ c.toList S off tJ);have h2:=h1.len
   have e:c.toList.take (List.replicate (c.toList.take off).length CV.any++(S.map wF).flatten).length=c.toList.take off++(c.toList.drop off).take (S.length*4):=by
    rw[h2];rcases hle with h0|h0
    ·rw[h0,aDE,aCI,aBQ,aBh];rw[<-aCh,aBa (l:=c.toList) (i:=c.toList.length) (aAU _)]
    ·rw[aAY,aBh,aBh,aBo,aBH (by omega),aBH (by omega),List.take_add]
   rw[e];exact h1
  have hfl:(S.map wF).flatten.length=S.length*4:=by
   have:=fA (L:=S.map wF) (w:=4) fun x hx=>by obtain⟨q,_,rfl⟩:=aBv.1 hx;rfl
   simpa using this
  have hll:(List.replicate (c.toList.take off).length CV.any++(S.map wF).flatten).length<=c.size:=by
   rw[aAY,aBz,aBh,hfl];have:c.toList.length=c.size:=aCx;rcases hle with h0|h0<;>omega
  refine⟨S,fun q=>if q=0 then some (b,c.size)else none,⟨PT.nil.put 0 (some (.ro (List.replicate (c.toList.take off).length CV.any++(S.map wF).flatten) (.cells c row (lo,hi)))),1⟩, .slice 0 off len cap 0,⟨fun q blk r sz h1 h2=> ?_,fun q q' k k' r s s' h1 h2 h3 h4=> ?_,fun q x hx=> ?_⟩, .slice 0 off len cap b c.size (aBb rfl), .inr ⟨0,off,cap,by rw[hS],Nat.one_pos,fun i hi=>⟨_,_,PT.cP _ _ _, ?_, ?_⟩⟩,fun q hq=> ?_,hS,fun q hq=> ?_,fun q blk r sz h1 h2=> ?_⟩
  ·by_cases hq:q=0
   ·subst hq;rw[PT.cP]at h1;cases h1;simp only[aBr,aCs,aCD]at h2;obtain⟨rfl,rfl⟩:=h2;exact⟨_,ho, .ro _ c row lo hi hll (hVR _)⟩
   ·rw[aAZ hq]at h2;cases h2
  ·have a1:q=0:=by
    by_cases hq:q=0
    ·exact hq
    ·rw[aAZ hq]at h3;cases h3
   have a2:q'=0:=by
    by_cases hq:q'=0
    ·exact hq
    ·rw[aAZ hq]at h4;cases h4
   rw[a1,a2]
  ·show q<1
   by_cases hq:q=0
   ·omega
   ·rw[aAZ hq]at hx;cases hx
  ·rcases hle with h0|h0
   ·omega
   ·rw[aAY,aBz,aBh,hfl];have:c.toList.length=c.size:=aCx;omega
  ·rcases hle with h0|h0
   ·omega
   ·have e1:(List.replicate (c.toList.take off).length CV.any).length=off:=by rw[aBz,aBh];omega
    rw[<-aDk,aDn e1,pE (L:=S.map wF) (w:=4) (fun x hx=>by obtain⟨q,_,rfl⟩:=aBv.1 hx;rfl) i (by simp;omega)];rw[aBj (by simpa using hi),aCo,aCm (by simp[wF])];simp
  ·show(PT.nil.put 0 _).get q=none;rw[PT.cZ _ _ _ _ (by show q≠0;have:1<=q:=hq;omega)];rfl
  ·obtain⟨i,hi,rfl⟩:=aBT hq;exact(nR i hi).l1
  ·by_cases hq:q=0
   ·subst hq;rw[PT.cP]at h1;cases h1;simp only[aBr,aCs,aCD]at h2;obtain⟨rfl,rfl⟩:=h2;exact⟨by simp[nL],_,_,rfl,ho⟩
   ·have h2:(if q=0 then some (b,c.size)else none)=some (r,sz):=h2;rw[aAZ hq]at h2;cases h2
open Go Go.RowKit Go.ChangeShapes Go.WideShapes Go.Deep Go.Proofs
theorem walk3 (k v other:ByteArray){W:World}{p:Option Addr}{len cap:Nat}(hok:(p=none/\len=0/\cap=0)\/∃b off,p=some ⟨b,off,none⟩/\∃row cells,W.shape? b=some (row,cells))(hl:len<=9223372036854775807)(hst:∀k,k<len->∃q:StepP,∃blk off,p=some ⟨blk,off,none⟩/\StepAt W blk (off+k*4) q):
 Calls Tryz.prog 3 #[.slice p len cap, .string k, .string v, .string other] W fun e w'=>e= .returned (.bool true)/\Left4 W w':=by
 obtain⟨S,ρ,st,cv,hw,hv,hA,hf,hS,hsz,Ib⟩:=Tx hok hst;obtain⟨y,st',⟨_,hc⟩,rfl,hb⟩:=oJ.V2 zY Qq (f:=3) rfl (YF (fun s hs=>VF hs) hA hf (by omega) hsz k.data.toList v.data.toList other.data.toList)
 have OC:∀s:ByteArray,VR ρ (.str s.data.toList) (.string s):=fun s=>by
  have:=VR.str (ρ:=ρ) s.data.toList
  rwa [sn]at this
 refine(hc ρ W #[.slice p len cap, .string k, .string v, .string other] hw (eu.cons hv (eu.cons (OC k) (eu.cons (OC v) (eu.cons (OC other) (eu.nil ρ)))))).mono ?_;rintro e w' ⟨v',ρ',rfl,yc,Io⟩;cases yc;refine⟨rfl,Io.os,Io.output,Io.size,fun k hk=> ?_⟩
 by_cases hx:∃b blk sz,st.mem.get b=some blk/\ρ b=some (k,sz)
 ·obtain⟨b,blk,sz,h1,h2⟩:=hx;obtain⟨h3,s,o,rfl,h4⟩:=Ib b blk k sz h1 h2;obtain⟨o',g1,g2⟩:=Io.wr.at' b _ k sz ((hb b h3).trans h1) (Io.ext _ _ h2);cases g2;rw[g1,h4]
 ·exact Io.kept k hk fun b blk sz h1 h2=>hx ⟨b,blk,sz,h1,h2⟩
