import Derived.Test.YtomffjeofpafnaaGreatDoorWa
import Derived.Test.YtomffjeofpafnaaGreatDoorLimJ
namespace Lim
open Go
noncomputable section
set_option linter.defProp false
set_option maxRecDepth 100000
section
variable {X:List Nat}{v:CV}{k:Nat}{L:List CV}{i:Int}
def R.same {f:Nat}{args:List CV}{st:St}{x:CV}{Q:CV->St->Prop}(h:R f args st λv st'=>v=x/\st'=st)(hq:Q x st):R f args st Q:=R.mono h (by rintro _ _ ⟨rfl,rfl⟩;exact hq)
def HO (e:Nat)(z:List CV)(st:St):bM e 0 (cM 0 z) [] st=.ok (.slice st.nx 0 0 0 0) (St.new st (.cells [] e false)):=rfl
def Own.empty (st:St)(k e:Nat):Own (St.new st (.cells [] e false)) (.slice st.nx 0 0 0 0) k e [] [st.nx]:=.inr (.inl ⟨st.nx,[],e,false,rfl,rfl,rfl,uG⟩)
def pJ (k e:Nat)(v:CV)(L:List CV)(st:St)(x:CV)(st':St):Prop:=∃F',Kp [] st st'/\Own st' x k e L F'/\(∀b∈F',st.nx<=b/\b<st'.nx)/\(v=.ae->x=.ae)
def EY {st:St}{e:Nat}(bytes:Nat){z:List CV}(h:Sl st X v k L)(hk:0<k)(kz:bj L=true)(hsz:L.length*(bytes+1)<=140737488355328):
 us (ai .eql (some .slice) true v .ae st) λx1=>aD x1 (pJ k e v L st .ae st)
  (upon (bM e 0 (cM 0 z) [] st) λx2 s1=>upon (bT e k bytes x2 (de .slice k z v s1) s1) λx3 s2=>pJ k e v L st x3 s2):=by
 by_cases hv:v=.ae
 .subst hv
  have:L=[]:=by
   rcases h with⟨_,h⟩|⟨b,off,len,cap,grow,h1,_⟩
   .exact h
   .cases h1
  subst this;simp;exact⟨[],Kp.refl _ _,.inl ⟨rfl,rfl,rfl⟩,uG,λ_=>rfl⟩
 .have h1:us (ai .eql (some .slice) true v .ae st)=us (.ok (.bool false) st):=by
   rcases h with⟨h,_⟩|⟨b,off,len,cap,grow,h,_⟩
   .exact absurd h hv
   .subst h;rfl
  rw[h1];have pP:Kp [] st (St.new st (.cells [] e false)):=(Kp.refl [] st).new _;have lq:=(h.dW (Y:=[]) uG).mono pP;obtain⟨n,h2,h3⟩:=lq.src z;obtain⟨v',st',F',h4,h5,h6,h7⟩:=(Own.empty st k e).append (bytes:=bytes) (T:=L) hk h2 kz uG (by simpa using hsz);simp only[af,ag,aEM,aFa,HO,aS,h3,h4];refine⟨F',pP.trans h6 uG,by simpa using h5,λb hb=>?_,λe=>absurd e hv⟩;obtain⟨h8,h9⟩:=h7 b hb;refine⟨?_,h9⟩;simp only[aGd,wB]at h8;omega
def wZ {st:St}{s:List UInt8}(h:Sl st X v 1 (aj s))(hs:s.length<=1000000000):R 113 [v] st (pJ 1 5 v (aj s) st):=by
 refine bP ?_;rw[alf];exact EY 1 h qE (sI s) vR
def ajt {st:St}(h:Sl st X v 1 L)(ho:bj L=true)(hs:L.length<=1000000000):R 64 [v] st (pJ 1 4 v L st):=by
 refine bP ?_;rw[w64];exact EY 1 h qE ho qE
def tW {st:St}(h:Sl st X v 4 L)(ho:bj L=true)(hs:L.length<=1000000000):R 50 [v] st (pJ 4 109 v L st):=by
 refine bP ?_;rw[w50];exact EY 48 h qE ho qE
def A4 {st:St}(h:Sl st X v 1 L)(ho:bj L=true)(hs:L.length<=1000000000):R 106 [v] st (pJ 1 3 v L st):=by
 refine bP ?_;rw[aln];exact EY 8 h qE ho qE
abbrev jU:=List UInt8
abbrev rU:=Nat×jU
structure bf where
 aA:List jU
 waits:List rU
 done:Int
 dead:Bool
 set:Bool
 left:Int
 keep:List Bool
def GL:List rU->Int->Option Nat
 |[],_=>none
 |w::r,i=>if i=w.1 then some r.length else GL r i
def oq (l:List rU)(i:Int):Option Nat:=GL l.reverse i
def Ar (i:Int):oq [] i=none:=rfl
def yp (l:List rU)(w:rU)(i:Int):oq (l++[w]) i=if i=w.1 then some l.length else oq l i:=by simp[oq,GL]
def Qz {l:List rU}(h:GL l i=some k):k<l.length:=by
 induction l with
 |nil=>cases h
 |cons w r ih=>
  simp only[GL]at h
  split at h
  .cases h;simp
  .have:=ih h;simp;omega
def xI {l:List rU}(h:oq l i=some k):k<l.length:=by simpa using Qz h
def bf.cur (D:bf)(i:Nat):jU:=match oq D.waits i with|some k=>(D.waits.getD k (0,[])).2|none=>D.aA.getD i []
def iv (kept:Nat->Bool):Nat->List jU->List rU->List jU
 |_,L,[]=>L
 |i,L,w::r=>iv kept (i+1) (if kept i=true then L.set w.1 w.2 else L) r
def sC (kept:Nat->Bool)(i:Nat)(L:List jU)(W:List rU):(iv kept i L W).length=L.length:=by
 induction W generalizing i L with
 |nil=>rfl
 |cons w r ih=>simp only[iv];rw[ih];split<;>simp
def bf.settle (D:bf)(kept:Nat->Bool):bf:={D with aA:=iv kept 0 D.aA D.waits,waits:=[]}
def Av (l:List Bool)(i:Nat):Bool:=l.getD i false
def bf.Mb (D:bf)(keep:List Bool):bf:={D.settle (Av keep)with dead:=true}
def bf.tick (D:bf):bf:={D with left:=IntKind.i64.wrap (D.left-1),done:=IntKind.i64.wrap (D.done+1)}
def bf.out (D:bf):Prop:=D.set=true/\D.left=0
instance (D:bf):Decidable D.out:=by unfold bf.out;infer_instance
def bf.write (D:bf)(i:Int)(b:jU):Int×bf:=
 if D.dead=true then (20,D)else if i<0\/(D.aA.length:Int)<=i\/b.length≠512 then (1,D)
 else if D.out then (20,{D with waits:=D.waits++[(i.toNat,b)]}.Mb D.keep)else (0,{D with waits:=D.waits++[(i.toNat,b)]}.tick)
def bf.flush (D:bf):Int×bf:=if D.dead=true then (20,D)else if D.out then (20,D.Mb D.keep)else (0,(D.tick).settle λ_=>true)
def bf.read (D:bf)(i:Int):Int×jU:=if D.dead=true then (20,[])else if i<0\/(D.aA.length:Int)<=i then (1,[])else (0,D.cur i.toNat)
def qL (l:List jU):List CV:=(l.map aj).flatten
def u9 (w:rU):List CV:=I w.1::aj w.2
def ic (l:List rU):List CV:=(l.map u9).flatten
structure im (st:St)(a:Nat)(F:List Nat)(D:bf)(vl vw vk:CV)(bl bm:Nat)(Fw Fk:List Nat):Prop where
 eq:F=a::bl::bm::(Fw++Fk)
 nd:F.Nodup
 lt:∀b∈F,b<st.nx
 main:st.m.g a=some (.cells [vl,vw,.map bm,I D.done,.bool D.dead,.bool D.set,I D.left,vk] 137 false)
 aA:Row st vl 512 D.aA.length (qL D.aA) bl
 waits:Own st vw 513 195 (ic D.waits) Fw
 now:∃m,dy st bm m/\∀i,jy m i=(oq D.waits i).map λk:Nat=>I (Int.ofNat k)
 keep:Own st vk 1 4 (D.keep.map .bool) Fk
 BA:∀s∈D.aA,s.length=512
 yM:∀w∈D.waits,w.2.length=512/\w.1<D.aA.length
 size:D.aA.length<=65536
def dz (st:St)(a:Nat)(F:List Nat)(D:bf):Prop:=∃vl vw vk bl bm Fw Fk,im st a F D vl vw vk bl bm Fw Fk
def DN {l:List jU}(h:∀s∈l,s.length=512):∀x∈l.map aj,x.length=512:=by
 intro x hx;obtain⟨s,hs,rfl⟩:=aFq.1 hx;simpa using h s hs
def sh {l:List rU}{n:Nat}(h:∀w∈l,w.2.length=512/\w.1<n):∀x∈l.map u9,x.length=513:=by
 intro x hx;obtain⟨s,hs,rfl⟩:=aFq.1 hx;simpa[u9]using (h s hs).1
section
variable {st st':St} {a:Nat} {F:List Nat} {D D':bf} {vl vw vk:CV} {bl bm:Nat} {Fw Fk:List Nat}
def im.mono (h:im st a F D vl vw vk bl bm Fw Fk)(hn:st.nx<=st'.nx)(hk:∀b∈F,st'.m.g b=st.m.g b):im st' a F D vl vw vk bl bm Fw Fk:=by
 have hF:=λb hb=>hk b acM;obtain⟨m,h1,h2⟩:=h.now
 exact⟨h.eq,h.nd,λb hb=>aFg (h.lt b hb) hn,by rw[hF a (.inl rfl)];exact h.main,h.aA.mono (hF bl (.inr (.inl rfl))),h.waits.mono λb hb=>hF b (.inr (.inr (.inr (.inl hb)))),
  ⟨m,h1.mono (hF bm (.inr (.inr (.inl rfl)))),h2⟩,h.keep.mono λb hb=>hF b (.inr (.inr (.inr (.inr hb)))),h.BA,h.yM,h.size⟩
def dz.keep (h:dz st a F D)(hk:Kp X st st')(hx:∀b∈F,b∉X):dz st' a F D:=by
 obtain⟨vl,vw,vk,bl,bm,Fw,Fk,h⟩:=h;exact⟨vl,vw,vk,bl,bm,Fw,Fk,h.mono hk.nx λb hb=>hk.keep b (h.lt b hb) (hx b hb)⟩
def dz.lt (h:dz st a F D):∀b∈F,b<st.nx:=by obtain⟨vl,vw,vk,bl,bm,Fw,Fk,h⟩:=h;exact h.lt
def im.m (h:im st a F D vl vw vk bl bm Fw Fk):a∈F:=acJ
def im.apart (h:im st a F D vl vw vk bl bm Fw Fk):(a≠bl/\a≠bm/\a∉Fw/\a∉Fk)/\(bl≠bm/\bl∉Fw/\bl∉Fk)/\(bm∉Fw/\bm∉Fk)/\Fw.Nodup/\Fk.Nodup/\∀b∈Fw,b∉Fk:=by
 have nd:=h.nd;rw[h.eq]at nd;simp only[aFd,aEP,aEY,aGk,aFM]at nd;obtain⟨⟨n1,n2,n3,n4⟩,⟨n5,n6,n7⟩,⟨n8,n9⟩,On,UR,Om⟩:=nd;exact⟨⟨n1,n2,n3,n4⟩,⟨n5,n6,n7⟩,⟨n8,n9⟩,On,UR,λb h1 h2=>Om b h1 b h2 rfl⟩
def im.adq (h:im st a F D vl vw vk bl bm Fw Fk)(e1:D'.aA=D.aA)(e2:D'.waits=D.waits)(e3:D'.keep=D.keep)
 (hn:st.nx<=st'.nx) (hm:st'.m.g a=some (.cells [vl,vw,.map bm,I D'.done,.bool D'.dead,.bool D'.set,I D'.left,vk] 137 false)) (hk:∀b∈F,b≠a->st'.m.g b=st.m.g b):im st' a F D' vl vw vk bl bm Fw Fk:=by
 obtain⟨⟨n1,n2,n3,n4⟩,_⟩:=h.apart;have hF:∀b,b=bl\/b=bm\/b∈Fw\/b∈Fk->b∈F:=λb hb=>by rw[h.eq];simp only[aEP,aEY];exact .inr hb
 have kp:=λb hb=>hk b (hF b hb) (by
  intro e;subst e;rcases hb with e|e|e|e
  .exact n1 e
  .exact n2 e
  .exact n3 e
  .exact n4 e)
 obtain⟨m,h1,h2⟩:=h.now
 exact⟨h.eq,h.nd,λb hb=>aFg (h.lt b hb) hn,hm,by rw[e1];exact h.aA.mono (kp bl (.inl rfl)),by rw[e2];exact h.waits.mono λb hb=>kp b (.inr (.inr (.inl hb))),
  ⟨m,h1.mono (kp bm (.inr (.inl rfl))),by rw[e2];exact h2⟩,by rw[e3];exact h.keep.mono λb hb=>kp b (.inr (.inr (.inr hb))),
  by rw[e1];exact h.BA,by rw[e1,e2];exact h.yM,by rw[e1];exact h.size⟩
def Be (h:dz st a F D):R 63 [.ptr a 0] st λv st'=>v=I (if D.dead=true then 20 else 0)/\st'=st:=by
 obtain⟨vl,vw,vk,bl,bm,Fw,Fk,h⟩:=h;refine bP ?_;rw[w63];simp[fB,h.main]
def vu (h:dz st a F D):R 18 [.ptr a 0] st λv st'=>v=I D.aA.length/\st'=st:=by
 obtain⟨vl,vw,vk,bl,bm,Fw,Fk,h⟩:=h;obtain⟨t,g,gr,hv,h1,h2,h3⟩:=h.aA;refine bP ?_;rw[w18];subst hv;simp[fB,h.main]
def VQ (h:dz st a F D):R 20 [.ptr a 0] st λv st'=>v=.bool D.dead/\st'=st:=by
 obtain⟨vl,vw,vk,bl,bm,Fw,Fk,h⟩:=h;refine bP ?_;rw[w20];simp[j7,h.main]
def HN (h:im st a F D vl vw vk bl bm Fw Fk):
 R 134 [.ptr a 0] st λv st'=>if D.out then v=.bool true/\st'=st else v=.bool false/\Kp F st st'/\st'.nx=st.nx/\im st' a F D.tick vl vw vk bl bm Fw Fk:=by
 refine bP ?_;rw[akN]
 by_cases h1:D.set=true<;>by_cases h2:D.left=0<;>
  simp[fB,AV,sY,Bx,oK,h.main,bD,dV,cR,qR,lO,yX,iB,andThen,gV,h1,h2,bf.out]
 all_goals exact⟨(Kp.refl F st).set _ (.inl h.m) (h.lt a h.m),h.adq rfl rfl rfl (aEQ _) (by simp[h1,h2,bf.tick]) λb hb ij=>al _ _ _ _ ij⟩
end
end
section
variable {st st':St} {a:Nat} {F:List Nat} {D D':bf} {vl vw vk:CV} {bl bm:Nat} {Fw Fk:List Nat}
def zs {α:Type}{l:List α}{i:Nat}(h:i<l.length)(d:α):l.getD i d=l[i]:=by simp[List.getD,h]
def VS (h:im st a F D vl vw vk bl bm Fw Fk){i:Nat}(hi:i<D.aA.length):(D.cur i).length=512:=by
 unfold bf.cur;cases hx:oq D.waits i with
 |none=>
  show(D.aA.getD i []).length=_;rw[zs hi];exact h.BA _ (aFj ..)
 |some k=>
  have:=xI hx;show((D.waits.getD k (0,[])).2).length=_;rw[zs this];exact(h.yM _ (aFj ..)).1
def bI (s:jU):bj (aj s)=true:=sI s
def ep (l t:List CV)(h:t.length=l.length):bD l 0 t=t:=by
 unfold bD;rw[aGM,aFt,aFu qE,aFN]
def Row.An {v:CV}{k n b:Nat}{L:List (List CV)}(h:Row st v k n L.flatten b)(hw:∀x∈L,x.length=k)(hL:L.length=n){i:Nat}(hi:i<n)(Q:CV->Prop)(hq:Q (.agg L[i])):Lim.hO k k v (I i) st Q:=by
 obtain⟨t,g,gr,rfl,h1,h2,h3⟩:=h;unfold Lim.hO;rw[fO hi (.inr (aEQ _))];simp only[af,so,h3,aq,wx,aER];rw[sZ hw i qE]
 exact⟨by rw[h2];calc i*k+k=(i+1)*k:=by rw[aFW,aGT]
  _<=n*k:=aFH k hi,hq⟩
def Own.row {v:CV}{k e:Nat}{L:List CV}{F:List Nat}(h:Own st v k e L F)(hL:0<L.length):∃b n,F=[b]/\Row st v k n L b/\v=.slice b 0 n n k/\L.length=n*k/\st.m.g b=some (.cells L e true):=by
 rcases h with⟨rfl,rfl,rfl⟩|⟨b,l,t,g,rfl,rfl,rfl,h4⟩|⟨b,m,rfl,h2,h3,rfl,h5⟩
 .simp at hL
 .simp at hL
 .exact⟨b,m,rfl,⟨e,true,k,rfl,.inr rfl,h3,h5⟩,rfl,h3,h5⟩
def tC (h:im st a F D vl vw vk bl bm Fw Fk)(hw:0<D.waits.length):∃b,Fw=[b]/\vw=.slice b 0 D.waits.length D.waits.length 513/\st.m.g b=some (.cells (ic D.waits) 195 true):=by
 have hl:(ic D.waits).length=D.waits.length*513:=by
  unfold ic;rw[fJ (sh h.yM)];simp
 obtain⟨b,n,h1,h2,h3,h4,h5⟩:=h.waits.row qE;have:n=D.waits.length:=qE
 subst this;exact⟨b,h1,h3,h5⟩
def Got (s:jU)(st:St)(v:CV)(st':St):Prop:=Kp [] st st'/\s.length=512/\∃b,v=.tuple [.slice b 0 512 512 1,I 0]/\st'.m.g b=some (.cells (aj s) 5 true)/\st.nx<=b/\b<st'.nx
def zg (h:dz st a F D)(i:Int):R 67 [.ptr a 0,I i] st λv st'=>if (D.read i).1=0 then Got (D.read i).2 st v st' else v=.tuple [.ae,I (D.read i).1]/\st'=st:=by
 have h0:=h;obtain⟨vl,vw,vk,bl,bm,Fw,Fk,h⟩:=h;refine bP ?_;rw[w67];refine(Be h0).mono ?_;rintro _ _ ⟨rfl,rfl⟩;rename_i s1;unfold bf.read
 by_cases hd:D.dead=true
 .simp[hd]
 .obtain⟨t,g,gr,hv,h1,h2,h3⟩:=h.aA;have hlen:∀s:St,bo .slice vl s=.ok (I D.aA.length) s:=by intro s;subst hv;rfl
  by_cases Xy:i<0
  .simp[hd,Xy,j7]
  .by_cases Hi:(D.aA.length:Int)<=i
   .simp[hd,Xy,Hi,j7,h.main,hlen]
   .obtain⟨n,rfl⟩:∃n:Nat,i=n:=⟨i.toNat,qE⟩;have hn:n<D.aA.length:=by omega
    have gG:=h.aA;have uy:=h.lt bl acJ;have ha:=h.lt a h.m;have hbm:=h.lt bm acJ;have oO:=VS h hn;obtain⟨m,G9,Tz⟩:=h.now
    have fin:∀vf:St,Kp [] s1 vf->s1.nx<vf.nx->vf.m.g s1.nx=some (.cells (aj (D.cur n)) 142 false)->
     us (bY 512 1 (.ptr s1.nx 0) none none vf) λeP=>R 113 [eP] vf λeI s5=>Got (D.cur n) s1 (.tuple [eI,I 0]) s5:=by
     intro vf hk hb hg;have e:bY 512 1 (.ptr s1.nx 0) none none vf=.ok (.slice s1.nx 0 512 512 0) vf:=rfl;rw[e,af];have lq:Sl vf [] (.slice s1.nx 0 512 512 0) 1 (aj (D.cur n)):=.inr ⟨s1.nx,0,512,512,0,rfl,by simp[oO],⟨aEQ _,.inl rfl⟩,.inr ⟨uG,hb,_,142,false,hg,by simp[oO],by rw[aFr,aEX (by simp[oO])]⟩⟩;refine(wZ lq qE).mono ?_;rintro x st3 ⟨F',k1,k2,k3,k4⟩;refine⟨hk.trans k1 uG,oO,?_⟩;obtain⟨b,n',q1,q2,q3,q4,q5⟩:=k2.row (by simp[oO]);have:n'=512:=by simp[oO]at q4;omega
     subst this;exact⟨b,by rw[q3],q5,aGb hk.nx (k3 b (by simp[q1])).1,(k3 b (by simp[q1])).2⟩
    simp[hd,Xy,j7,fB,h.main,hlen,Int.not_le.mpr (show(n:Int)<D.aA.length by omega)];refine gG.An (L:=D.aA.map aj) (DN h.BA) uG hn _ ?_;have hma:(St.new s1 (.cells (zr 512) 142 false)).m.g a=_:=(bg _ _ _ ha).trans h.main;have uw:(aj (D.aA[n])).length=512:=by simpa using h.BA _ (aFj ..)
    have ha':a≠s1.nx:=qE
    have AK:(St.set (St.new s1 (.cells (zr 512) 142 false)) s1.nx (.cells (bD (zr 512) 0 (aj D.aA[n])) 142 false)).m.g bm=s1.m.g bm:=by rw[al _ _ _ _ qE,bg _ _ _ hbm]
    have AL:=(IsMap.lookup (.inl G9) (.int .i64 0) true n _ AK);rw[aEW rfl,Tz]at AL;simp[aT,uw,bI,al _ _ _ _ ha',hma,AL];have hkA:∀blk,Kp [] s1 (St.set (St.new s1 (.cells (zr 512) 142 false)) s1.nx blk):=λblk=>((Kp.refl [] s1).new _).set blk (.inr (aEQ _)) uG;have hz:(zr 512).length=512:=aFI;cases hx:oq D.waits n with
    |none=>
     simp;refine fin _ (hkA _) uG ?_;rw[ar,ep _ _ (by rw[uw,hz])];have e:D.cur n=D.aA[n]:=by unfold bf.cur;rw[hx];exact zs hn _
     rw[e]
    |some k=>
     have hk:=xI hx;obtain⟨bw,QN,Lv,Ts⟩:=tC h qE;have hbw:=h.lt bw (by rw[h.eq,QN];simp);have hwl:(aj (D.waits[k]).2).length=512:=by simpa using (h.yM _ (aFj ..)).1
     have ur:(((ic D.waits).drop (k*513+1)).take 512)=aj (D.waits[k]).2:=by
      unfold ic;rw[R8 (sh h.yM) k (by simpa using hk) 1 512 qE];simp only[aHc,u9,List.drop_succ_cons,aFr];rw[aEX qE]
     have hwL:k*513+1+512<=(ic D.waits).length:=by
      unfold ic;rw[fJ (sh h.yM)];simp;omega
     simp[WY,Lv,fO hk (.inr (aEQ _)),al _ _ _ _ (show bw≠s1.nx from qE),bg _ _ _ hbw,Ts,ur,hwL,bI];refine⟨qE,fin _ (hkA _) uG ?_⟩;rw[ar,ep _ _ (by rw[mF _ _ _ qE,hwl,hz])];have e:D.cur n=(D.waits[k]).2:=by unfold bf.cur;rw[hx];exact congrArg Prod.snd (zs hk _)
     rw[e]
end
section
variable {st st':St} {a:Nat} {F:List Nat} {D D':bf} {vl vw vk:CV} {bl bm:Nat} {Fw Fk:List Nat}
def ahZ (st:St)(F:List Nat)(f:CV)(n:Nat)(kept:Nat->Bool):Prop:=∀i<n,∀s,Kp F st s->∀Q:CV->St->Prop,Q (.bool (kept i)) s->fF R f [I i] s Q
def Wc (a:Nat)(F:List Nat)(st:St)(D:bf)(v:CV)(st':St):Prop:=v=.undef/\Kp F st st'/\∃F',dz st' a F' D/\(∀b∈F',b∈F\/st.nx<=b)
def Cp {f:CV}{kept:Nat->Bool}(h:im st a F D vl vw vk bl bm Fw Fk)(hw:D.waits.length<=1000000000)(hf:ahZ st [a,bl] f D.waits.length kept):R 111 [.ptr a 0,f] st (Wc a F st (D.settle kept)):=by
 refine bP ?_;rw[alh]
 have hwl:∀s:St,bo .slice vw s=.ok (I D.waits.length) s:=by
  intro s
  by_cases h0:0<D.waits.length
  .obtain⟨b,h1,h2,h3⟩:=tC h h0;subst h2;rfl
  .have e:ic D.waits=[]:=by
    have:D.waits=[]:=aFi.1 qE;rw[this];rfl
   have e2:D.waits.length=0:=qE
   rcases h.waits with⟨rfl,_⟩|⟨b,l,t,g,rfl,_⟩|⟨b,n,rfl,h2,h3,_⟩
   .rw[e2];rfl
   .rw[e2];rfl
   .rw[e]at h3;simp at h3;omega
 simp[fB,h.main,hwl];refine bN (λn vs s=>∃i L,i+n=D.waits.length/\vs=[.ptr a 0,f,vw,I D.waits.length,I i]/\Kp [a,bl] st s/\im s a F {D with aA:=L} vl vw vk bl bm Fw Fk/\L.length=D.aA.length/\iv kept i L (D.waits.drop i)=(D.settle kept).aA) ?_ (n:=D.waits.length) ⟨0,D.aA,uG,rfl,Kp.refl _ _,h,rfl,by simp[bf.settle]⟩;rintro n vs s k ⟨i,L,hi,rfl,hk,hd,hL,hs⟩ next;obtain⟨⟨n1,n2,n3,n4⟩,⟨n5,n6,n7⟩,⟨n8,n9⟩,On,UR,Om⟩:=hd.apart
 have jB:∀b,b=a\/b=bl\/b=bm\/b∈Fw\/b∈Fk->b∈F/\b<s.nx:=λb hb=>by
  have:b∈F:=acM
  exact⟨this,hd.lt b this⟩
 by_cases hc:i<D.waits.length
 .have fk:(i:Int)<D.waits.length:=by omega
  obtain⟨bw,QN,Lv,Ts⟩:=tC hd (by simpa using Nat.lt_of_le_of_lt (aHt _) hc);simp at Lv Ts;have hbw:=jB bw (by simp[QN]);have hWw:=sh hd.yM
  have gG:((ic D.waits).drop (i*513)).take 513=u9 D.waits[i]:=by
   unfold ic;rw[sZ hWw i Dx];simp
  have Ri:i*513+513<=(ic D.waits).length:=by unfold ic;rw[fJ hWw];simp;omega
  have hwi:=hd.yM _ (aFj (l:=D.waits) hc);have wL:(u9 D.waits[i]).length=513:=by simp[u9,hwi.1]
  have kz:bj (u9 D.waits[i])=true:=by simp[u9,bI]
  have hz:([CV.int .i64 0]++zr 512).length=513:=uG
  have wr:IntKind.i64.wrap ((i:Int)+1)=((i+1:Nat):Int):=aaq
  simp[fk,hO,Lv,fO hc (.inr (aEQ _)),Ts,gG,Ri,kz];rw[ep _ _ (by rw[wL];simp)];refine⟨qE,hf i hc _ ((hk.new _).set _ (.inr hk.nx) uG) _ ?_⟩;have hma:=hd.main;have ha:=jB a (.inl rfl);have uy:=jB bl (.inr (.inl rfl));obtain⟨t,g,gr,hv,e1,e2,e3⟩:=hd.aA;simp at hv;have aeL:(D.waits[i]).1<L.length:=hwi.2;have It:Kp [a,bl] st (St.set (St.new s (.cells (CV.int .i64 0::zr 512) 195 false)) s.nx (.cells (u9 D.waits[i]) 195 false)):=(hk.new _).set _ (.inr hk.nx) uG
  have Fg:im (St.set (St.new s (.cells (CV.int .i64 0::zr 512) 195 false)) s.nx (.cells (u9 D.waits[i]) 195 false)) a F {D with aA:=L} vl vw vk bl bm Fw Fk:=hd.mono uG λb hb=>by
   have:=hd.lt b hb;rw[al _ _ _ _ qE,bg _ _ _ this]
  have apM:=(show bl∈F/\bl<_ from⟨uy.1,Fg.lt bl uy.1⟩);have Rv:=aFk hc;rw[Rv]at hs;simp only[iv]at hs;cases BW:kept i with
  |false=>
   rw[BW]at hs;simp[wr];exact next (n-1) _ _ qE ⟨i+1,L,qE,by simp[Lv],It,Fg,hL,aaX⟩
  |true=>
   rw[BW]at hs;have Ix:(aj (D.waits[i]).2).length=512:=by simpa using hwi.1
   have hLw:=DN (l:=L) hd.BA;have Xu:(D.waits[i]).1*512+512<=(qL L).length:=by unfold qL;rw[fJ hLw];simp;omega
   have hw0:∀h:0<(u9 (D.waits[i]'hc)).length,(u9 (D.waits[i]'hc))[0]'h=I (D.waits[i]'hc).1:=λ_=>rfl
   have Zp:List.take 512 (u9 D.waits[i]).tail=aj (D.waits[i]).2:=by
    show List.take 512 (aj (D.waits[i]).2)=_;rw[aEX qE]
   have Tz:=Fg.main;have Ir:=Fg.aA;obtain⟨t',g',gr',zo,e1',e2',e3'⟩:=Ir;simp only at e3';simp[Tz,hw0,wL,Zp,hv,fO aeL (.inr (aEQ _)),e3',Xu,Ix,bI,wr];refine next (n-1) _ _ qE ⟨i+1,L.set (D.waits[i]).1 (D.waits[i]).2,qE,by simp[Lv],It.set _ (.inl uG) apM.2,?_,by simpa using hL,aaX⟩
   have wM:bD (qL L) ((D.waits[i]).1*512) (aj (D.waits[i]).2)=qL (L.set (D.waits[i]).1 (D.waits[i]).2):=by
    unfold qL;rw[tO hLw _ (by simpa using aeL) _ Ix,List.map_set]
   rw[wM];obtain⟨m,G9,aox⟩:=Fg.now;refine⟨Fg.eq,Fg.nd,Fg.lt,?_,⟨t',g',gr',by simpa using zo,e1',?_,uG⟩,Fg.waits.mono λb hb=>al _ _ _ _ λe=>n6 (e▸hb),⟨m,G9.mono (al _ _ _ _ (aFL n5)),aox⟩,Fg.keep.mono λb hb=>al _ _ _ _ λe=>n7 (e▸hb),?_,?_,?_⟩
   .rw[al _ _ _ _ n1];exact Fg.main
   .have:∀x∈L.set (D.waits[i]).1 (D.waits[i]).2,x.length=512:=λx hx=>by
     rcases aGL hx with hx|rfl
     .exact hd.BA x hx
     .exact hwi.1
    unfold qL;rw[fJ (DN this)];simp
   .intro x hx;rcases aGL hx with hx|rfl
    .exact hd.BA x hx
    .exact hwi.1
   .intro w hw;simpa using hd.yM w hw
   .simpa using hd.size
 .have fk:¬(i:Int)<D.waits.length:=by omega
  have ha:=jB a (.inl rfl);have hma:(St.new s (.map [] 0)).m.g a=_:=(bg _ _ _ ha.2).trans hd.main;simp[fk,oK,hma,bD];have yz:i=D.waits.length:=qE
  rw[yz,List.drop_length]at hs;simp only[iv]at hs;have hkF:Kp F st (St.set (St.new s (.map [] 0)) a (.cells [vl,.ae,.map s.nx,I D.done,.bool D.dead,.bool D.set,I D.left,vk] 137 false)):=((hk.mono (by simp only[aEP,aFy,aGt];rintro q (rfl|rfl);exact .inl ha.1;exact .inl (jB _ uG).1)).new _).set _ (.inl ha.1) (by have:=ha.2;simp;omega);refine⟨rfl,hkF,a::bl::s.nx::([]++Fk),⟨vl,.ae,vk,bl,s.nx,[],Fk,rfl,?_,?_,by simp[bf.settle],?_,.inl ⟨rfl,rfl,rfl⟩,⟨[],?_,λi=>rfl⟩,?_,?_,by simp[bf.settle],?_⟩,?_⟩
  .have hF:∀b∈Fk,b≠s.nx:=λb hb=>Nat.ne_of_lt (jB b O2).2;simp only[aFd,aEP,aFt,aGk];exact⟨⟨n1,Nat.ne_of_lt ha.2,n4⟩,⟨Nat.ne_of_lt (jB bl uG).2,n7⟩,λh=>hF _ h rfl,UR⟩
  .intro b hb;simp only[aEP,aFt]at hb;simp;rcases hb with rfl|rfl|rfl|hb
   .omega
   .have:=(jB b uG).2;omega
   .omega
   .have:=(jB b O2).2;omega
  .have:=hd.aA;have vG:L=iv kept 0 D.aA D.waits:=hs;simp only[bf.settle,<-vG];exact this.mono ((al _ _ _ _ (aFL n1)).trans (bg _ _ _ (jB bl uG).2))
  .refine(dy.new s).mono ?_;exact al _ _ _ _ qE
  .refine hd.keep.mono λb hb=>?_;exact(al _ _ _ _ (λe:b=a=>n4 (e▸hb))).trans (bg _ _ _ (jB b O2).2)
  .simp only[bf.settle]at hs⊢;rw[<-hs];exact hd.BA
  .simp only[bf.settle,sC];exact h.size
  .intro b hb;simp only[aEP,aFt]at hb;rcases hb with rfl|rfl|rfl|hb
   .exact .inl ha.1
   .exact .inl (jB b uG).1
   .exact .inr hk.nx
   .exact .inl (jB b O2).1
end
section
variable {st st':St} {a:Nat} {F:List Nat} {D D':bf} {vl vw vk:CV} {bl bm:Nat} {Fw Fk:List Nat}
abbrev SL (l:List Bool):List CV:=l.map .bool
def Sl.bE {X:List Nat}{v:CV}{k:Nat}{L:List CV}(h:Sl st X v k L):v.isAny=false/\cE v=true/\v.cN=[v]:=by
 rcases h with⟨rfl,_⟩|⟨b,off,len,cap,grow,rfl,_⟩<;>exact⟨rfl,rfl,rfl⟩
def U0 {v:CV}{keep:List Bool}{b:Nat}(h:Sl st [] v 1 (SL keep))(hb:st.m.g b=some (.cells [v] 53 false))(i:Nat){Q:CV->St->Prop}(hq:Q (.bool (Av keep i)) st):R 112 [I i,.ptr b 0] st Q:=by
 refine bP ?_;rw[alg];have hl:=h.len keep.length uG qE st;simp only[aB,hb,aq,aEL,ay,hl,af]
 by_cases hi:i<keep.length
 .simp[hi,hb];have:AD (some true) 1 v (I i) st=Lim.idx 1 v (I i) st:=rfl;rw[this];refine h.idx O1 _ ?_
  simpa[Av,List.getD,hi]using hq
 .simp[hi,AD,cc]
  simpa[Av,List.getD,aFQ (show keep.length<=i from qE)]using hq
def tw (a:Nat)(F:List Nat)(st:St)(D:bf)(st':St):Prop:=Kp F st st'/\∃F',dz st' a F' D/\(∀b∈F',b∈F\/st.nx<=b)
def HG (h:im st a F D vl vw vk bl bm Fw Fk){v:CV}{keep:List Bool}(hw:D.waits.length<=1000000000)(hv:Sl st [a,bl] v 1 (SL keep)):R 65 [.ptr a 0,v] st λ_ st'=>tw a F st (D.Mb keep) st':=by
 refine bP ?_;rw[w65];obtain⟨q1,q2,q3⟩:=hv.bE;have ha:=h.lt a h.m;simp[q1];rw[q3];have pP:Kp [] st (St.new st (.cells [v] 53 false)):=(Kp.refl [] st).new _;have h1:=h.mono pP.nx λb hb=>bg _ _ _ (h.lt b hb);refine(Cp h1 hw (kept:=Av keep) ?_).mono ?_
 .intro i hi s hs Q hq;rw[dM];refine U0 (v:=v) (keep:=keep) ?_ (b:=st.nx) ?_ i hq
  .exact((hv.mono (pP.mono uG)).mono hs).dW uG
  .rw[hs.keep _ uG (by simp;exact⟨qE,by have:=h.lt bl acJ;omega⟩)];simp
 .rintro _ s ⟨rfl,h2,F',h3,h4⟩;obtain⟨vl,vw,vk,bl,bm,Fw,Fk,h3⟩:=h3;have h4':=λb hb=>(h4 b hb).imp id λh=>aGb pP.nx h;simp[oK,h3.main,bD];refine⟨((pP.mono (G:=F) uG).trans h2 ael).set _ (.inl h.m) (h3.lt a h3.m),F',⟨vl,vw,vk,bl,bm,Fw,Fk,h3.adq rfl rfl rfl (aEQ _) ?_ λb hb ij=>al _ _ _ _ ij⟩,h4'⟩;simp[bf.Mb,bf.settle]
def Lp (h:im st a F D vl vw vk bl bm Fw Fk):Sl st [a,bl] vk 1 (SL D.keep):=h.keep.sl λb hb=>by
 obtain⟨⟨n1,n2,n3,n4⟩,⟨n5,n6,n7⟩,_⟩:=h.apart;refine⟨?_,h.lt b (by rw[h.eq];simp[hb])⟩;simp only[aEP,aFy,aGt,aGk];exact⟨λe=>n4 (e▸hb),λe=>n7 (e▸hb)⟩
def wT (h:dz st a F D)(hw:D.waits.length<=1000000000):R 88 [.ptr a 0] st λx st'=>x=I D.flush.1/\tw a F st D.flush.2 st':=by
 have h0:=h;obtain⟨vl,vw,vk,bl,bm,Fw,Fk,h⟩:=h;refine bP ?_;rw[w88];refine(Be h0).mono ?_;rintro _ _ ⟨rfl,rfl⟩;rename_i s1;unfold bf.flush
 by_cases hd:D.dead=true
 .simp[hd];exact⟨Kp.refl _ _,F,h0,ael⟩
 .simp[hd];refine(HN h).mono ?_;intro v s2 hb
  by_cases ho:D.out
  .rw[aEW ho]at hb;obtain⟨rfl,rfl⟩:=hb;simp[ho,fB,h.main];exact HG h hw (Lp h)
  .rw[aET ho]at hb;obtain⟨rfl,hk,hn,h2⟩:=hb;simp[ho];refine(Cp h2 (kept:=λ_=>true) hw ?_).mono ?_
   .intro i hi s hs Q hq;rw[dM];refine bP ?_;simp only[aFt,aFN];rw[akL];exact hq
   .rintro _ s ⟨rfl,h3,F',h4,h5⟩;exact⟨hk.trans h3 ael,F',h4,λb hb=>(h5 b hb).imp id λh=>qE⟩
end
section
variable {st st':St} {a:Nat} {F:List Nat} {D D':bf} {vl vw vk:CV} {bl bm:Nat} {Fw Fk:List Nat}
def vS (h:dz st a F D){i:Int}{v:CV}{s:jU}(j0:eH st)(hw:D.waits.length<100000000)(hv:Sl st F v 1 (aj s))(hs:s.length=512):R 86 [.ptr a 0,I i,v] st λx st'=>x=I (D.write i s).1/\tw a F st (D.write i s).2 st':=by
 have h0:=h;obtain⟨vl,vw,vk,bl,bm,Fw,Fk,h⟩:=h;refine bP ?_;rw[w86];refine(Be h0).mono ?_;rintro _ _ ⟨rfl,rfl⟩;rename_i s1;unfold bf.write;have yw:tw a F s1 D s1:=⟨Kp.refl _ _,F,h0,ael⟩
 by_cases hd:D.dead=true
 .simp[hd,yw]
 .obtain⟨t,g,gr,hvl,h1,h2,h3⟩:=h.aA;have hlen:∀s:St,bo .slice vl s=.ok (I D.aA.length) s:=by intro s;subst hvl;rfl
  by_cases Xy:i<0
  .simp[hd,Xy,yw,j7]
  .by_cases Hi:(D.aA.length:Int)<=i
   .simp[hd,Xy,Hi,j7,h.main,hlen,yw]
   .obtain⟨n,rfl⟩:∃n:Nat,i=n:=⟨i.toNat,qE⟩;have hn:n<D.aA.length:=by omega
    obtain⟨bv,off,cap,grow,Zs⟩:∃bv off cap grow,v=.slice bv off 512 cap grow:=by
     rcases hv with⟨_,h⟩|⟨b,off,len,cap,grow,rfl,h2,_⟩
     .have:=congrArg List.length h;simp[hs]at this
     .have:len=512:=by simp[hs]at h2;omega
      subst this;exact⟨b,off,cap,grow,rfl⟩
    obtain⟨hvX,anj,l,tv,gv,hvb,WZ,Lw⟩:bv∉F/\bv<s1.nx/\∃l t g,s1.m.g bv=some (.cells l t g)/\off+512<=l.length/\(l.drop off).take 512=aj s:=by
     rcases hv with⟨h,_⟩|⟨b,off,len,cap,grow,h,h2,h3,h4⟩
     .rw[Zs]at h;cases h
     .rw[Zs]at h;cases h;rcases h4 with h4|h4
      .cases h4
      .exact h4
    obtain⟨m,G9,Tz⟩:=h.now
    have Ri:∀s:St,bo .slice vw s=.ok (I D.waits.length) s:=by
     intro s
     by_cases h0:0<D.waits.length
     .obtain⟨b,h1,h2,h3⟩:=tC h h0;subst h2;rfl
     .have e:ic D.waits=[]:=by
       have:D.waits=[]:=aFi.1 qE;rw[this];rfl
      have e2:D.waits.length=0:=qE
      rcases h.waits with⟨rfl,_⟩|⟨b,l,t,g,rfl,_⟩|⟨b,n,rfl,h2,h3,_⟩
      .rw[e2];rfl
      .rw[e2];rfl
      .rw[e]at h3;simp at h3;omega
    obtain⟨blk,hu1,Zt,Tt⟩:=IsMap.update (.inl G9) n (I D.waits.length);have ha:=h.lt a h.m;have hbm:=h.lt bm acJ;obtain⟨⟨n1,n2,n3,n4⟩,⟨n5,n6,n7⟩,⟨n8,n9⟩,On,UR,Om⟩:=h.apart;have aeP:bv≠bm:=λe=>hvX (by rw[h.eq,e];simp);have hva:bv≠a:=λe=>hvX (by rw[e];exact h.m);have e1:(St.set s1 bm blk).m.g a=s1.m.g a:=al _ _ _ _ n2;have e2:(St.set s1 bm blk).m.g bv=s1.m.g bv:=al _ _ _ _ aeP
    have agw:grow=0\/1<=cap/\512<=cap:=by
     rcases hv with⟨h,_⟩|⟨b,off,len,cap,grow,h,h2,h3,h4⟩
     .rw[Zs]at h;cases h
     .rw[Zs]at h;cases h;omega
    have Oz:(aj s).length=512:=aaX
    have jx:(St.skip (St.set s1 bm blk)).m.g s1.nx=none:=by
     rw[FO,al _ _ _ _ qE];exact j0 _ (aEQ _)
    have AO:gC [(0,513,.agg (I n::aj s))] (cM 1 (I 0::zr 512))=some (I n::aj s):=by
     simp[cR,cM,bD,Oz]
    have nD:bk (I 0::zr 512) [(0,1,I n),(1,512,.agg (aj s))] (St.skip (St.set s1 bm blk))=.ok (.agg (I n::aj s)) (St.skip (St.set s1 bm blk)):=by
     rw[dV];simp[cR,bD,Oz]
    have uS:=jH (e:=195) (n:=1) jx AO;simp[hd,Xy,j7,fB,h.main,hlen,Int.not_le.mpr (show(n:Int)<D.aA.length by omega),Zs,Ri,hu1,e1,e2,hvb,oZ,Lw];refine⟨agw,WZ,?_⟩;rw[nD,af,uS,aS];have jN:Kp (bm::Fw) s1 (St.set (St.skip (St.set s1 bm blk)) s1.nx (.cells (I n::aj s) 195 false)):=(((Kp.refl _ s1).set _ (.inl uG) hbm).skip).set _ (.inr (aEQ _)) uG
    have BP:de .slice 513 (I 0::zr 512) (.slice s1.nx 0 1 1 0) (St.set (St.skip (St.set s1 bm blk)) s1.nx (.cells (I n::aj s) 195 false))=some (1,I n::aj s):=
     Gp (ar _ _ _) qE (by simp[hs])
    rw[BP]
    have hW3:Own (St.set (St.skip (St.set s1 bm blk)) s1.nx (.cells (I n::aj s) 195 false)) vw 513 195 (ic D.waits) Fw:=h.waits.mono λb hb=>by
     have:=h.lt b (by rw[h.eq];simp[hb]);exact(al _ _ _ _ qE).trans (al _ _ _ _ (λe:b=bm=>n8 (e▸hb)))
    obtain⟨v',s4,Fw',RJ,Fj,VB,ha4⟩:=hW3.append (n:=1) (bytes:=520) (T:=I n::aj s) qE (by simp[hs]) (by simp[bI]) (λb hb=>by
     have:=h.lt b (by rw[h.eq];simp[hb]);simp;omega) (by
     have e:(ic D.waits).length=D.waits.length*513:=by unfold ic;rw[fJ (sh h.yM)];simp
     rw[e];simp[hs];omega)
    rw[RJ,aS];obtain⟨o1,o2⟩:=Fj.cE;have rQ:=jN.trans VB λq hq=>.inl TN;have hm4:s4.m.g a=_:=(rQ.keep a ha (by simp;exact⟨n2,n3⟩)).trans h.main;have hm3:=(jN.keep a ha (by simp;exact⟨n2,n3⟩)).trans h.main;have hb3:=(jN.keep bv anj (by simp;exact⟨aeP,λe=>hvX (by rw[h.eq];simp[e])⟩)).trans hvb;simp[hm4,hm3,hb3,o1,o2,WZ,Lw,bD];have rY:D.dead=false:=by simpa using hd
    have ed:({aA:=D.aA,waits:=D.waits++[(n,s)],done:=D.done,dead:=false,set:=D.set,left:=D.left,keep:=D.keep}:bf)={D with waits:=D.waits++[(n,s)]}:=by rw[<-rY]
    rw[ed,aEW hs];have hF:∀b,b=a\/b=bl\/b=bm\/b∈Fw\/b∈Fk->b∈F:=λb hb=>acM
    have jB:∀b∈Fw',(b∈Fw\/s1.nx<=b):=λb hb=>(ha4 b hb).1.imp id λh=>by simp at h;omega
    have uT:=h.lt
    have hD1:im (St.set s4 a (.cells [vl,v',.map bm,I D.done,.bool D.dead,.bool D.set,I D.left,vk] 137 false)) a (a::bl::bm::(Fw'++Fk)) {D with waits:=D.waits++[(n,s)]} vl v' vk bl bm Fw' Fk:=by
     have ij:∀b∈Fk,b<s1.nx:=λb hb=>uT b (hF b O2);have Vj:=λb hb=>aFg (uT b hb) rQ.nx;have Ez:∀b,b≠a->(St.set s4 a (.cells [vl,v',.map bm,I D.done,.bool D.dead,.bool D.set,I D.left,vk] 137 false)).m.g b=s4.m.g b:=λb hb=>al _ _ _ _ hb;have Rm:∀b∈F,b≠bm->b∉Fw->s4.m.g b=s1.m.g b:=λb h1 h2 h3=>rQ.keep b (uT b h1) (by simp;exact⟨h2,h3⟩);refine⟨rfl,?_,?_,uG,h.aA.mono ?_,?_,⟨_,(Tt G9).mono ?_,?_⟩,h.keep.mono ?_,h.BA,?_,h.size⟩
     .have hFw:Fw'.Nodup:=by rcases Fj with⟨_,_,rfl⟩|⟨_,_,_,_,_,_,rfl,_⟩|⟨_,_,_,_,_,rfl,_⟩<;>simp
      have nin:∀b,b∈F->b∉Fw->b∉Fw':=λb h1 h2 h3=>by
       rcases jB b h3 with h4|h4
       .exact h2 h4
       .have:=uT b h1;omega
      simp only[aFd,aEP,aEY,aGk,aFM];exact⟨⟨n1,n2,nin a h.m n3,n4⟩,⟨n5,nin bl (hF _ uG) n6,n7⟩,⟨nin bm (hF _ uG) n8,n9⟩,hFw,UR,λx hx y hy e=>nin y (hF y (by simp[hy])) (λh=>Om y h hy) (e▸hx)⟩
     .intro b hb;show b<s4.nx;simp only[aEP,aEY]at hb;rcases hb with rfl|rfl|rfl|hb|hb
      .exact Vj _ h.m
      .exact Vj _ (hF _ uG)
      .exact Vj _ (hF _ uG)
      .exact(ha4 b hb).2
      .exact Vj _ (hF _ O2)
     .exact(Ez _ (aFL n1)).trans (Rm bl (hF _ uG) n5 n6)
     .have e:ic (D.waits++[(n,s)])=ic D.waits++(I n::aj s):=by simp[ic,u9]
      show Own _ v' 513 195 (ic (D.waits++[(n,s)])) Fw';rw[e]
      exact Fj.mono λb hb=>Ez b λe=>by
       rcases jB b hb with h4|h4
       .exact n3 (e▸h4)
       .omega
     .rw[Ez _ (aFL n2),VB.keep bm vR n8,al _ _ _ _ qE,FO]
     .intro i;show _=Option.map _ (oq (D.waits++[(n,s)]) i);rw[Gz,yp]
      split
      .rfl
      .exact Tz i
     .intro b hb;exact(Ez _ (λe=>n4 (e▸hb))).trans (Rm b (hF _ O2) (λe=>n9 (e▸hb)) (λh=>Om b h hb))
     .intro w hw;rcases aEY.1 hw with hw|hw
      .exact h.yM w hw
      .simp only[aGd]at hw;subst hw;exact⟨hs,hn⟩
    have Hg:Kp F s1 (St.set s4 a (.cells [vl,v',.map bm,I D.done,.bool D.dead,.bool D.set,I D.left,vk] 137 false)):=(rQ.mono λq hq=>.inl (hF q (by simp at hq;rcases hq with rfl|hq<;>simp[*]))).set _ (.inl h.m) (aFg ha rQ.nx)
    have wS:∀b∈a::bl::bm::(Fw'++Fk),b∈F\/s1.nx<=b:=by
     intro b hb;simp only[aEP,aEY]at hb;rcases hb with rfl|rfl|rfl|hb|hb
     .exact .inl h.m
     .exact .inl (hF _ uG)
     .exact .inl (hF _ uG)
     .exact(jB b hb).imp (λh=>hF _ Pb) id
     .exact .inl (hF _ O2)
    refine(HN hD1).mono ?_;intro x s6 hb
    by_cases ho:D.out
    .rw[aEW (show bf.out {D with waits:=D.waits++[(n,s)]}from ho)]at hb;obtain⟨rfl,rfl⟩:=hb;simp[ho];refine(HG hD1 vR (Lp hD1)).mono ?_;rintro _ s7 ⟨h7,F',h8,h9⟩;exact⟨Hg.trans h7 wS,F',h8,λb hb=>(h9 b hb).elim (wS b) λh=>.inr (aGb Hg.nx h)⟩
    .rw[aET (show¬bf.out {D with waits:=D.waits++[(n,s)]}from ho)]at hb;obtain⟨rfl,hk,hn,h2⟩:=hb;simp[ho];exact⟨Hg.trans hk wS,_,⟨_,_,_,_,_,_,_,h2⟩,wS⟩
def tf (L:List jU):bf:=⟨L,[],0,false,false,0,[]⟩
def Ic (L:List jU)(st:St)(v:CV)(st':St):Prop:=Kp [] st st'/\∃a F,v=.tuple [.ptr a 0,I 0]/\dz st' a F (tf L)/\∀b∈F,st.nx<=b
def US {s1:St}{x:CV}{L:List jU}{t:TypeId}{g:Bool}{gr b:Nat}(hk:Kp [] st s1)(hx:x=.slice b 0 L.length L.length gr)(hgr:gr=0\/gr=512)(hb:s1.m.g b=some (.cells (qL L) t g))(Ix:st.nx<=b)(CX:b<s1.nx)(hL:∀s∈L,s.length=512)(hn:L.length<=65536):
 Ic L st (.tuple [.ptr (s1.nx+1) 0,I 0]) (St.new (St.new s1 (.map [] 0)) (.cells [x,.ae,.map s1.nx,I 0,.bool false,.bool false,I 0,.ae] 137 false)):=by
 refine⟨(hk.new _).new _,s1.nx+1,(s1.nx+1)::b::s1.nx::([]++[]),rfl,⟨x,.ae,.ae,b,s1.nx,[],[],rfl,?_,?_,?_,⟨t,g,gr,hx,hgr,?_,?_⟩,.inl ⟨rfl,rfl,rfl⟩,⟨[],?_,λi=>rfl⟩,.inl ⟨rfl,rfl,rfl⟩,hL,?_,hn⟩,?_⟩
 .simp;omega
 .intro q hq;simp at hq;simp;rcases hq with rfl|rfl|rfl<;>omega
 .exact ao _ _
 .show(qL L).length=_;unfold qL;rw[fJ (DN hL)];simp[tf]
 .show(St.new (St.new s1 _) _).m.g b=_;rw[bg _ _ _ vR,bg _ _ _ CX];exact hb
 .refine(dy.new s1).mono ?_;rw[bg _ _ _ uG]
 .intro w hw;simp[tf]at hw
 .intro q hq;have:=hk.nx;simp at hq;rcases hq with rfl|rfl|rfl<;>omega
def lj:jU:=List.replicate 512 0
def pS:lj.length=512:=aFI
def adL (n:Nat):cM n (zr 512)=qL (List.replicate n lj):=by
 unfold cM qL lj;rw[List.map_replicate]
 congr 2
def JC {n:Nat}(h1:1<=n)(h2:n<=65536):R 29 [I n] st λv st'=>Ic (List.replicate n lj) st v st':=by
 refine bP ?_;rw[w29];have e1:¬(n:Int)<1:=qE
 have e2:¬(65536:Int)<n:=qE
 simp[e1,e2,pe,dV,cR,bD];refine⟨qE,?_⟩;have hk:Kp [] st (St.new st (.cells (cM n (zr 512)) 142 false)):=(Kp.refl [] st).new _;refine US (x:=.slice st.nx 0 n n 0) hk uG (.inl rfl) (b:=st.nx) (g:=false) (t:=142) ?_ (aEQ _) uG ?_ TV
 .rw[<-adL];exact ao st _
 .intro s hs;rw[List.eq_of_mem_replicate hs];exact pS
end
section
variable {k e:Nat}{L:List CV}{x v:CV}{X:List Nat}{n:Nat}
def adV (k:Nat)(h:k<256):j8 .or .u8 (k:Int) 128=some ((k%128+128:Nat):Int):=by
 have:∀k:Fin 256,j8 .or .u8 ((k.val:Nat):Int) 128=some ((k.val%128+128:Nat):Int):=by decide+kernel
 exact this ⟨k,h⟩
def Pd (k:Nat):IntKind.u8.wrap (k:Int)=((k%256:Nat):Int):=by
 unfold IntKind.wrap;simp[IntKind.bits,IntKind.signed]
def tB (k:Nat)(h:k<18446744073709551616):IntKind.u64.wrap (k:Int)=(k:Int):=by
 unfold IntKind.wrap;simp[IntKind.bits,IntKind.signed];omega
def jS (k:Nat)(h:k<256):bQ (UInt8.ofNat k)=.int .u8 (k:Int):=by
 unfold bQ;have:(UInt8.ofNat k).toNat=k:=vR
 rw[this]
def Qi (k:Nat)(h:k<256)(d:Option kj)(c:Bool)(st:St):ai .or d c (.int .u8 (k:Int)) (.int .u8 128) st=.ok (.int .u8 ((k%128+128:Nat):Int)) st:=by
 have:ai .or d c (.int .u8 (k:Int)) (.int .u8 128) st=(match j8 .or .u8 (k:Int) 128 with|some r=>.ok (.int .u8 r) st|none=>.bad):=rfl;rw[this,adV k h]
def MS (k:Nat)(d:Option kj)(c:Bool)(st:St):ai .shr d c (.int .u64 (k:Int)) (.int .u64 7) st=.ok (.int .u64 ((k/128:Nat):Int)) st:=by
 have:ai .shr d c (.int .u64 (k:Int)) (.int .u64 7) st=.ok (.int .u64 ((k:Int).fdiv 128)) st:=rfl;rw[this]
 congr 2
 rw[Int.fdiv_eq_ediv_of_nonneg _ qE];omega
section
variable {st st':St}
def Made.of {F:List Nat}(h1:Kp [] st st')(h2:Own st' x k e L F)(h3:∀b∈F,st.nx<=b/\b<st'.nx):Made k e L st x st':=⟨F,h1,h2,h3⟩
def pJ.made (h:pJ k e v L st x st'):Made k e L st x st':=by obtain⟨F,h1,h2,h3,_⟩:=h;exact⟨F,h1,h2,h3⟩
def bL (a b:List UInt8):aj (a++b)=aj a++aj b:=abK
def IT {b:List UInt8}(h:Sl st X v 1 (aj b))(hb:b.length<=1000000)(hn:n<=2147483647):R 166 [v,.int .u64 n] st (Made 1 5 (aj (b++uv n)) st):=by
 refine bP ?_;rw[akm];simp only[cV,aL,aM];refine(wZ h qE).mono ?_;intro x s1 hc;obtain⟨F0,c1,c2,c3⟩:=hc.made;have key:∀m k,k<=m->k<=2147483647->(uv k).length<=5:=λm k _ h=>(kh k h).2;refine bN (λm vs s=>∃u:Nat,∃x F pre,m=u/\vs=[.int .u64 u,x]/\pre++uv u=uv n/\Kp [] st s/\Own s x 1 5 (aj (b++pre)) F/\∀q∈F,st.nx<=q/\q<s.nx) ?_ (n:=n) ⟨n,x,F0,[],rfl,rfl,rfl,c1,by simpa using c2,c3⟩;rintro m vs s k ⟨u,x,F,pre,hm,rfl,hp,hk,ho,hF⟩ next;have AK:=hm;clear hm;subst AK;have Zu:∃u,u=m:=⟨m,rfl⟩;obtain⟨u,Zu⟩:=Zu;subst Zu;have atP:pre.length<=5:=by have:=congrArg List.length hp;have h5:=(kh n hn).2;rw[aEU]at this;omega
 have hz:([CV.int .u8 0]:List CV).length=1:=rfl
 by_cases hu:127<u
 .have hu':(127:Int)<u:=by omega
  simp only[aL,aM,az,dx,af,ag,hu',aFZ,aFm]
  have e1:cW (.toInt .u8) (.int .u64 u) s=.ok (.int .u8 ((u%256:Nat):Int)) s:=by
   show OR.ok (.int .u8 (IntKind.u8.wrap u)) s=_;rw[Pd]
  rw[e1,af,Qi _ qE,af];refine V0 1 ho qE (λq hq=>(hF q hq).2) hz rfl rfl rfl vR ?_;intro v' s' F' h1 h2 h3;have esh:=MS u none true s';rw[az]at esh;rw[esh,af];refine next (u/128) _ _ qE ⟨u/128,v',F',pre++[UInt8.ofNat (u%128+128)],rfl,rfl,?_,hk.trans h2 λq hq=>.inr (hF q hq).1,?_,λq hq=>?_⟩
  .rw[<-hp,iR hu];simp
  .have:aj (b++(pre++[UInt8.ofNat (u%128+128)]))=aj (b++pre)++(CV.int .u8 ((u%256%128+128:Nat):Int)).cN:=by
    rw[<-aFx,bL (b++pre)]
    congr 1
    show [bQ _]=[_];rw[jS _ qE]
    congr 3;omega
   rw[this];exact h1
  .obtain⟨h4,h5⟩:=h3 q hq;exact⟨h4.elim (λh=>(hF q h).1) (λh=>aGb hk.nx h),h5⟩
 .have hu':¬(127:Int)<u:=by omega
  simp only[aL,aM,az,dx,af,ag,hu',aGv,aEM,aFa]
  have e1:cW (.toInt .u8) (.int .u64 u) s=.ok (.int .u8 ((u%256:Nat):Int)) s:=by
   show OR.ok (.int .u8 (IntKind.u8.wrap u)) s=_;rw[Pd]
  rw[e1,af];refine V0 1 ho qE (λq hq=>(hF q hq).2) hz rfl rfl rfl vR ?_;intro v' s' F' h1 h2 h3;refine⟨F',hk.trans h2 λq hq=>.inr (hF q hq).1,?_,λq hq=>?_⟩
  .have:aj (b++uv n)=aj (b++pre)++(CV.int .u8 ((u%256:Nat):Int)).cN:=by
    rw[<-hp,<-aFx,bL (b++pre),jD qE]
    congr 1
   rw[this];exact h1
  .obtain⟨h4,h5⟩:=h3 q hq;exact⟨h4.elim (λh=>(hF q h).1) (λh=>aGb hk.nx h),h5⟩
def th {b:List UInt8}(h:Sl st X v 1 (aj b))(hb:b.length<=1000000)(hn:n<=2147483647):R 129 [v,I n] st (Made 1 5 (aj (b++uv n)) st):=by
 refine bP ?_;rw[akQ];have e1:¬(n:Int)<0:=qE
 have e2:¬(2147483647:Int)<n:=qE
 have e3:cW (.toInt .u64) (I n) st=.ok (.int .u64 n) st:=by
  show OR.ok (.int .u64 (IntKind.u64.wrap n)) st=_;rw[tB n qE]
 simp[e1,e2,e3];exact IT h hb hn
def Sa {b:List UInt8}{f:Bool}(h:Sl st X v 1 (aj b))(hb:b.length<=1000000):R 188 [v,.bool f] st (Made 1 5 (aj (b++uv (if f=true then 1 else 0))) st):=by
 refine bP ?_;rw[ajW];cases f
 .simp;exact th (n:=0) h hb qE
 .simp;exact th (n:=1) h hb qE
def DD {b s:List UInt8}(h:Sl st X v 1 (aj b))(hb:b.length<=1000000)(hs:s.length<=1000000):R 128 [v,.str s] st (Made 1 5 (aj (b++(uv s.length++s))) st):=by
 refine bP ?_;rw[akR];have e2:¬(2147483647:Int)<s.length:=qE
 simp[e2];refine(th h hb qE).mono ?_;rintro x s1 ⟨F,h1,h2,h3⟩;have hl:=(kh s.length qE).2;obtain⟨v',s2,F',a1,a2,a3,a4⟩:=h2.append (n:=s.length) (bytes:=1) (T:=aj s) qE uG (bI s) (λb hb=>(h3 b hb).2) vR;have e3:de .str 1 [(.int .u8 0)] (.str s) s1=some (s.length,aj s):=rfl;rw[e3,a1,aS];refine⟨F',h1.trans a3 λq hq=>.inr (h3 q hq).1,by simpa[aj]using a2,λb hb=>⟨(a4 b hb).1.elim (λh=>(h3 b h).1) (λh=>by have:=h1.nx;omega),(a4 b hb).2⟩⟩
end
end
section
variable {X:List Nat}{v:CV}{k n l:Nat}
section
variable {st st':St}
def lr (st:St)(F:List Nat)(v:CV)(k:Nat)(L:List CV):Prop:=∀X,(∀b∈F,b∉X)->Sl st X v k L
def lr.keep {F:List Nat}{L:List CV}(h:lr st F v k L)(hk:Kp X st st')(hx:∀b∈F,b∉X):lr st' F v k L:=λY hy=>by
 have h1:=h (X++Y) λb hb=>by simp;exact⟨hx b hb,hy b hb⟩
 exact(h1.mono (hk.mono λq hq=>.inl TN)).dW λq hq=>.inl TN
def Own.adF {e:Nat}{L:List CV}{F:List Nat}(h:Own st v k e L F)(hx:∀b∈F,b<st.nx):lr st F v k L:=λX h2=>h.sl λb hb=>⟨h2 b hb,hx b hb⟩
def lr.nil {F:List Nat}{L:List CV}(h:lr st F v k L):Sl st [] v k L:=h [] uG
def lr.lo {F:List Nat}{L:List CV}(h:lr st F v k L)(hk:0<k)(hn:L.length=n*k)(hl:l<=n)(s:St):∃v',aQ k v (some (I l)) none s=.ok v' s/\lr st F v' k (L.drop (l*k)):=by
 obtain⟨v',h1,_⟩:=h.nil.lo hk hn hl s;refine⟨v',h1,λX hx=>?_⟩;obtain⟨v2,h2,h3⟩:=(h X hx).lo hk hn hl s;rw[h1]at h2;cases h2;exact h3
def lr.hi {F:List Nat}{L:List CV}(h:lr st F v k L)(hk:0<k)(hn:L.length=n*k)(hl:l<=n)(s:St):∃v',aQ k v none (some (I l)) s=.ok v' s/\lr st F v' k (L.take (l*k)):=by
 obtain⟨v',h1,_⟩:=h.nil.hi hk hn hl s;refine⟨v',h1,λX hx=>?_⟩;obtain⟨v2,h2,h3⟩:=(h X hx).hi hk hn hl s;rw[h1]at h2;cases h2;exact h3
def oG (st:St)(r:Nat)(F:List Nat)(L:List UInt8):Prop:=∃q v G,F=r::q::G/\F.Nodup/\(∀b∈F,b<st.nx)/\st.m.g r=some (.cells [.ptr q 0] 240 false)/\st.m.g q=some (.cells [v,.bool false] 238 false)/\lr st G v 1 (aj L)
def oG.keep {r:Nat}{F:List Nat}{L:List UInt8}(h:oG st r F L)(hk:Kp X st st')(hx:∀b∈F,b∉X):oG st' r F L:=by
 obtain⟨q,v,G,rfl,h1,h2,h3,h4,h5⟩:=h;exact⟨q,v,G,rfl,h1,λb hb=>aFg (h2 b hb) hk.nx,by rw[hk.keep r (h2 r uG) (hx r uG)];exact h3,by rw[hk.keep q (h2 q uG) (hx q uG)];exact h4,h5.keep hk λb hb=>hx b O2⟩
def wC {L:List UInt8}(h:Sl st X v 1 (aj L))(hl:L.length<=1000000):R 116 [v] st λx st'=>∃r F,x=.ptr r 0/\Kp [] st st'/\oG st' r F L/\∀b∈F,st.nx<=b:=by
 refine bP ?_;rw[alc];refine(wZ h qE).mono ?_;intro x s1 hc;obtain⟨F0,c1,c2,c3⟩:=hc.made;obtain⟨o1,o2⟩:=c2.cE;have o3:=(c2.sl (X:=[]) λb hb=>⟨uG,(c3 b hb).2⟩).bE.1;simp[dV,cR,bD,o2,o3];have hF:F0.Nodup:=by rcases c2 with⟨_,_,rfl⟩|⟨_,_,_,_,_,_,rfl,_⟩|⟨_,_,_,_,_,rfl,_⟩<;>simp
 refine⟨(c1.new _).new _,(s1.nx+1)::s1.nx::F0,⟨s1.nx,x,F0,rfl,?_,?_,ao _ _,?_,?_⟩,?_⟩
 .simp only[aFd,aEP,aGk];exact⟨⟨qE,λh=>by have:=(c3 _ h).2;omega⟩,λh=>by have:=(c3 _ h).2;omega,hF⟩
 .intro b hb;simp only[aEP]at hb;simp;rcases hb with rfl|rfl|hb
  .omega
  .omega
  .have:=(c3 b hb).2;omega
 .rw[bg _ _ _ uG];exact ao _ _
 .refine Own.adF (e:=5) (c2.mono λb hb=>?_) λb hb=>?_
  .have:=(c3 b hb).2;rw[bg _ _ _ vR,bg _ _ _ this]
  .have:=(c3 b hb).2;simp;omega
 .intro b hb;have:=c1.nx;simp only[aEP]at hb;rcases hb with rfl|rfl|hb
  .omega
  .omega
  .exact(c3 b hb).1
variable {r:Nat} {F:List Nat} {L:List UInt8}
def qO (h:oG st r F L):R 117 [.ptr r 0] st λv st'=>v=.bool true/\st'=st:=by
 obtain⟨q,v,G,rfl,h1,h2,h3,h4,h5⟩:=h;refine bP ?_;rw[alb];simp[j7,h3];refine bP ?_;rw[aku];simp[j7,h4]
def Ln (h:oG st r F L):R 156 [.ptr r 0] st λv st'=>v=I L.length/\st'=st:=by
 obtain⟨q,v,G,rfl,h1,h2,h3,h4,h5⟩:=h;refine bP ?_;rw[akt];simp[fB,h3];refine bP ?_;rw[ajT];simp[fB,j7,h4,h5.nil.len L.length uG qE]
def VP (h:oG st r F L):R 118 [.ptr r 0] st λv st'=>v=.bool (decide (L=[]))/\st'=st:=by
 refine bP ?_;rw[ala];refine(qO h).mono ?_;rintro _ _ ⟨rfl,rfl⟩;simp;refine(Ln h).mono ?_;rintro _ _ ⟨rfl,rfl⟩;simp
def lr.mono {F G:List Nat}{L:List CV}(h:lr st G v k L)(hg:∀b∈G,b∈F):lr st F v k L:=λX hx=>h X λb hb=>hx b (hg b hb)
def KD (h:oG st r F L){q:Nat}(hq:st.m.g r=some (.cells [.ptr q 0] 240 false))(hn:n<=L.length):R 160 [.ptr q 0,I n] st λx st'=>lr st' F x 1 (aj (L.take n))/\Kp F st st'/\st'.nx=st.nx/\oG st' r F (L.drop n)/\st'.m.g r=st.m.g r:=by
 obtain⟨q',v,G,rfl,h1,h2,h3,h4,h5⟩:=h;have:q'=q:=by rw[h3]at hq;cases hq;rfl
 subst this;refine bP ?_;rw[akp];obtain⟨v1,a1,a2⟩:=h5.hi (n:=L.length) qE uG hn st;obtain⟨v2,b1,b2⟩:=h5.lo (n:=L.length) qE uG hn st;obtain⟨c1,c2,c3⟩:=b2.nil.bE;have h1':=h1;simp only[aFd,aEP,aGk]at h1;simp[fB,oK,h4,a1,b1,bD,c2,c3];have hk:Kp (r::q'::G) st (St.set st q' (.cells [v2,.bool false] 238 false)):=(Kp.refl _ st).set _ (.inl uG) (h2 q' uG);have hkq:Kp [q'] st (St.set st q' (.cells [v2,.bool false] 238 false)):=(Kp.refl _ st).set _ (.inl uG) (h2 q' uG);have hG:∀b∈G,b∉[q']:=λb hb e=>h1.2.1 (by simp at e;exact e▸hb);have hr:(St.set st q' (.cells [v2,.bool false] 238 false)).m.g r=st.m.g r:=al _ _ _ _ h1.1.1;have e1:aj (L.take n)=(aj L).take (n*1):=abK
 have e2:aj (L.drop n)=(aj L).drop (n*1):=abK
 refine⟨?_,hk,⟨q',v2,G,rfl,h1',h2,by rw[hr];exact h3,ar _ _ _,?_⟩,hr⟩
 .rw[e1];exact(a2.keep hkq hG).mono (λb hb=>O2)
 .rw[e2];exact b2.keep hkq hG
def KC {f:Nat}(hf:f=158\/f=159)(h:oG st r F L)(v:CV):R f [.ptr r 0,v,.bool true] st λx st'=>x=v/\st'=st:=by
 obtain⟨q,v',G,rfl,h1,h2,h3,h4,h5⟩:=h;refine bP ?_ (by rcases hf with rfl|rfl<;>rfl);rcases hf with rfl|rfl
 .rw[akr];simp[fB,h3,h4]
 .rw[akq];simp[fB,h3,h4]
def abm (k:Nat)(h:k<256):j8 .and .u8 (k:Int) 127=some ((k%128:Nat):Int):=by
 have:∀k:Fin 256,j8 .and .u8 ((k.val:Nat):Int) 127=some ((k.val%128:Nat):Int):=by decide+kernel
 exact this ⟨k,h⟩
def adU (a m:Nat)(k:Nat)(h:a<2^k)(hs:a+m*2^k<18446744073709551616):j8 .or .u64 (a:Int) ((m*2^k:Nat):Int)=some ((a+m*2^k:Nat):Int):=by
 have e:j8 .or .u64 (a:Int) ((m*2^k:Nat):Int)=some (IntKind.u64.wrap ((BitVec.ofInt 64 (a:Int)|||BitVec.ofInt 64 ((m*2^k:Nat):Int)).toNat:Int)):=rfl;rw[e,BitVec.ofInt_natCast,BitVec.ofInt_natCast,BitVec.toNat_or,BitVec.toNat_ofNat,BitVec.toNat_ofNat,aGz qE,aGz qE,Nat.or_comm,aGN m,<-Nat.two_pow_add_eq_or_of_lt h,tB _ (by rw[aGN];omega),aGN,aHE]
def Sb (h:Sl st X v 1 (aj (uv n++L)))(hn:n<=2147483647):R 193 [v] st λx st'=>x=.tuple [.int .u64 n,I (uv n).length]/\st'=st:=by
 refine bP ?_;rw[ajS];have hlen:=h.len (uv n++L).length uG qE st;simp only[cV,aL,aM,hlen,af];have hn5:=(kh n hn).2;refine bN (λm vs s=>∃i u acc:Nat,∃pre,m+i=(uv n).length/\vs=[.int .u64 acc,v,I (uv n++L).length,I i]/\pre++uv u=uv n/\pre.length=i/\acc+u*128^i=n/\acc<128^i/\s=st) ?_ (n:=(uv n).length) ⟨0,n,0,[],uG,rfl,rfl,rfl,uG,uG,rfl⟩;rintro m vs s k ⟨i,u,acc,pre,hm,rfl,hp,hi,ha,hb,rfl⟩ next;have hul:0<(uv u).length:=by by_cases hu:127<u;rw[iR hu];simp;rw[jD qE];simp
 have Ff:i<(uv n).length:=by rw[<-hp,aEU];omega
 have fk:(i:Int)<(uv n++L).length:=aee
 have hun:u<=n:=by
  have:1<=128^i:=Nat.one_le_pow _ _ qE;have:=Nat.mul_le_mul_left u this;omega
 have uw:∀hh,(aj (uv n++L))[i]'hh=.int .u8 ((if 127<u then u%128+128 else u:Nat):Int):=by
  intro hh;have e:uv n++L=pre++(uv u++L):=by rw[<-hp,aFx]
  have:(aj (uv n++L))[i]?=some (.int .u8 ((if 127<u then u%128+128 else u:Nat):Int)):=by
   rw[e,bL,aGe vR];simp only[bJ,hi,Nat.sub_self]
   by_cases hu:127<u
   .rw[iR hu,aEW hu];show some (bQ _)=_;rw[jS _ qE]
   .rw[jD qE,aET hu];show some (bQ _)=_;rw[jS _ qE]
  rw[aES hh]at this;exact aHj this
 have hib:i<(aj (uv n++L)).length:=vR
 simp only[aL,aM,az,c8,af,ag,fk,aFZ,aFm];refine h.idx hib _ ?_;rw[uw];have Sm:¬(i:Int)=10:=qE
 have e9:¬(i:Int)=9:=qE
 simp only[cI,af,Sm,aGv,aG,bh,aFf,aEM,aFa,aF];have hc:(if 127<u then u%128+128 else u)<256:=abJ
 generalize EM:(if 127<u then u%128+128 else u)=c at hc;have hcm:c%128=u%128:=by rw[<-EM];split<;>omega
 have a1:∀s,ai .and none true (.int .u8 (c:Int)) (.int .u8 127) s=.ok (.int .u8 ((c%128:Nat):Int)) s:=λs=>by
  have:ai .and none true (.int .u8 (c:Int)) (.int .u8 127) s=(match j8 .and .u8 (c:Int) 127 with|some r=>.ok (.int .u8 r) s|none=>.bad):=rfl;rw[this,abm c hc]
 have atS:128^i<=128^4:=Nat.pow_le_pow_right qE qE;have Nj:2^(7*i)=128^i:=by rw[Nat.pow_mul]
 have azC:u%128*128^i<=n:=by
  have:u%128*128^i<=u*128^i:=aFH _ (Nat.mod_le _ _);omega
 have a2:∀s,cW (.toInt .u64) (.int .u8 ((c%128:Nat):Int)) s=.ok (.int .u64 ((c%128:Nat):Int)) s:=λs=>by
  show OR.ok (.int .u64 (IntKind.u64.wrap _)) s=_;rw[tB _ qE]
 have a3:IntKind.i64.wrap (7*(i:Int))=((7*i:Nat):Int):=aaq
 have a4:∀s,ai .shl none false (.int .u64 ((c%128:Nat):Int)) (.int .i64 ((7*i:Nat):Int)) s=.ok (.int .u64 ((u%128*2^(7*i):Nat):Int)) s:=λs=>by
  have e:ai .shl none false (.int .u64 ((c%128:Nat):Int)) (.int .i64 ((7*i:Nat):Int)) s=if ((7*i:Nat):Int)<0 then .bad else .ok (.int .u64 (IntKind.u64.wrap (((c%128:Nat):Int)*2^(min ((7*i:Nat):Int).toNat 64)))) s:=rfl
  rw[e,aET qE,aHy,aFG qE,hcm];have e2:((u%128:Nat):Int)*2^(7*i)=((u%128*2^(7*i):Nat):Int):=uG
  rw[e2,tB _ (by rw[Nj];omega)]
 have a5:∀s,ai .or none false (.int .u64 (acc:Int)) (.int .u64 ((u%128*2^(7*i):Nat):Int)) s=.ok (.int .u64 ((acc+u%128*2^(7*i):Nat):Int)) s:=λs=>by
  have e:ai .or none false (.int .u64 (acc:Int)) (.int .u64 ((u%128*2^(7*i):Nat):Int)) s=(match j8 .or .u64 (acc:Int) ((u%128*2^(7*i):Nat):Int)with|some r=>.ok (.int .u64 r) s|none=>.bad):=rfl;rw[e,adU acc (u%128) (7*i) (by rw[Nj];exact hb) (by rw[Nj];omega)]
 have a6:IntKind.i64.wrap ((i:Int)+1)=((i+1:Nat):Int):=aaq
 have a7:ai .eql (some .int) true (I i) (.int .i64 9) s=.ok (.bool false) s:=by rw[az,cI];simp only[e9,aGv]
 have a8:∀s,ai .lss none true (.int .u8 (c:Int)) (.int .u8 128) s=.ok (.bool (decide (c<128))) s:=λs=>by
  rw[az,c8];congr 2;simp only[aFo];omega
 simp only[a7,af,aG,bS,aEM,aFm,aFa,aFf,aF,ag,a1,a2,je,a3,a4,a5,a8,cO,a6];have AF:=(Nat.mod_add_div u 128).symm
 by_cases hu:127<u
 .have hc8:¬c<128:=by rw[<-EM,aEW hu];omega
  simp only[hc8,aGv,aEM,aFa]
  have e6:u*128^i=u%128*128^i+u/128*128^(i+1):=by
   conv=>lhs;rw[AF]
   rw[aFW,aHw,aGN 128 (u/128),Nat.mul_assoc,aGN 128]
  have e7:u%128*128^i<=127*128^i:=aFH _ qE;refine next (m-1) _ _ qE ⟨i+1,u/128,acc+u%128*2^(7*i),pre++[UInt8.ofNat (u%128+128)],qE,rfl,?_,vR,by rw[Nj];omega,by rw[Nj,aHw];omega,rfl⟩;rw[<-hp,iR hu];simp
 .have hc8:c<128:=by rw[<-EM,aET hu];omega
  simp only[hc8,aFZ,aFm];have e5:(uv n).length=i+1:=by rw[<-hp,jD qE];simp;omega
  rw[e5];have e6:u%128=u:=qE
  rw[e6,Nj,ha];exact⟨rfl,aer⟩
end
end
section
variable {st st':St} {r:Nat} {F:List Nat} {L:List UInt8}
def SS (r:Nat)(F:List Nat)(L:List UInt8)(st st':St):Prop:=Kp F st st'/\st'.nx=st.nx/\oG st' r F L
def TX {n:Nat}(h:1<(uv n).length):∃b,(uv n)[(uv n).length-1]?=some b/\b≠0:=by
 have key:∀m n,n<=m->0<n->∃b,(uv n)[(uv n).length-1]?=some b/\b≠0:=by
  intro m
  induction m with
  |zero=>intro n h1 h2;omega
  |succ m ih=>
   intro n h1 h2
   by_cases hn:127<n
   .obtain⟨b,h3,h4⟩:=ih (n/128) qE qE;have hl:0<(uv (n/128)).length:=by by_cases hu:127<n/128;rw[iR hu];simp;rw[jD qE];simp
    refine⟨b,?_,h4⟩;rw[iR hn,aFp,aFY];obtain⟨k,hk⟩:∃k,(uv (n/128)).length=k+1:=⟨(uv (n/128)).length-1,qE⟩;rw[hk,aEN];rw[hk,aFY]at h3;exact h3
   .rw[jD qE];refine⟨_,rfl,λe=>?_⟩;have:=congrArg UInt8.toNat e;simp at this;omega
 refine key n n (aEQ _) ?_
 by_cases h0:n=0
 .subst h0;rw[jD qE]at h;simp at h
 .omega
def oG.sl (h:oG st r F L):∃q v,st.m.g r=some (.cells [.ptr q 0] 240 false)/\st.m.g q=some (.cells [v,.bool false] 238 false)/\Sl st [] v 1 (aj L):=by
 obtain⟨q,v,G,rfl,h1,h2,h3,h4,h5⟩:=h;exact⟨q,v,h3,h4,h5.nil⟩
def YC {n:Nat}(h:oG st r F (uv n++L))(hn:n<=2147483647):R 157 [.ptr r 0] st λx st'=>x=.tuple [.int .u64 n,.bool true]/\SS r F L st st':=by
 refine bP ?_;rw[aks];refine(qO h).same ?_;obtain⟨q,v,h1,h2,h3⟩:=h.sl;simp[fB,h1,h2];refine(Sb h3 hn).same ?_;have hl:=(kh n hn).1;have hl5:=(kh n hn).2;have yv:R 160 [.ptr q 0,I (uv n).length] st λx3 s3=>SS r F L st s3:=(KD h h1 (n:=(uv n).length) uG).mono λx s ⟨_,k1,k2,k3,_⟩=>⟨k1,k2,by simpa using k3⟩
 have Hd:1<(uv n).length->Lim.idx 1 v (I (((uv n).length-1:Nat):Int)) st λeV=>∃c:Nat,eV=.int .u8 c/\c≠0:=λh4=>by
  obtain⟨b,b1,b2⟩:=TX h4;have hlt:(uv n).length-1<(aj (uv n++L)).length:=vR
  refine h3.idx hlt _ ?_
  have e4:(aj (uv n++L))[(uv n).length-1]'hlt=bQ b:=by
   have:(aj (uv n++L))[(uv n).length-1]?=some (bQ b):=by
    rw[bL,aGr vR];simp only[aj,aFA,b1];rfl
   rw[aES hlt]at this;exact aHj this
  exact⟨b.toNat,e4,λe=>b2 (by apply UInt8.toNat_inj.1;simp;omega)⟩
 generalize (uv n).length=k at*;have e0:¬k=0:=qE
 by_cases h4:1<k
 .have e3:IntKind.i64.wrap ((k:Int)-1)=((k-1:Nat):Int):=by rw[bz qE];omega
  have key:=Hd h4;unfold Lim.idx at key;have e2:(1:Int)<k:=qE
  simp[e0,e2,e3,j7,AD,h1,h2];refine lz key λa ha=>lz ha λx hx=>?_;obtain⟨c,rfl,hc⟩:=hx;simp[hc,yv]
 .have e2:¬(1:Int)<k:=by omega
  simp[e0,e2,j7,AD,h1,yv]
def kX {n m:Nat}(h:oG st r F (uv n++L))(hn:n<=m)(hm:m<=2147483647):R 119 [.ptr r 0,I m] st λx st'=>x=I n/\SS r F L st st':=by
 refine bP ?_;rw[akZ];simp;refine(YC h qE).mono ?_;rintro _ s1 ⟨rfl,h1,h2,h3⟩
 have e1:cW (.toInt .i64) (.int .u64 (n:Int)) s1=.ok (I n) s1:=by
  show OR.ok (.int .i64 (IntKind.i64.wrap _)) s1=_;rw[bz qE]
 have e2:(n:Int)<=2147483647:=qE
 have e3:(n:Int)<=m:=qE
 have e4:(0:Int)<=m:=qE
 simp[e1,e2,hn];refine(KC (.inl rfl) h3 (I n)).same ?_;exact⟨rfl,h1,h2,h3⟩
def PQ {f:Bool}(h:oG st r F (uv (if f=true then 1 else 0)++L)):R 176 [.ptr r 0] st λx st'=>x=.bool f/\SS r F L st st':=by
 refine bP ?_;rw[akf];simp;refine(kX (m:=1) h abJ qE).mono ?_;rintro _ s1 ⟨rfl,h1⟩;cases f<;>simp[h1]
def DQ {s:List UInt8}{m:Nat}(h:oG st r F (uv s.length++(s++L)))(hn:s.length<=m)(hm:m<=2147483647):R 120 [.ptr r 0,I m] st λx st'=>x=.str s/\SS r F L st st':=by
 refine bP ?_;rw[akY];simp;refine(kX h hn hm).mono ?_;rintro _ s1 ⟨rfl,h1,h2,h3⟩;refine(qO h3).same ?_;obtain⟨q,v,g1,g2,g3⟩:=h3.sl;have e1:¬((s++L).length:Int)<s.length:=aee
 simp[j7,fB,g1,g2,g3.len (s++L).length uG qE];have e2:¬((s.length:Int)+L.length<s.length):=qE
 simp[e2];refine(KD h3 g1 (n:=s.length) uG).mono ?_;rintro x s2 ⟨k1,k2,k3,k4,k5⟩;have e3:(s++L).take s.length=s:=uG
 have e4:(s++L).drop s.length=L:=uG
 rw[e3]at k1;rw[e4]at k4;rw[k1.nil.str,af];refine(KC (.inr rfl) k4 (.str s)).same ?_;exact⟨rfl,h1.trans k2 ael,qE,k4⟩
end
