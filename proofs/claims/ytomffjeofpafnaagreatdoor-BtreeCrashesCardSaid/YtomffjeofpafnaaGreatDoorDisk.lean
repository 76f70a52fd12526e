import Derived.Test.YtomffjeofpafnaaGreatDoorWa
import Derived.Test.YtomffjeofpafnaaGreatDoorLimJ
namespace Lim
open Go
noncomputable section
set_option linter.defProp false
set_option maxRecDepth 100000
section
variable {X:List Nat}{v:CV}{k:Nat}{L:List CV}{i:Int}
def R.same {f:Nat}{args:List CV}{st:St}{x:CV}{Q:CV->St->Prop}(h:R f args st λv st'=>v=x/\st'=st)(hq:Q x st):R f args st Q:=R.mono h (by rintro _ _ ⟨rfl,rfl⟩;exact hq)
def ya (e:Nat)(z:List CV)(st:St):bO e 0 (cJ 0 z) [] st=.ok (.slice st.nx 0 0 0 0) (St.new st (.cells [] e false)):=rfl
def Own.empty (st:St)(k e:Nat):Own (St.new st (.cells [] e false)) (.slice st.nx 0 0 0 0) k e [] [st.nx]:=.inr (.inl ⟨st.nx,[],e,false,rfl,rfl,rfl,rq⟩)
def mW (k e:Nat)(v:CV)(L:List CV)(st:St)(x:CV)(st':St):Prop:=∃F',Kp [] st st'/\Own st' x k e L F'/\(∀b∈F',st.nx<=b/\b<st'.nx)/\(v=.ae->x=.ae)
def An {st:St}{e:Nat}(bytes:Nat){z:List CV}(h:Sl st X v k L)(hk:0<k)(iY:aU L=true)(hsz:L.length*(bytes+1)<=140737488355328):
 us (ai .eql (some .slice) true v .ae st) λx1=>aA x1 (mW k e v L st .ae st)
  (upon (bO e 0 (cJ 0 z) [] st) λx2 s1=>upon (bI e k bytes x2 (cW .slice k z v s1) s1) λx3 s2=>mW k e v L st x3 s2):=by
 by_cases hv:v=.ae
 .subst hv
  have:L=[]:=by
   rcases h with⟨_,h⟩|⟨b,off,len,cap,grow,h1,_⟩
   .exact h
   .cases h1
  subst this;simp;exact⟨[],Kp.refl _ _,.inl ⟨rfl,rfl,rfl⟩,rq,λ_=>rfl⟩
 .have h1:us (ai .eql (some .slice) true v .ae st)=us (.ok (.bool false) st):=by
   rcases h with⟨h,_⟩|⟨b,off,len,cap,grow,h,_⟩
   .exact absurd h hv
   .subst h;rfl
  rw[h1];have nt:Kp [] st (St.new st (.cells [] e false)):=(Kp.refl [] st).new _;have lu:=(h.dz (Y:=[]) rq).mono nt;obtain⟨n,h2,h3⟩:=lu.src z;obtain⟨v',st',F',h4,h5,h6,h7⟩:=(Own.empty st k e).append (bytes:=bytes) (T:=L) hk h2 iY rq (by simpa using hsz);simp only[af,ag,aDp,aDE,ya,aT,h3,h4];refine⟨F',nt.trans h6 rq,by simpa using h5,λb hb=>?_,λe=>absurd e hv⟩;obtain⟨h8,h9⟩:=h7 b hb;refine⟨?_,h9⟩;simp only[aEE,vQ]at h8;omega
def wq {st:St}{s:List UInt8}(h:Sl st X v 1 (aj s))(hs:s.length<=1000000000):R 113 [v] st (mW 1 5 v (aj s) st):=by
 refine bN ?_;rw[akb];exact An 1 h pX (rQ s) AI
def aih {st:St}(h:Sl st X v 1 L)(ho:aU L=true)(hs:L.length<=1000000000):R 64 [v] st (mW 1 4 v L st):=by
 refine bN ?_;rw[w64];exact An 1 h pX ho pX
def Ur {st:St}(h:Sl st X v 512 L)(ho:aU L=true)(hs:L.length<=100000000):R 66 [v] st (mW 512 142 v L st):=by
 refine bN ?_;rw[w66];exact An 512 h pX ho pX
def wo {st:St}(h:Sl st X v 4 L)(ho:aU L=true)(hs:L.length<=1000000000):R 50 [v] st (mW 4 109 v L st):=by
 refine bN ?_;rw[w50];exact An 48 h pX ho pX
def Ao {st:St}(h:Sl st X v 1 L)(ho:aU L=true)(hs:L.length<=1000000000):R 106 [v] st (mW 1 3 v L st):=by
 refine bN ?_;rw[akh];exact An 8 h pX ho pX
abbrev iJ:=List UInt8
abbrev pj:=Nat×iJ
structure aP where
 ao:List iJ
 waits:List pj
 done:Int
 dead:Bool
 set:Bool
 left:Int
 keep:List Bool
def FV:List pj->Int->Option Nat
 |[],_=>none
 |w::r,i=>if i=w.1 then some r.length else FV r i
def nW (l:List pj)(i:Int):Option Nat:=FV l.reverse i
def uH (i:Int):nW [] i=none:=rfl
def xP (l:List pj)(w:pj)(i:Int):nW (l++[w]) i=if i=w.1 then some l.length else nW l i:=by simp[nW,FV]
def OY {l:List pj}(h:FV l i=some k):k<l.length:=by
 induction l with
 |nil=>cases h
 |cons w r ih=>
  simp only[FV]at h
  split at h
  .cases h;simp
  .have:=ih h;simp;omega
def wZ {l:List pj}(h:nW l i=some k):k<l.length:=by simpa using OY h
def aP.cur (D:aP)(i:Nat):iJ:=match nW D.waits i with|some k=>(D.waits.getD k (0,[])).2|none=>D.ao.getD i []
def gh (kept:Nat->Bool):Nat->List iJ->List pj->List iJ
 |_,L,[]=>L
 |i,L,w::r=>gh kept (i+1) (if kept i=true then L.set w.1 w.2 else L) r
def oG (kept:Nat->Bool)(i:Nat)(L:List iJ)(W:List pj):(gh kept i L W).length=L.length:=by
 induction W generalizing i L with
 |nil=>rfl
 |cons w r ih=>simp only[gh];rw[ih];split<;>simp
def aP.settle (D:aP)(kept:Nat->Bool):aP:={D with ao:=gh kept 0 D.ao D.waits,waits:=[]}
def qy (l:List Bool)(i:Nat):Bool:=l.getD i false
def aP.oR (D:aP)(keep:List Bool):aP:={D.settle (qy keep)with dead:=true}
def aP.tick (D:aP):aP:={D with left:=IntKind.i64.wrap (D.left-1),done:=IntKind.i64.wrap (D.done+1)}
def aP.out (D:aP):Prop:=D.set=true/\D.left=0
instance (D:aP):Decidable D.out:=by unfold aP.out;infer_instance
def aP.write (D:aP)(i:Int)(b:iJ):Int×aP:=
 if D.dead=true then (20,D)else if i<0\/(D.ao.length:Int)<=i\/b.length≠512 then (1,D)
 else if D.out then (20,{D with waits:=D.waits++[(i.toNat,b)]}.oR D.keep)else (0,{D with waits:=D.waits++[(i.toNat,b)]}.tick)
def aP.flush (D:aP):Int×aP:=if D.dead=true then (20,D)else if D.out then (20,D.oR D.keep)else (0,(D.tick).settle λ_=>true)
def aP.read (D:aP)(i:Int):Int×iJ:=if D.dead=true then (20,[])else if i<0\/(D.ao.length:Int)<=i then (1,[])else (0,D.cur i.toNat)
def j7 (l:List iJ):List CV:=(l.map aj).flatten
def uu (w:pj):List CV:=I w.1::aj w.2
def gU (l:List pj):List CV:=(l.map uu).flatten
structure hJ (st:St)(a:Nat)(F:List Nat)(D:aP)(vl vw vk:CV)(bl bm:Nat)(Fw Fk:List Nat):Prop where
 eq:F=a::bl::bm::(Fw++Fk)
 nd:F.Nodup
 lt:∀b∈F,b<st.nx
 main:st.m.g a=some (.cells [vl,vw,.map bm,I D.done,.bool D.dead,.bool D.set,I D.left,vk] 137 false)
 ao:Row st vl 512 D.ao.length (j7 D.ao) bl
 waits:Own st vw 513 195 (gU D.waits) Fw
 now:∃m,dt st bm m/\∀i,ji m i=(nW D.waits i).map λk:Nat=>I (Int.ofNat k)
 keep:Own st vk 1 4 (D.keep.map .bool) Fk
 wP:∀s∈D.ao,s.length=512
 wO:∀w∈D.waits,w.2.length=512/\w.1<D.ao.length
 size:D.ao.length<=65536
def cG (st:St)(a:Nat)(F:List Nat)(D:aP):Prop:=∃vl vw vk bl bm Fw Fk,hJ st a F D vl vw vk bl bm Fw Fk
def yY {l:List iJ}(h:∀s∈l,s.length=512):∀x∈l.map aj,x.length=512:=by
 intro x hx;obtain⟨s,hs,rfl⟩:=aDR.1 hx;simpa using h s hs
def ru {l:List pj}{n:Nat}(h:∀w∈l,w.2.length=512/\w.1<n):∀x∈l.map uu,x.length=513:=by
 intro x hx;obtain⟨s,hs,rfl⟩:=aDR.1 hx;simpa[uu]using (h s hs).1
section
variable {st st':St} {a:Nat} {F:List Nat} {D D':aP} {vl vw vk:CV} {bl bm:Nat} {Fw Fk:List Nat}
def hJ.mono (h:hJ st a F D vl vw vk bl bm Fw Fk)(hn:st.nx<=st'.nx)(hk:∀b∈F,st'.m.g b=st.m.g b):hJ st' a F D vl vw vk bl bm Fw Fk:=by
 have hF:=λb hb=>hk b aaK;obtain⟨m,h1,h2⟩:=h.now
 exact⟨h.eq,h.nd,λb hb=>aDM (h.lt b hb) hn,by rw[hF a (.inl rfl)];exact h.main,h.ao.mono (hF bl (.inr (.inl rfl))),h.waits.mono λb hb=>hF b (.inr (.inr (.inr (.inl hb)))),
  ⟨m,h1.mono (hF bm (.inr (.inr (.inl rfl)))),h2⟩,h.keep.mono λb hb=>hF b (.inr (.inr (.inr (.inr hb)))),h.wP,h.wO,h.size⟩
def cG.keep (h:cG st a F D)(hk:Kp X st st')(hx:∀b∈F,b∉X):cG st' a F D:=by
 obtain⟨vl,vw,vk,bl,bm,Fw,Fk,h⟩:=h;exact⟨vl,vw,vk,bl,bm,Fw,Fk,h.mono hk.nx λb hb=>hk.keep b (h.lt b hb) (hx b hb)⟩
def cG.lt (h:cG st a F D):∀b∈F,b<st.nx:=by obtain⟨vl,vw,vk,bl,bm,Fw,Fk,h⟩:=h;exact h.lt
def hJ.m (h:hJ st a F D vl vw vk bl bm Fw Fk):a∈F:=aaD
def hJ.apart (h:hJ st a F D vl vw vk bl bm Fw Fk):(a≠bl/\a≠bm/\a∉Fw/\a∉Fk)/\(bl≠bm/\bl∉Fw/\bl∉Fk)/\(bm∉Fw/\bm∉Fk)/\Fw.Nodup/\Fk.Nodup/\∀b∈Fw,b∉Fk:=by
 have nd:=h.nd;rw[h.eq]at nd;simp only[aDG,aDs,aDB,aEM,aEn]at nd;obtain⟨⟨n1,n2,n3,n4⟩,⟨n5,n6,n7⟩,⟨n8,n9⟩,LR,MX,MW⟩:=nd;exact⟨⟨n1,n2,n3,n4⟩,⟨n5,n6,n7⟩,⟨n8,n9⟩,LR,MX,λb h1 h2=>MW b h1 b h2 rfl⟩
def hJ.Xa (h:hJ st a F D vl vw vk bl bm Fw Fk)(e1:D'.ao=D.ao)(e2:D'.waits=D.waits)(e3:D'.keep=D.keep)
 (hn:st.nx<=st'.nx) (hm:st'.m.g a=some (.cells [vl,vw,.map bm,I D'.done,.bool D'.dead,.bool D'.set,I D'.left,vk] 137 false)) (hk:∀b∈F,b≠a->st'.m.g b=st.m.g b):hJ st' a F D' vl vw vk bl bm Fw Fk:=by
 obtain⟨⟨n1,n2,n3,n4⟩,_⟩:=h.apart;have hF:∀b,b=bl\/b=bm\/b∈Fw\/b∈Fk->b∈F:=λb hb=>by rw[h.eq];simp only[aDs,aDB];exact .inr hb
 have kp:=λb hb=>hk b (hF b hb) (by
  intro e;subst e;rcases hb with e|e|e|e
  .exact n1 e
  .exact n2 e
  .exact n3 e
  .exact n4 e)
 obtain⟨m,h1,h2⟩:=h.now
 exact⟨h.eq,h.nd,λb hb=>aDM (h.lt b hb) hn,hm,by rw[e1];exact h.ao.mono (kp bl (.inl rfl)),by rw[e2];exact h.waits.mono λb hb=>kp b (.inr (.inr (.inl hb))),
  ⟨m,h1.mono (kp bm (.inr (.inl rfl))),by rw[e2];exact h2⟩,by rw[e3];exact h.keep.mono λb hb=>kp b (.inr (.inr (.inr hb))),
  by rw[e1];exact h.wP,by rw[e1,e2];exact h.wO,by rw[e1];exact h.size⟩
def sH (h:cG st a F D):R 63 [.ptr a 0] st λv st'=>v=I (if D.dead=true then 20 else 0)/\st'=st:=by
 obtain⟨vl,vw,vk,bl,bm,Fw,Fk,h⟩:=h;refine bN ?_;rw[w63];simp[eW,h.main]
def wY (h:cG st a F D):R 18 [.ptr a 0] st λv st'=>v=I D.ao.length/\st'=st:=by
 obtain⟨vl,vw,vk,bl,bm,Fw,Fk,h⟩:=h;obtain⟨t,g,gr,hv,h1,h2,h3⟩:=h.ao;refine bN ?_;rw[w18];subst hv;simp[eW,h.main]
def wi (h:cG st a F D):R 20 [.ptr a 0] st λv st'=>v=.bool D.dead/\st'=st:=by
 obtain⟨vl,vw,vk,bl,bm,Fw,Fk,h⟩:=h;refine bN ?_;rw[w20];simp[kK,h.main]
def Hc (h:hJ st a F D vl vw vk bl bm Fw Fk):
 R 134 [.ptr a 0] st λv st'=>if D.out then v=.bool true/\st'=st else v=.bool false/\Kp F st st'/\st'.nx=st.nx/\hJ st' a F D.tick vl vw vk bl bm Fw Fk:=by
 refine bN ?_;rw[ajM]
 by_cases h1:D.set=true<;>by_cases h2:D.left=0<;>
  simp[eW,Ah,sn,AT,lD,h.main,bo,dw,cq,vK,nb,Ee,jf,andThen,ia,h1,h2,aP.out]
 all_goals exact⟨(Kp.refl F st).set _ (.inl h.m) (h.lt a h.m),h.Xa rfl rfl rfl (aDt _) (by simp[h1,h2,aP.tick]) λb hb gq=>al _ _ _ _ gq⟩
end
end
section
variable {st st':St} {a:Nat} {F:List Nat} {D D':aP} {vl vw vk:CV} {bl bm:Nat} {Fw Fk:List Nat}
def yD {α:Type}{l:List α}{i:Nat}(h:i<l.length)(d:α):l.getD i d=l[i]:=by simp[List.getD,h]
def Uo (h:hJ st a F D vl vw vk bl bm Fw Fk){i:Nat}(hi:i<D.ao.length):(D.cur i).length=512:=by
 unfold aP.cur;cases hx:nW D.waits i with
 |none=>
  show(D.ao.getD i []).length=_;rw[yD hi];exact h.wP _ (aDL ..)
 |some k=>
  have:=wZ hx;show((D.waits.getD k (0,[])).2).length=_;rw[yD this];exact(h.wO _ (aDL ..)).1
def bC (s:iJ):aU (aj s)=true:=rQ s
def dZ (l t:List CV)(h:t.length=l.length):bo l 0 t=t:=by
 unfold bo;rw[aFj,aDV,aEa pX,aEs]
def Row.zF {v:CV}{k n b:Nat}{L:List (List CV)}(h:Row st v k n L.flatten b)(hw:∀x∈L,x.length=k)(hL:L.length=n){i:Nat}(hi:i<n)(Q:CV->Prop)(hq:Q (.agg L[i])):Lim.iH k k v (I i) st Q:=by
 obtain⟨t,g,gr,rfl,h1,h2,h3⟩:=h;unfold Lim.iH;rw[fU hi (.inr (aDt _))];simp only[af,nJ,h3,ar,rR,aDx];rw[so hw i pX]
 exact⟨by rw[h2];calc i*k+k=(i+1)*k:=by rw[aEz,aFy]
  _<=n*k:=aEj k hi,hq⟩
def Own.row {v:CV}{k e:Nat}{L:List CV}{F:List Nat}(h:Own st v k e L F)(hL:0<L.length):∃b n,F=[b]/\Row st v k n L b/\v=.slice b 0 n n k/\L.length=n*k/\st.m.g b=some (.cells L e true):=by
 rcases h with⟨rfl,rfl,rfl⟩|⟨b,l,t,g,rfl,rfl,rfl,h4⟩|⟨b,m,rfl,h2,h3,rfl,h5⟩
 .simp at hL
 .simp at hL
 .exact⟨b,m,rfl,⟨e,true,k,rfl,.inr rfl,h3,h5⟩,rfl,h3,h5⟩
def sO (h:hJ st a F D vl vw vk bl bm Fw Fk)(hw:0<D.waits.length):∃b,Fw=[b]/\vw=.slice b 0 D.waits.length D.waits.length 513/\st.m.g b=some (.cells (gU D.waits) 195 true):=by
 have hl:(gU D.waits).length=D.waits.length*513:=by
  unfold gU;rw[fB (ru h.wO)];simp
 obtain⟨b,n,h1,h2,h3,h4,h5⟩:=h.waits.row pX;have:n=D.waits.length:=pX
 subst this;exact⟨b,h1,h3,h5⟩
def Got (s:iJ)(st:St)(v:CV)(st':St):Prop:=Kp [] st st'/\s.length=512/\∃b,v=.tuple [.slice b 0 512 512 1,I 0]/\st'.m.g b=some (.cells (aj s) 5 true)/\st.nx<=b/\b<st'.nx
def yv (h:cG st a F D)(i:Int):R 67 [.ptr a 0,I i] st λv st'=>if (D.read i).1=0 then Got (D.read i).2 st v st' else v=.tuple [.ae,I (D.read i).1]/\st'=st:=by
 have h0:=h;obtain⟨vl,vw,vk,bl,bm,Fw,Fk,h⟩:=h;refine bN ?_;rw[w67];refine(sH h0).mono ?_;rintro _ _ ⟨rfl,rfl⟩;rename_i s1;unfold aP.read
 by_cases hd:D.dead=true
 .simp[hd]
 .obtain⟨t,g,gr,hv,h1,h2,h3⟩:=h.ao;have hlen:∀s:St,bj .slice vl s=.ok (I D.ao.length) s:=by intro s;subst hv;rfl
  by_cases VA:i<0
  .simp[hd,VA,kK]
  .by_cases Gx:(D.ao.length:Int)<=i
   .simp[hd,VA,Gx,kK,h.main,hlen]
   .obtain⟨n,rfl⟩:∃n:Nat,i=n:=⟨i.toNat,pX⟩;have hn:n<D.ao.length:=by omega
    have jB:=h.ao;have si:=h.lt bl aaD;have ha:=h.lt a h.m;have hbm:=h.lt bm aaD;have qC:=Uo h hn;obtain⟨m,zU,M6⟩:=h.now
    have fin:∀ux:St,Kp [] s1 ux->s1.nx<ux.nx->ux.m.g s1.nx=some (.cells (aj (D.cur n)) 142 false)->
     us (bR 512 1 (.ptr s1.nx 0) none none ux) λef=>R 113 [ef] ux λdO s5=>Got (D.cur n) s1 (.tuple [dO,I 0]) s5:=by
     intro ux hk hb hg;have e:bR 512 1 (.ptr s1.nx 0) none none ux=.ok (.slice s1.nx 0 512 512 0) ux:=rfl;rw[e,af];have lu:Sl ux [] (.slice s1.nx 0 512 512 0) 1 (aj (D.cur n)):=.inr ⟨s1.nx,0,512,512,0,rfl,by simp[qC],⟨aDt _,.inl rfl⟩,.inr ⟨rq,hb,_,142,false,hg,by simp[qC],by rw[aDX,aDA (by simp[qC])]⟩⟩;refine(wq lu pX).mono ?_;rintro x st3 ⟨F',k1,k2,k3,k4⟩;refine⟨hk.trans k1 rq,qC,?_⟩;obtain⟨b,n',q1,q2,q3,q4,q5⟩:=k2.row (by simp[qC]);have:n'=512:=by simp[qC]at q4;omega
     subst this;exact⟨b,by rw[q3],q5,aEB hk.nx (k3 b (by simp[q1])).1,(k3 b (by simp[q1])).2⟩
    simp[hd,VA,kK,eW,h.main,hlen,Int.not_le.mpr (show(n:Int)<D.ao.length by omega)];refine jB.zF (L:=D.ao.map aj) (yY h.wP) rq hn _ ?_;have hma:(St.new s1 (.cells (zr 512) 142 false)).m.g a=_:=(ba _ _ _ ha).trans h.main;have zY:(aj (D.ao[n])).length=512:=by simpa using h.wP _ (aDL ..)
    have ha':a≠s1.nx:=pX
    have yA:(St.set (St.new s1 (.cells (zr 512) 142 false)) s1.nx (.cells (bo (zr 512) 0 (aj D.ao[n])) 142 false)).m.g bm=s1.m.g bm:=by rw[al _ _ _ _ pX,ba _ _ _ hbm]
    have zV:=(IsMap.lookup (.inl zU) (.int .i64 0) true n _ yA);rw[aDy rfl,M6]at zV;simp[aV,zY,bC,al _ _ _ _ ha',hma,zV];have hkA:∀blk,Kp [] s1 (St.set (St.new s1 (.cells (zr 512) 142 false)) s1.nx blk):=λblk=>((Kp.refl [] s1).new _).set blk (.inr (aDt _)) rq;have hz:(zr 512).length=512:=aEo;cases hx:nW D.waits n with
    |none=>
     simp;refine fin _ (hkA _) rq ?_;rw[aq,dZ _ _ (by rw[zY,hz])];have e:D.cur n=D.ao[n]:=by unfold aP.cur;rw[hx];exact yD hn _
     rw[e]
    |some k=>
     have hk:=wZ hx;obtain⟨bw,Pa,Kg,Rz⟩:=sO h pX;have hbw:=h.lt bw (by rw[h.eq,Pa];simp);have X1:(aj (D.waits[k]).2).length=512:=by simpa using (h.wO _ (aDL ..)).1
     have tN:(((gU D.waits).drop (k*513+1)).take 512)=aj (D.waits[k]).2:=by
      unfold gU;rw[Qo (ru h.wO) k (by simpa using hk) 1 512 pX];simp only[List.getElem_map,uu,List.drop_succ_cons,aDX];rw[aDA pX]
     have hwL:k*513+1+512<=(gU D.waits).length:=by
      unfold gU;rw[fB (ru h.wO)];simp;omega
     simp[Vd,Kg,fU hk (.inr (aDt _)),al _ _ _ _ (show bw≠s1.nx from pX),ba _ _ _ hbw,Rz,tN,hwL,bC];refine⟨pX,fin _ (hkA _) rq ?_⟩;rw[aq,dZ _ _ (by rw[mC _ _ _ pX,X1,hz])];have e:D.cur n=(D.waits[k]).2:=by unfold aP.cur;rw[hx];exact congrArg Prod.snd (yD hk _)
     rw[e]
end
section
variable {st st':St} {a:Nat} {F:List Nat} {D D':aP} {vl vw vk:CV} {bl bm:Nat} {Fw Fk:List Nat}
def agF (st:St)(F:List Nat)(f:CV)(n:Nat)(kept:Nat->Bool):Prop:=∀i<n,∀s,Kp F st s->∀Q:CV->St->Prop,Q (.bool (kept i)) s->fG R f [I i] s Q
def Uy (a:Nat)(F:List Nat)(st:St)(D:aP)(v:CV)(st':St):Prop:=v=.undef/\Kp F st st'/\∃F',cG st' a F' D/\(∀b∈F',b∈F\/st.nx<=b)
def wN {f:CV}{kept:Nat->Bool}(h:hJ st a F D vl vw vk bl bm Fw Fk)(hw:D.waits.length<=1000000000)(hf:agF st [a,bl] f D.waits.length kept):R 111 [.ptr a 0,f] st (Uy a F st (D.settle kept)):=by
 refine bN ?_;rw[akc]
 have X1:∀s:St,bj .slice vw s=.ok (I D.waits.length) s:=by
  intro s
  by_cases h0:0<D.waits.length
  .obtain⟨b,h1,h2,h3⟩:=sO h h0;subst h2;rfl
  .have e:gU D.waits=[]:=by
    have:D.waits=[]:=aDP.1 pX;rw[this];rfl
   have e2:D.waits.length=0:=pX
   rcases h.waits with⟨rfl,_⟩|⟨b,l,t,g,rfl,_⟩|⟨b,n,rfl,h2,h3,_⟩
   .rw[e2];rfl
   .rw[e2];rfl
   .rw[e]at h3;simp at h3;omega
 simp[eW,h.main,X1];refine bK (λn vs s=>∃i L,i+n=D.waits.length/\vs=[.ptr a 0,f,vw,I D.waits.length,I i]/\Kp [a,bl] st s/\hJ s a F {D with ao:=L} vl vw vk bl bm Fw Fk/\L.length=D.ao.length/\gh kept i L (D.waits.drop i)=(D.settle kept).ao) ?_ (n:=D.waits.length) ⟨0,D.ao,rq,rfl,Kp.refl _ _,h,rfl,by simp[aP.settle]⟩;rintro n vs s k ⟨i,L,hi,rfl,hk,hd,hL,hs⟩ next;obtain⟨⟨n1,n2,n3,n4⟩,⟨n5,n6,n7⟩,⟨n8,n9⟩,LR,MX,MW⟩:=hd.apart
 have kX:∀b,b=a\/b=bl\/b=bm\/b∈Fw\/b∈Fk->b∈F/\b<s.nx:=λb hb=>by
  have:b∈F:=aaK
  exact⟨this,hd.lt b this⟩
 by_cases hc:i<D.waits.length
 .have ff:(i:Int)<D.waits.length:=by omega
  obtain⟨bw,Pa,Kg,Rz⟩:=sO hd (by simpa using Nat.lt_of_le_of_lt (aFH _) hc);simp at Kg Rz;have hbw:=kX bw (by simp[Pa]);have hWw:=ru hd.wO
  have jB:((gU D.waits).drop (i*513)).take 513=uu D.waits[i]:=by
   unfold gU;rw[so hWw i Hw];simp
  have Py:i*513+513<=(gU D.waits).length:=by unfold gU;rw[fB hWw];simp;omega
  have hwi:=hd.wO _ (aDL (l:=D.waits) hc);have ug:(uu D.waits[i]).length=513:=by simp[uu,hwi.1]
  have iY:aU (uu D.waits[i])=true:=by simp[uu,bC]
  have hz:([CV.int .i64 0]++zr 512).length=513:=rq
  have wr:IntKind.i64.wrap ((i:Int)+1)=((i+1:Nat):Int):=WT
  simp[ff,iH,Kg,fU hc (.inr (aDt _)),Rz,jB,Py,iY];rw[dZ _ _ (by rw[ug];simp)];refine⟨pX,hf i hc _ ((hk.new _).set _ (.inr hk.nx) rq) _ ?_⟩;have hma:=hd.main;have ha:=kX a (.inl rfl);have si:=kX bl (.inr (.inl rfl));obtain⟨t,g,gr,hv,e1,e2,e3⟩:=hd.ao;simp at hv;have adn:(D.waits[i]).1<L.length:=hwi.2;have HF:Kp [a,bl] st (St.set (St.new s (.cells (CV.int .i64 0::zr 512) 195 false)) s.nx (.cells (uu D.waits[i]) 195 false)):=(hk.new _).set _ (.inr hk.nx) rq
  have AN:hJ (St.set (St.new s (.cells (CV.int .i64 0::zr 512) 195 false)) s.nx (.cells (uu D.waits[i]) 195 false)) a F {D with ao:=L} vl vw vk bl bm Fw Fk:=hd.mono rq λb hb=>by
   have:=hd.lt b hb;rw[al _ _ _ _ pX,ba _ _ _ this]
  have aou:=(show bl∈F/\bl<_ from⟨si.1,AN.lt bl si.1⟩);have PL:=aDN hc;rw[PL]at hs;simp only[gh]at hs;cases vY:kept i with
  |false=>
   rw[vY]at hs;simp[wr];exact next (n-1) _ _ pX ⟨i+1,L,pX,by simp[Kg],HF,AN,hL,aas⟩
  |true=>
   rw[vY]at hs;have KB:(aj (D.waits[i]).2).length=512:=by simpa using hwi.1
   have hLw:=yY (l:=L) hd.wP;have Vy:(D.waits[i]).1*512+512<=(j7 L).length:=by unfold j7;rw[fB hLw];simp;omega
   have hw0:∀h:0<(uu (D.waits[i]'hc)).length,(uu (D.waits[i]'hc))[0]'h=I (D.waits[i]'hc).1:=λ_=>rfl
   have X2:List.take 512 (uu D.waits[i]).tail=aj (D.waits[i]).2:=by
    show List.take 512 (aj (D.waits[i]).2)=_;rw[aDA pX]
   have M6:=AN.main;have Ev:=AN.ao;obtain⟨t',g',gr',Es,e1',e2',e3'⟩:=Ev;simp only at e3';simp[M6,hw0,ug,X2,hv,fU adn (.inr (aDt _)),e3',Vy,KB,bC,wr];refine next (n-1) _ _ pX ⟨i+1,L.set (D.waits[i]).1 (D.waits[i]).2,pX,by simp[Kg],HF.set _ (.inl rq) aou.2,?_,by simpa using hL,aas⟩
   have vX:bo (j7 L) ((D.waits[i]).1*512) (aj (D.waits[i]).2)=j7 (L.set (D.waits[i]).1 (D.waits[i]).2):=by
    unfold j7;rw[xm hLw _ (by simpa using adn) _ KB,List.map_set]
   rw[vX];obtain⟨m,zU,ani⟩:=AN.now;refine⟨AN.eq,AN.nd,AN.lt,?_,⟨t',g',gr',by simpa using Es,e1',?_,rq⟩,AN.waits.mono λb hb=>al _ _ _ _ λe=>n6 (e▸hb),⟨m,zU.mono (al _ _ _ _ (aEr n5)),ani⟩,AN.keep.mono λb hb=>al _ _ _ _ λe=>n7 (e▸hb),?_,?_,?_⟩
   .rw[al _ _ _ _ n1];exact AN.main
   .have:∀x∈L.set (D.waits[i]).1 (D.waits[i]).2,x.length=512:=λx hx=>by
     rcases aFq hx with hx|rfl
     .exact hd.wP x hx
     .exact hwi.1
    unfold j7;rw[fB (yY this)];simp
   .intro x hx;rcases aFq hx with hx|rfl
    .exact hd.wP x hx
    .exact hwi.1
   .intro w hw;simpa using hd.wO w hw
   .simpa using hd.size
 .have ff:¬(i:Int)<D.waits.length:=by omega
  have ha:=kX a (.inl rfl);have hma:(St.new s (.map [] 0)).m.g a=_:=(ba _ _ _ ha.2).trans hd.main;simp[ff,lD,hma,bo];have xW:i=D.waits.length:=pX
  rw[xW,List.drop_length]at hs;simp only[gh]at hs;have hkF:Kp F st (St.set (St.new s (.map [] 0)) a (.cells [vl,.ae,.map s.nx,I D.done,.bool D.dead,.bool D.set,I D.left,vk] 137 false)):=((hk.mono (by simp only[aDs,aEe,aEW];rintro q (rfl|rfl);exact .inl ha.1;exact .inl (kX _ rq).1)).new _).set _ (.inl ha.1) (by have:=ha.2;simp;omega);refine⟨rfl,hkF,a::bl::s.nx::([]++Fk),⟨vl,.ae,vk,bl,s.nx,[],Fk,rfl,?_,?_,by simp[aP.settle],?_,.inl ⟨rfl,rfl,rfl⟩,⟨[],?_,λi=>rfl⟩,?_,?_,by simp[aP.settle],?_⟩,?_⟩
  .have hF:∀b∈Fk,b≠s.nx:=λb hb=>Nat.ne_of_lt (kX b Ww).2;simp only[aDG,aDs,aDV,aEM];exact⟨⟨n1,Nat.ne_of_lt ha.2,n4⟩,⟨Nat.ne_of_lt (kX bl rq).2,n7⟩,λh=>hF _ h rfl,MX⟩
  .intro b hb;simp only[aDs,aDV]at hb;simp;rcases hb with rfl|rfl|rfl|hb
   .omega
   .have:=(kX b rq).2;omega
   .omega
   .have:=(kX b Ww).2;omega
  .have:=hd.ao;have uh:L=gh kept 0 D.ao D.waits:=hs;simp only[aP.settle,<-uh];exact this.mono ((al _ _ _ _ (aEr n1)).trans (ba _ _ _ (kX bl rq).2))
  .refine(dt.new s).mono ?_;exact al _ _ _ _ pX
  .refine hd.keep.mono λb hb=>?_;exact(al _ _ _ _ (λe:b=a=>n4 (e▸hb))).trans (ba _ _ _ (kX b Ww).2)
  .simp only[aP.settle]at hs⊢;rw[<-hs];exact hd.wP
  .simp only[aP.settle,oG];exact h.size
  .intro b hb;simp only[aDs,aDV]at hb;rcases hb with rfl|rfl|rfl|hb
   .exact .inl ha.1
   .exact .inl (kX b rq).1
   .exact .inr hk.nx
   .exact .inl (kX b Ww).1
end
section
variable {st st':St} {a:Nat} {F:List Nat} {D D':aP} {vl vw vk:CV} {bl bm:Nat} {Fw Fk:List Nat}
abbrev rb (l:List Bool):List CV:=l.map .bool
def Sl.bD {X:List Nat}{v:CV}{k:Nat}{L:List CV}(h:Sl st X v k L):v.isAny=false/\ck v=true/\v.cA=[v]:=by
 rcases h with⟨rfl,_⟩|⟨b,off,len,cap,grow,rfl,_⟩<;>exact⟨rfl,rfl,rfl⟩
def Te {v:CV}{keep:List Bool}{b:Nat}(h:Sl st [] v 1 (rb keep))(hb:st.m.g b=some (.cells [v] 53 false))(i:Nat){Q:CV->St->Prop}(hq:Q (.bool (qy keep i)) st):R 112 [I i,.ptr b 0] st Q:=by
 refine bN ?_;rw[abG];have hl:=h.len keep.length rq pX st;simp only[aC,hb,ar,aDo,az,hl,af]
 by_cases hi:i<keep.length
 .simp[hi,hb];have:xd (some true) 1 v (I i) st=Lim.idx 1 v (I i) st:=rfl;rw[this];refine h.idx Wv _ ?_
  simpa[qy,List.getD,hi]using hq
 .simp[hi,xd,cQ]
  simpa[qy,List.getD,aEl (show keep.length<=i from pX)]using hq
def pk (a:Nat)(F:List Nat)(st:St)(D:aP)(st':St):Prop:=Kp F st st'/\∃F',cG st' a F' D/\(∀b∈F',b∈F\/st.nx<=b)
def GZ (h:hJ st a F D vl vw vk bl bm Fw Fk){v:CV}{keep:List Bool}(hw:D.waits.length<=1000000000)(hv:Sl st [a,bl] v 1 (rb keep)):R 65 [.ptr a 0,v] st λ_ st'=>pk a F st (D.oR keep) st':=by
 refine bN ?_;rw[w65];obtain⟨q1,q2,q3⟩:=hv.bD;have ha:=h.lt a h.m;simp[q1];rw[q3];have nt:Kp [] st (St.new st (.cells [v] 53 false)):=(Kp.refl [] st).new _;have h1:=h.mono nt.nx λb hb=>ba _ _ _ (h.lt b hb);refine(wN h1 hw (kept:=qy keep) ?_).mono ?_
 .intro i hi s hs Q hq;rw[dM];refine Te (v:=v) (keep:=keep) ?_ (b:=st.nx) ?_ i hq
  .exact((hv.mono (nt.mono rq)).mono hs).dz rq
  .rw[hs.keep _ rq WU];simp
 .rintro _ s ⟨rfl,h2,F',h3,h4⟩;obtain⟨vl,vw,vk,bl,bm,Fw,Fk,h3⟩:=h3;have h4':=λb hb=>(h4 b hb).imp id λh=>aEB nt.nx h;simp[lD,h3.main,bo];refine⟨((nt.mono (G:=F) rq).trans h2 adt).set _ (.inl h.m) (h3.lt a h3.m),F',⟨vl,vw,vk,bl,bm,Fw,Fk,h3.Xa rfl rfl rfl (aDt _) ?_ λb hb gq=>al _ _ _ _ gq⟩,h4'⟩;simp[aP.oR,aP.settle]
def Kd (h:hJ st a F D vl vw vk bl bm Fw Fk):Sl st [a,bl] vk 1 (rb D.keep):=h.keep.sl λb hb=>by
 obtain⟨⟨n1,n2,n3,n4⟩,⟨n5,n6,n7⟩,_⟩:=h.apart;refine⟨?_,h.lt b (by rw[h.eq];simp[hb])⟩;simp only[aDs,aEe,aEW,aEM];exact⟨λe=>n4 (e▸hb),λe=>n7 (e▸hb)⟩
def wc (h:cG st a F D)(hw:D.waits.length<=1000000000):R 88 [.ptr a 0] st λx st'=>x=I D.flush.1/\pk a F st D.flush.2 st':=by
 have h0:=h;obtain⟨vl,vw,vk,bl,bm,Fw,Fk,h⟩:=h;refine bN ?_;rw[w88];refine(sH h0).mono ?_;rintro _ _ ⟨rfl,rfl⟩;rename_i s1;unfold aP.flush
 by_cases hd:D.dead=true
 .simp[hd];exact⟨Kp.refl _ _,F,h0,adt⟩
 .simp[hd];refine(Hc h).mono ?_;intro v s2 hb
  by_cases ho:D.out
  .rw[aDy ho]at hb;obtain⟨rfl,rfl⟩:=hb;simp[ho,eW,h.main];exact GZ h hw (Kd h)
  .rw[aDv ho]at hb;obtain⟨rfl,hk,hn,h2⟩:=hb;simp[ho];refine(wN h2 (kept:=λ_=>true) hw ?_).mono ?_
   .intro i hi s hs Q hq;rw[dM];refine bN ?_;simp only[aDV,aEs];rw[ajK];exact hq
   .rintro _ s ⟨rfl,h3,F',h4,h5⟩;exact⟨hk.trans h3 adt,F',h4,λb hb=>(h5 b hb).imp id λh=>pX⟩
end
section
variable {st st':St} {a:Nat} {F:List Nat} {D D':aP} {vl vw vk:CV} {bl bm:Nat} {Fw Fk:List Nat}
def vi (h:cG st a F D){i:Int}{v:CV}{s:iJ}(iw:eM st)(hw:D.waits.length<100000000)(hv:Sl st F v 1 (aj s))(hs:s.length=512):R 86 [.ptr a 0,I i,v] st λx st'=>x=I (D.write i s).1/\pk a F st (D.write i s).2 st':=by
 have h0:=h;obtain⟨vl,vw,vk,bl,bm,Fw,Fk,h⟩:=h;refine bN ?_;rw[w86];refine(sH h0).mono ?_;rintro _ _ ⟨rfl,rfl⟩;rename_i s1;unfold aP.write;have xU:pk a F s1 D s1:=⟨Kp.refl _ _,F,h0,adt⟩
 by_cases hd:D.dead=true
 .simp[hd,xU]
 .obtain⟨t,g,gr,hvl,h1,h2,h3⟩:=h.ao;have hlen:∀s:St,bj .slice vl s=.ok (I D.ao.length) s:=by intro s;subst hvl;rfl
  by_cases VA:i<0
  .simp[hd,VA,xU,kK]
  .by_cases Gx:(D.ao.length:Int)<=i
   .simp[hd,VA,Gx,kK,h.main,hlen,xU]
   .obtain⟨n,rfl⟩:∃n:Nat,i=n:=⟨i.toNat,pX⟩;have hn:n<D.ao.length:=by omega
    obtain⟨bv,off,cap,grow,hvs⟩:∃bv off cap grow,v=.slice bv off 512 cap grow:=by
     rcases hv with⟨_,h⟩|⟨b,off,len,cap,grow,rfl,h2,_⟩
     .have:=congrArg List.length h;simp[hs]at this
     .have:len=512:=by simp[hs]at h2;omega
      subst this;exact⟨b,off,cap,grow,rfl⟩
    obtain⟨hvX,alY,l,tv,gv,hvb,Ve,Kh⟩:bv∉F/\bv<s1.nx/\∃l t g,s1.m.g bv=some (.cells l t g)/\off+512<=l.length/\(l.drop off).take 512=aj s:=by
     rcases hv with⟨h,_⟩|⟨b,off,len,cap,grow,h,h2,h3,h4⟩
     .rw[hvs]at h;cases h
     .rw[hvs]at h;cases h;rcases h4 with h4|h4
      .cases h4
      .exact h4
    obtain⟨m,zU,M6⟩:=h.now
    have Py:∀s:St,bj .slice vw s=.ok (I D.waits.length) s:=by
     intro s
     by_cases h0:0<D.waits.length
     .obtain⟨b,h1,h2,h3⟩:=sO h h0;subst h2;rfl
     .have e:gU D.waits=[]:=by
       have:D.waits=[]:=aDP.1 pX;rw[this];rfl
      have e2:D.waits.length=0:=pX
      rcases h.waits with⟨rfl,_⟩|⟨b,l,t,g,rfl,_⟩|⟨b,n,rfl,h2,h3,_⟩
      .rw[e2];rfl
      .rw[e2];rfl
      .rw[e]at h3;simp at h3;omega
    obtain⟨blk,hu1,X5,RA⟩:=IsMap.update (.inl zU) n (I D.waits.length);have ha:=h.lt a h.m;have hbm:=h.lt bm aaD;obtain⟨⟨n1,n2,n3,n4⟩,⟨n5,n6,n7⟩,⟨n8,n9⟩,LR,MX,MW⟩:=h.apart;have adr:bv≠bm:=λe=>hvX (by rw[h.eq,e];simp);have hva:bv≠a:=λe=>hvX (by rw[e];exact h.m);have e1:(St.set s1 bm blk).m.g a=s1.m.g a:=al _ _ _ _ n2;have e2:(St.set s1 bm blk).m.g bv=s1.m.g bv:=al _ _ _ _ adr
    have afc:grow=0\/1<=cap/\512<=cap:=by
     rcases hv with⟨h,_⟩|⟨b,off,len,cap,grow,h,h2,h3,h4⟩
     .rw[hvs]at h;cases h
     .rw[hvs]at h;cases h;omega
    have Nc:(aj s).length=512:=aas
    have jd:(St.skip (St.set s1 bm blk)).m.g s1.nx=none:=by
     rw[ET,al _ _ _ _ pX];exact iw _ (aDt _)
    have zZ:gf [(0,513,.agg (I n::aj s))] (cJ 1 (I 0::zr 512))=some (I n::aj s):=by
     simp[cq,cJ,bo,Nc]
    have mR:bu (I 0::zr 512) [(0,1,I n),(1,512,.agg (aj s))] (St.skip (St.set s1 bm blk))=.ok (.agg (I n::aj s)) (St.skip (St.set s1 bm blk)):=by
     rw[dw];simp[cq,bo,Nc]
    have uk:=jw (e:=195) (n:=1) jd zZ;simp[hd,VA,kK,eW,h.main,hlen,Int.not_le.mpr (show(n:Int)<D.ao.length by omega),hvs,Py,hu1,e1,e2,hvb,oJ,Kh];refine⟨afc,Ve,?_⟩;rw[mR,af,uk,aT];have kV:Kp (bm::Fw) s1 (St.set (St.skip (St.set s1 bm blk)) s1.nx (.cells (I n::aj s) 195 false)):=(((Kp.refl _ s1).set _ (.inl rq) hbm).skip).set _ (.inr (aDt _)) rq
    have Ba:cW .slice 513 (I 0::zr 512) (.slice s1.nx 0 1 1 0) (St.set (St.skip (St.set s1 bm blk)) s1.nx (.cells (I n::aj s) 195 false))=some (1,I n::aj s):=
     Fx (aq _ _ _) pX (by simp[hs])
    rw[Ba]
    have hW3:Own (St.set (St.skip (St.set s1 bm blk)) s1.nx (.cells (I n::aj s) 195 false)) vw 513 195 (gU D.waits) Fw:=h.waits.mono λb hb=>by
     have:=h.lt b (by rw[h.eq];simp[hb]);exact(al _ _ _ _ pX).trans (al _ _ _ _ (λe:b=bm=>n8 (e▸hb)))
    obtain⟨v',s4,Fw',P3,Ez,TX,ha4⟩:=hW3.append (n:=1) (bytes:=520) (T:=I n::aj s) pX (by simp[hs]) (by simp[bC]) (λb hb=>by
     have:=h.lt b (by rw[h.eq];simp[hb]);simp;omega) (by
     have e:(gU D.waits).length=D.waits.length*513:=by unfold gU;rw[fB (ru h.wO)];simp
     rw[e];simp[hs];omega)
    rw[P3,aT];obtain⟨o1,o2⟩:=Ez.ck;have th:=kV.trans TX λq hq=>.inl WD;have hm4:s4.m.g a=_:=(th.keep a ha (by simp;exact⟨n2,n3⟩)).trans h.main;have hm3:=(kV.keep a ha (by simp;exact⟨n2,n3⟩)).trans h.main;have hb3:=(kV.keep bv alY (by simp;exact⟨adr,λe=>hvX (by rw[h.eq];simp[e])⟩)).trans hvb;simp[hm4,hm3,hb3,o1,o2,Ve,Kh,bo];have nZ:D.dead=false:=by simpa using hd
    have ed:({ao:=D.ao,waits:=D.waits++[(n,s)],done:=D.done,dead:=false,set:=D.set,left:=D.left,keep:=D.keep}:aP)={D with waits:=D.waits++[(n,s)]}:=by rw[<-nZ]
    rw[ed,aDy hs];have hF:∀b,b=a\/b=bl\/b=bm\/b∈Fw\/b∈Fk->b∈F:=λb hb=>aaK
    have kX:∀b∈Fw',(b∈Fw\/s1.nx<=b):=λb hb=>(ha4 b hb).1.imp id λh=>by simp at h;omega
    have xh:=h.lt
    have hD1:hJ (St.set s4 a (.cells [vl,v',.map bm,I D.done,.bool D.dead,.bool D.set,I D.left,vk] 137 false)) a (a::bl::bm::(Fw'++Fk)) {D with waits:=D.waits++[(n,s)]} vl v' vk bl bm Fw' Fk:=by
     have gq:∀b∈Fk,b<s1.nx:=λb hb=>xh b (hF b Ww);have TE:=λb hb=>aDM (xh b hb) th.nx;have eS:∀b,b≠a->(St.set s4 a (.cells [vl,v',.map bm,I D.done,.bool D.dead,.bool D.set,I D.left,vk] 137 false)).m.g b=s4.m.g b:=λb hb=>al _ _ _ _ hb;have PG:∀b∈F,b≠bm->b∉Fw->s4.m.g b=s1.m.g b:=λb h1 h2 h3=>th.keep b (xh b h1) (by simp;exact⟨h2,h3⟩);refine⟨rfl,?_,?_,rq,h.ao.mono ?_,?_,⟨_,(RA zU).mono ?_,?_⟩,h.keep.mono ?_,h.wP,?_,h.size⟩
     .have hFw:Fw'.Nodup:=by rcases Ez with⟨_,_,rfl⟩|⟨_,_,_,_,_,_,rfl,_⟩|⟨_,_,_,_,_,rfl,_⟩<;>simp
      have nin:∀b,b∈F->b∉Fw->b∉Fw':=λb h1 h2 h3=>by
       rcases kX b h3 with h4|h4
       .exact h2 h4
       .have:=xh b h1;omega
      simp only[aDG,aDs,aDB,aEM,aEn];exact⟨⟨n1,n2,nin a h.m n3,n4⟩,⟨n5,nin bl (hF _ rq) n6,n7⟩,⟨nin bm (hF _ rq) n8,n9⟩,hFw,MX,λx hx y hy e=>nin y (hF y (by simp[hy])) (λh=>MW y h hy) (e▸hx)⟩
     .intro b hb;show b<s4.nx;simp only[aDs,aDB]at hb;rcases hb with rfl|rfl|rfl|hb|hb
      .exact TE _ h.m
      .exact TE _ (hF _ rq)
      .exact TE _ (hF _ rq)
      .exact(ha4 b hb).2
      .exact TE _ (hF _ Ww)
     .exact(eS _ (aEr n1)).trans (PG bl (hF _ rq) n5 n6)
     .have e:gU (D.waits++[(n,s)])=gU D.waits++(I n::aj s):=by simp[gU,uu]
      show Own _ v' 513 195 (gU (D.waits++[(n,s)])) Fw';rw[e]
      exact Ez.mono λb hb=>eS b λe=>by
       rcases kX b hb with h4|h4
       .exact n3 (e▸h4)
       .omega
     .rw[eS _ (aEr n2),TX.keep bm AI n8,al _ _ _ _ pX,ET]
     .intro i;show _=Option.map _ (nW (D.waits++[(n,s)]) i);rw[FI,xP]
      split
      .rfl
      .exact M6 i
     .intro b hb;exact(eS _ (λe=>n4 (e▸hb))).trans (PG b (hF _ Ww) (λe=>n9 (e▸hb)) (λh=>MW b h hb))
     .intro w hw;rcases aDB.1 hw with hw|hw
      .exact h.wO w hw
      .simp only[aEE]at hw;subst hw;exact⟨hs,hn⟩
    have Gv:Kp F s1 (St.set s4 a (.cells [vl,v',.map bm,I D.done,.bool D.dead,.bool D.set,I D.left,vk] 137 false)):=(th.mono λq hq=>.inl (hF q (by simp at hq;rcases hq with rfl|hq<;>simp[*]))).set _ (.inl h.m) (aDM ha th.nx)
    have wa:∀b∈a::bl::bm::(Fw'++Fk),b∈F\/s1.nx<=b:=by
     intro b hb;simp only[aDs,aDB]at hb;rcases hb with rfl|rfl|rfl|hb|hb
     .exact .inl h.m
     .exact .inl (hF _ rq)
     .exact .inl (hF _ rq)
     .exact(kX b hb).imp (λh=>hF _ WE) id
     .exact .inl (hF _ Ww)
    refine(Hc hD1).mono ?_;intro x s6 hb
    by_cases ho:D.out
    .rw[aDy (show aP.out {D with waits:=D.waits++[(n,s)]}from ho)]at hb;obtain⟨rfl,rfl⟩:=hb;simp[ho];refine(GZ hD1 AI (Kd hD1)).mono ?_;rintro _ s7 ⟨h7,F',h8,h9⟩;exact⟨Gv.trans h7 wa,F',h8,λb hb=>(h9 b hb).elim (wa b) λh=>.inr (aEB Gv.nx h)⟩
    .rw[aDv (show¬aP.out {D with waits:=D.waits++[(n,s)]}from ho)]at hb;obtain⟨rfl,hk,hn,h2⟩:=hb;simp[ho];exact⟨Gv.trans hk wa,_,⟨_,_,_,_,_,_,_,h2⟩,wa⟩
def mT (L:List iJ):aP:=⟨L,[],0,false,false,0,[]⟩
def AB (L:List iJ)(st:St)(v:CV)(st':St):Prop:=Kp [] st st'/\∃a F,v=.tuple [.ptr a 0,I 0]/\cG st' a F (mT L)/\∀b∈F,st.nx<=b
def JX {s1:St}{x:CV}{L:List iJ}{t:TypeId}{g:Bool}{gr b:Nat}(hk:Kp [] st s1)(hx:x=.slice b 0 L.length L.length gr)(hgr:gr=0\/gr=512)(hb:s1.m.g b=some (.cells (j7 L) t g))(KB:st.nx<=b)(HH:b<s1.nx)(hL:∀s∈L,s.length=512)(hn:L.length<=65536):
 AB L st (.tuple [.ptr (s1.nx+1) 0,I 0]) (St.new (St.new s1 (.map [] 0)) (.cells [x,.ae,.map s1.nx,I 0,.bool false,.bool false,I 0,.ae] 137 false)):=by
 refine⟨(hk.new _).new _,s1.nx+1,(s1.nx+1)::b::s1.nx::([]++[]),rfl,⟨x,.ae,.ae,b,s1.nx,[],[],rfl,?_,?_,?_,⟨t,g,gr,hx,hgr,?_,?_⟩,.inl ⟨rfl,rfl,rfl⟩,⟨[],?_,λi=>rfl⟩,.inl ⟨rfl,rfl,rfl⟩,hL,?_,hn⟩,?_⟩
 .simp;omega
 .intro q hq;simp at hq;simp;rcases hq with rfl|rfl|rfl<;>omega
 .exact aw _ _
 .show(j7 L).length=_;unfold j7;rw[fB (yY hL)];simp[mT]
 .show(St.new (St.new s1 _) _).m.g b=_;rw[ba _ _ _ AI,ba _ _ _ HH];exact hb
 .refine(dt.new s1).mono ?_;rw[ba _ _ _ rq]
 .intro w hw;simp[mT]at hw
 .intro q hq;have:=hk.nx;simp at hq;rcases hq with rfl|rfl|rfl<;>omega
def Lz (h:cG st a F D)(hd:D.dead=true)(hl:0<D.ao.length):R 22 [.ptr a 0] st λv st'=>AB D.ao st v st':=by
 have h0:=h;obtain⟨vl,vw,vk,bl,bm,Fw,Fk,h⟩:=h;refine bN ?_;rw[w22];have hlen:(j7 D.ao).length=D.ao.length*512:=by unfold j7;rw[fB (yY h.wP)];simp
 have hs:=h.size
 have iY:aU (j7 D.ao)=true:=by
  simp only[aU,aFu,j7,List.mem_flatten,aDR];rintro x ⟨l,⟨s,_,rfl⟩,hx⟩;obtain⟨b,_,rfl⟩:=aDR.1 hx;rfl
 simp[eW,h.main,hd];refine(Ur (h.ao.sl (X:=[]) rq (h.lt bl aaD)) iY pX).mono ?_;rintro x s2 ⟨F',k1,k2,k3,k4⟩;obtain⟨b,n,q1,q2,q3,q4,q5⟩:=k2.row pX;have:n=D.ao.length:=pX
 subst this;have q6:=k3 b (by simp[q1]);simp[dw,cq,bo,q3];exact JX k1 rfl (.inr rfl) q5 q6.1 q6.2 h.wP h.size
def lE:iJ:=List.replicate 512 0
def pA:lE.length=512:=aEo
def ack (n:Nat):cJ n (zr 512)=j7 (List.replicate n lE):=by
 unfold cJ j7 lE;rw[List.map_replicate]
 congr 2
def XC {n:Nat}(h1:1<=n)(h2:n<=65536):R 29 [I n] st λv st'=>AB (List.replicate n lE) st v st':=by
 refine bN ?_;rw[w29];have e1:¬(n:Int)<1:=pX
 have e2:¬(65536:Int)<n:=pX
 simp[e1,e2,qT,dw,cq,bo];refine⟨pX,?_⟩;have hk:Kp [] st (St.new st (.cells (cJ n (zr 512)) 142 false)):=(Kp.refl [] st).new _;refine JX (x:=.slice st.nx 0 n n 0) hk rq (.inl rfl) (b:=st.nx) (g:=false) (t:=142) ?_ (aDt _) rq ?_ WJ
 .rw[<-ack];exact aw st _
 .intro s hs;rw[List.eq_of_mem_replicate hs];exact pA
end
def kD (st:St)(X:List Nat)(v:CV)(L:List Bool):Prop:=(v=.ae/\L=[])\/∃b off cap,v=.slice b off L.length cap 0/\(L=[]\/(b∉X/\b<st.nx/\∃l o,st.m.g b=some (.ro l o)/\off+L.length<=l.length/\(l.drop off).take L.length=rb L))
section
variable {st st':St} {a:Nat} {F:List Nat} {D D':aP} {vl vw vk v:CV} {bl bm:Nat} {Fw Fk X:List Nat} {keep:List Bool}
def kD.mono (h:kD st X v keep)(hk:Kp X st st'):kD st' X v keep:=by
 rcases h with h|⟨b,off,cap,h1,h4⟩
 .exact .inl h
 .refine .inr ⟨b,off,cap,h1,h4.imp id ?_⟩;rintro⟨h5,h6,l,t,h7,h8⟩;exact⟨h5,aDM h6 hk.nx,l,t,by rw[hk.keep b h6 h5];exact h7,h8⟩
def kD.dz {Y:List Nat}(h:kD st X v keep)(hy:∀q∈Y,q∈X\/st.nx<=q):kD st Y v keep:=by
 rcases h with h|⟨b,off,cap,h1,h4⟩
 .exact .inl h
 .refine .inr ⟨b,off,cap,h1,h4.imp id ?_⟩;rintro⟨h5,h6,h7⟩;exact⟨λhq=>by rcases hy b hq with h|h;exact h5 h;omega,h6,h7⟩
def kD.len (h:kD st X v keep)(s:St):bj .slice v s=.ok (I keep.length) s:=by
 rcases h with⟨rfl,rfl⟩|⟨b,off,cap,rfl,_⟩<;>rfl
def kD.bD (h:kD st X v keep):v.isAny=false/\ck v=true/\v.cA=[v]:=by
 rcases h with⟨rfl,rfl⟩|⟨b,off,cap,rfl,_⟩<;>exact⟨rfl,rfl,rfl⟩
def kD.idx (h:kD st X v keep){i:Nat}(hi:i<keep.length)(k:CV->Prop)(hk:k (.bool keep[i])):Lim.idx 1 v (I i) st k:=by
 rcases h with⟨rfl,rfl⟩|⟨b,off,cap,rfl,rfl|⟨_,_,l,o,h7,h8,h9⟩⟩
 .simp at hi
 .simp at hi
 .unfold Lim.idx;rw[fU hi (.inl rfl),af,aC,h7,uC,aEQ]
  have:l[off+i]?=some (.bool keep[i]):=by
   have e:(rb keep)[i]?=some (.bool keep[i]):=by simp[hi]
   rw[<-h9,aFe]at e
   simpa[hi,aFD]using e
  rw[this];exact hk
def kD.src (h:kD st X v keep)(z:List CV):cW .slice 1 z v st=some (keep.length,rb keep):=by
 rcases h with⟨rfl,rfl⟩|⟨b,off,cap,rfl,h4⟩
 .rfl
 .have e:cW .slice 1 z (.slice b off keep.length cap 0) st=(match dD 1 keep.length (.slice b off keep.length cap 0) st with|some s=>some (keep.length,s)|none=>none):=rfl;rw[e,jI];rcases h4 with rfl|⟨_,_,l,o,h7,h8,h9⟩
  .rfl
  .by_cases h0:keep.length=0
   .rw[aDy h0];rw[aDP.1 h0];rfl
   .rw[aDv h0,aDy (.inl rfl),h7];simp only[aEQ];unfold ia;rw[aDy h8,h9]
def QM (h:kD st X v keep)(hs:keep.length<=140737488355328):R 64 [v] st (mW 1 4 v (rb keep) st):=by
 refine bN ?_;rw[w64]
 by_cases hv:v=.ae
 .subst hv
  have:keep=[]:=by
   rcases h with⟨_,h⟩|⟨b,off,cap,h1,_⟩
   .exact h
   .cases h1
  subst this;simp;exact⟨[],Kp.refl _ _,.inl ⟨rfl,rfl,rfl⟩,rq,λ_=>rfl⟩
 .have h1:us (ai .eql (some .slice) true v .ae st)=us (.ok (.bool false) st):=by
   rcases h with⟨h,_⟩|⟨b,off,cap,rfl,_⟩
   .exact absurd h hv
   .rfl
  rw[h1];have nt:Kp [] st (St.new st (.cells [] 4 false)):=(Kp.refl [] st).new _;have h3:=((h.dz (Y:=[]) rq).mono nt).src [.bool false];simp only[af,ag,aDp,aDE,ya,aT,h3]
  by_cases h0:keep=[]
  .subst h0;have e:bI 4 1 1 (.slice st.nx 0 0 0 0) (some (([]:List Bool).length,rb [])) (St.new st (.cells [] 4 false))=.ok (.slice st.nx 0 0 0 0) (St.new st (.cells [] 4 false)):=rfl;rw[e,aT];exact⟨[st.nx],nt,Own.empty st 1 4,rq,λe=>absurd e hv⟩
  .have hp:=aFg.2 h0;have Jd:Nat.beq keep.length 0=false:=by cases h:Nat.beq keep.length 0 with|false=>rfl|true=>rw[aDZ]at h;omega
   have e:bI 4 1 1 (.slice st.nx 0 0 0 0) (some (keep.length,rb keep)) (St.new st (.cells [] 4 false))=.ok (.slice (st.nx+1) 0 keep.length keep.length 1) (St.new (St.new st (.cells [] 4 false)) (.cells (rb keep) 4 true)):=by
    unfold bI;simp only[Jd,aO,aDp,aDE,dH];have e1:Nat.add 0 keep.length=keep.length:=aDx _;rw[e1,aDv aah,aDy (by simp only[aDK,aDW,Nat.mul_eq,aEQ];exact⟨pX,hs,hs⟩),aw];simp[ia,St.new]
   rw[e,aT];refine⟨[st.nx+1],(nt.new _),.inr (.inr ⟨st.nx+1,keep.length,rfl,hp,rq,rfl,aw _ _⟩),rq,λe=>absurd e hv⟩
def O1 {b:Nat}(h:kD st X v keep)(hb:st.m.g b=some (.cells [v] 53 false))(hl:keep.length<=140737488355328)(i:Nat){Q:CV->St->Prop}(hq:Q (.bool (qy keep i)) st):R 112 [I i,.ptr b 0] st Q:=by
 refine bN ?_;rw[abG];have hl:=h.len st;simp only[aC,hb,ar,aDo,az,hl,af]
 by_cases hi:i<keep.length
 .simp[hi,hb];have:xd (some true) 1 v (I i) st=Lim.idx 1 v (I i) st:=rfl;rw[this];refine h.idx hi _ ?_
  simpa[qy,List.getD,hi]using hq
 .simp[hi,xd,cQ]
  simpa[qy,List.getD,aEl (show keep.length<=i from pX)]using hq
def MR (h:cG st a F D)(hd:D.dead=false)(hw:D.waits.length<=1000000000)(hl:keep.length<=140737488355328)(hv:kD st F v keep):R 21 [.ptr a 0,v] st λx st'=>x=I 0/\pk a F st (D.oR keep) st':=by
 have h0:=h;obtain⟨vl,vw,vk,bl,bm,Fw,Fk,h⟩:=h;refine bN ?_;rw[w21];refine(sH h0).mono ?_;rintro _ s1 ⟨rfl,e1⟩;subst e1;simp only[hd];simp;have hv:kD s1 [a,bl] v keep:=hv.dz λq hq=>.inl (by rw[h.eq];simp at hq⊢;rcases hq with rfl|rfl<;>simp);refine bN ?_;rw[w65];obtain⟨q1,q2,q3⟩:=hv.bD;have ha:=h.lt a h.m;simp[q1];rw[q3];have nt:Kp [] s1 (St.new s1 (.cells [v] 53 false)):=(Kp.refl [] s1).new _;have h1:=h.mono nt.nx λb hb=>ba _ _ _ (h.lt b hb);refine(wN h1 hw (kept:=qy keep) ?_).mono ?_
 .intro i hi s hs Q hq;rw[dM];refine O1 (X:=[a,bl]) (v:=v) (keep:=keep) ?_ (b:=s1.nx) ?_ hl i hq
  .exact(hv.mono (nt.mono rq)).mono hs
  .rw[hs.keep _ rq WU];simp
 .rintro _ s ⟨rfl,h2,F',h3,h4⟩;obtain⟨vl,vw,vk,bl,bm,Fw,Fk,h3⟩:=h3;have h4':=λb hb=>(h4 b hb).imp id λh=>aEB nt.nx h;simp[lD,h3.main,bo];refine⟨((nt.mono (G:=F) rq).trans h2 adt).set _ (.inl h.m) (h3.lt a h3.m),F',⟨vl,vw,vk,bl,bm,Fw,Fk,h3.Xa rfl rfl rfl (aDt _) ?_ λb hb gq=>al _ _ _ _ gq⟩,h4'⟩;simp[aP.oR,aP.settle]
def Qi (h:cG st a F D){i:Int}(hi:0<=i)(hd:D.dead=false)(hl:keep.length<=140737488355328)(hv:kD st X v keep):R 19 [.ptr a 0,I i,v] st λx st'=>x=I 0/\pk a F st {D with set:=true,left:=i,keep:=keep} st':=by
 have h0:=h;obtain⟨vl,vw,vk,bl,bm,Fw,Fk,h⟩:=h;refine bN ?_;rw[w19];refine(sH h0).mono ?_;rintro _ _ ⟨rfl,rfl⟩;rename_i s1;simp[hd,Int.not_lt.mpr hi,dw,cq,bo];refine(QM hv hl).mono ?_;rintro x s2 ⟨Fk',k1,k2,k3,k4⟩;have h2:=h.mono k1.nx λb hb=>k1.keep b (h.lt b hb) rq;obtain⟨o1,o2⟩:=k2.ck;obtain⟨⟨n1,n2,n3,n4⟩,⟨n5,n6,n7⟩,⟨n8,n9⟩,LR,MX,MW⟩:=h.apart
 have hF:∀b,b=a\/b=bl\/b=bm\/b∈Fw\/b∈Fk->b∈F/\b<s1.nx:=λb hb=>by
  have:b∈F:=aaK
  exact⟨this,h.lt b this⟩
 simp[lD,h2.main,bo,o1,o2,hd];have eS:∀blk b,b≠a->(St.set s2 a blk).m.g b=s2.m.g b:=λblk b hb=>al _ _ _ _ hb;have hnk:∀b∈Fk',b∉F:=λb hb oO=>by have:=(k3 b hb).1;have:=h.lt b oO;omega
 refine⟨(k1.mono rq).set _ (.inl h.m) (h2.lt a h.m),a::bl::bm::(Fw++Fk'),⟨vl,vw,x,bl,bm,Fw,Fk',rfl,?_,?_,rq,h2.ao.mono (eS _ _ (aEr n1)),h2.waits.mono λb hb=>eS _ _ (λe=>n3 (e▸hb)),?_,k2.mono λb hb=>eS _ _ λe=>hnk b hb (e▸h.m),h.wP,h.wO,h.size⟩,?_⟩
 .have hFk:Fk'.Nodup:=by rcases k2 with⟨_,_,rfl⟩|⟨_,_,_,_,_,_,rfl,_⟩|⟨_,_,_,_,_,rfl,_⟩<;>simp
  simp only[aDG,aDs,aDB,aEM,aEn];exact⟨⟨n1,n2,n3,λh=>hnk a h (hF a rq).1⟩,⟨n5,n6,λh=>hnk bl h (hF bl rq).1⟩,⟨n8,λh=>hnk bm h (hF bm rq).1⟩,LR,hFk,λx hx y hy e=>hnk y hy (e▸(hF x WH).1)⟩
 .intro b hb;simp only[aDs,aDB]at hb;show b<s2.nx;rcases hb with rfl|rfl|rfl|hb|hb
  .exact h2.lt _ (hF _ rq).1
  .exact h2.lt _ (hF _ rq).1
  .exact h2.lt _ (hF _ rq).1
  .exact h2.lt _ (hF _ Ww).1
  .exact(k3 b hb).2
 .obtain⟨m,zU,M6⟩:=h2.now;exact⟨m,zU.mono (eS _ _ (aEr n2)),M6⟩
 .intro b hb;simp only[aDs,aDB]at hb;rcases hb with rfl|rfl|rfl|hb|hb
  .exact .inl (hF _ rq).1
  .exact .inl (hF _ rq).1
  .exact .inl (hF _ rq).1
  .exact .inl (hF _ Ww).1
  .exact .inr (k3 b hb).1
end
section
variable {k e:Nat}{L:List CV}{x v:CV}{X:List Nat}{n:Nat}
def acy (k:Nat)(h:k<256):jP .or .u8 (k:Int) 128=some ((k%128+128:Nat):Int):=by
 have:∀k:Fin 256,jP .or .u8 ((k.val:Nat):Int) 128=some ((k.val%128+128:Nat):Int):=by decide+kernel
 exact this ⟨k,h⟩
def Nz (k:Nat):IntKind.u8.wrap (k:Int)=((k%256:Nat):Int):=by
 unfold IntKind.wrap;simp[IntKind.bits,IntKind.signed]
def sN (k:Nat)(h:k<18446744073709551616):IntKind.u64.wrap (k:Int)=(k:Int):=by
 unfold IntKind.wrap;simp[IntKind.bits,IntKind.signed];omega
def jC (k:Nat)(h:k<256):bP (UInt8.ofNat k)=.int .u8 (k:Int):=by
 unfold bP;have:(UInt8.ofNat k).toNat=k:=AI
 rw[this]
def OL (k:Nat)(h:k<256)(d:Option jX)(c:Bool)(st:St):ai .or d c (.int .u8 (k:Int)) (.int .u8 128) st=.ok (.int .u8 ((k%128+128:Nat):Int)) st:=by
 have:ai .or d c (.int .u8 (k:Int)) (.int .u8 128) st=(match jP .or .u8 (k:Int) 128 with|some r=>.ok (.int .u8 r) st|none=>.bad):=rfl;rw[this,acy k h]
def LI (k:Nat)(d:Option jX)(c:Bool)(st:St):ai .shr d c (.int .u64 (k:Int)) (.int .u64 7) st=.ok (.int .u64 ((k/128:Nat):Int)) st:=by
 have:ai .shr d c (.int .u64 (k:Int)) (.int .u64 7) st=.ok (.int .u64 ((k:Int).fdiv 128)) st:=rfl;rw[this]
 congr 2
 rw[Int.fdiv_eq_ediv_of_nonneg _ pX];omega
section
variable {st st':St}
def Made.of {F:List Nat}(h1:Kp [] st st')(h2:Own st' x k e L F)(h3:∀b∈F,st.nx<=b/\b<st'.nx):Made k e L st x st':=⟨F,h1,h2,h3⟩
def mW.made (h:mW k e v L st x st'):Made k e L st x st':=by obtain⟨F,h1,h2,h3,_⟩:=h;exact⟨F,h1,h2,h3⟩
def bF (a b:List UInt8):aj (a++b)=aj a++aj b:=aaF
def HO {b:List UInt8}(h:Sl st X v 1 (aj b))(hb:b.length<=1000000)(hn:n<=2147483647):R 166 [v,.int .u64 n] st (Made 1 5 (aj (b++uv n)) st):=by
 refine bN ?_;rw[ajm];simp only[cK,aH,aI];refine(wq h pX).mono ?_;intro x s1 hc;obtain⟨F0,c1,c2,c3⟩:=hc.made;have key:∀m k,k<=m->k<=2147483647->(uv k).length<=5:=λm k _ h=>(jS k h).2;refine bK (λm vs s=>∃u:Nat,∃x F pre,m=u/\vs=[.int .u64 u,x]/\pre++uv u=uv n/\Kp [] st s/\Own s x 1 5 (aj (b++pre)) F/\∀q∈F,st.nx<=q/\q<s.nx) ?_ (n:=n) ⟨n,x,F0,[],rfl,rfl,rfl,c1,by simpa using c2,c3⟩;rintro m vs s k ⟨u,x,F,pre,hm,rfl,hp,hk,ho,hF⟩ next;have yA:=hm;clear hm;subst yA;have X6:∃u,u=m:=⟨m,rfl⟩;obtain⟨u,X6⟩:=X6;subst X6;have asz:pre.length<=5:=by have:=congrArg List.length hp;have h5:=(jS n hn).2;rw[aDw]at this;omega
 have hz:([CV.int .u8 0]:List CV).length=1:=rfl
 by_cases hu:127<u
 .have hu':(127:Int)<u:=by omega
  simp only[aH,aI,ay,dx,af,ag,hu',aEq,aDQ]
  have e1:dy (.toInt .u8) (.int .u64 u) s=.ok (.int .u8 ((u%256:Nat):Int)) s:=by
   show OR.ok (.int .u8 (IntKind.u8.wrap u)) s=_;rw[Nz]
  rw[e1,af,OL _ pX,af];refine QX 1 ho pX (λq hq=>(hF q hq).2) hz rfl rfl rfl AI ?_;intro v' s' F' h1 h2 h3;have esh:=LI u none true s';rw[ay]at esh;rw[esh,af];refine next (u/128) _ _ pX ⟨u/128,v',F',pre++[UInt8.ofNat (u%128+128)],rfl,rfl,?_,hk.trans h2 λq hq=>.inr (hF q hq).1,?_,λq hq=>?_⟩
  .rw[<-hp,iB hu];simp
  .have:aj (b++(pre++[UInt8.ofNat (u%128+128)]))=aj (b++pre)++(CV.int .u8 ((u%256%128+128:Nat):Int)).cA:=by
    rw[<-aDY,bF (b++pre)]
    congr 1
    show [bP _]=[_];rw[jC _ pX]
    congr 3;omega
   rw[this];exact h1
  .obtain⟨h4,h5⟩:=h3 q hq;exact⟨h4.elim (λh=>(hF q h).1) (λh=>aEB hk.nx h),h5⟩
 .have hu':¬(127:Int)<u:=by omega
  simp only[aH,aI,ay,dx,af,ag,hu',aEY,aDp,aDE]
  have e1:dy (.toInt .u8) (.int .u64 u) s=.ok (.int .u8 ((u%256:Nat):Int)) s:=by
   show OR.ok (.int .u8 (IntKind.u8.wrap u)) s=_;rw[Nz]
  rw[e1,af];refine QX 1 ho pX (λq hq=>(hF q hq).2) hz rfl rfl rfl AI ?_;intro v' s' F' h1 h2 h3;refine⟨F',hk.trans h2 λq hq=>.inr (hF q hq).1,?_,λq hq=>?_⟩
  .have:aj (b++uv n)=aj (b++pre)++(CV.int .u8 ((u%256:Nat):Int)).cA:=by
    rw[<-hp,<-aDY,bF (b++pre),jq pX]
    congr 1
   rw[this];exact h1
  .obtain⟨h4,h5⟩:=h3 q hq;exact⟨h4.elim (λh=>(hF q h).1) (λh=>aEB hk.nx h),h5⟩
def sv {b:List UInt8}(h:Sl st X v 1 (aj b))(hb:b.length<=1000000)(hn:n<=2147483647):R 129 [v,I n] st (Made 1 5 (aj (b++uv n)) st):=by
 refine bN ?_;rw[ajP];have e1:¬(n:Int)<0:=pX
 have e2:¬(2147483647:Int)<n:=pX
 have e3:dy (.toInt .u64) (I n) st=.ok (.int .u64 n) st:=by
  show OR.ok (.int .u64 (IntKind.u64.wrap n)) st=_;rw[sN n pX]
 simp[e1,e2,e3];exact HO h hb hn
def Qq {b:List UInt8}{f:Bool}(h:Sl st X v 1 (aj b))(hb:b.length<=1000000):R 188 [v,.bool f] st (Made 1 5 (aj (b++uv (if f=true then 1 else 0))) st):=by
 refine bN ?_;rw[aiW];cases f
 .simp;exact sv (n:=0) h hb pX
 .simp;exact sv (n:=1) h hb pX
def CM {b s:List UInt8}(h:Sl st X v 1 (aj b))(hb:b.length<=1000000)(hs:s.length<=1000000):R 128 [v,.str s] st (Made 1 5 (aj (b++(uv s.length++s))) st):=by
 refine bN ?_;rw[ajQ];have e2:¬(2147483647:Int)<s.length:=pX
 simp[e2];refine(sv h hb pX).mono ?_;rintro x s1 ⟨F,h1,h2,h3⟩;have hl:=(jS s.length pX).2;obtain⟨v',s2,F',a1,a2,a3,a4⟩:=h2.append (n:=s.length) (bytes:=1) (T:=aj s) pX rq (bC s) (λb hb=>(h3 b hb).2) AI;have e3:cW .str 1 [(.int .u8 0)] (.str s) s1=some (s.length,aj s):=rfl;rw[e3,a1,aT];refine⟨F',h1.trans a3 λq hq=>.inr (h3 q hq).1,by simpa[aj]using a2,λb hb=>⟨(a4 b hb).1.elim (λh=>(h3 b h).1) (λh=>by have:=h1.nx;omega),(a4 b hb).2⟩⟩
end
end
section
variable {X:List Nat}{v:CV}{k n l:Nat}
section
variable {st st':St}
def lB (st:St)(F:List Nat)(v:CV)(k:Nat)(L:List CV):Prop:=∀X,(∀b∈F,b∉X)->Sl st X v k L
def lB.keep {F:List Nat}{L:List CV}(h:lB st F v k L)(hk:Kp X st st')(hx:∀b∈F,b∉X):lB st' F v k L:=λY hy=>by
 have h1:=h (X++Y) λb hb=>by simp;exact⟨hx b hb,hy b hb⟩
 exact(h1.mono (hk.mono λq hq=>.inl WD)).dz λq hq=>.inl WD
def Own.aca {e:Nat}{L:List CV}{F:List Nat}(h:Own st v k e L F)(hx:∀b∈F,b<st.nx):lB st F v k L:=λX h2=>h.sl λb hb=>⟨h2 b hb,hx b hb⟩
def lB.nil {F:List Nat}{L:List CV}(h:lB st F v k L):Sl st [] v k L:=h [] rq
def lB.lo {F:List Nat}{L:List CV}(h:lB st F v k L)(hk:0<k)(hn:L.length=n*k)(hl:l<=n)(s:St):∃v',aN k v (some (I l)) none s=.ok v' s/\lB st F v' k (L.drop (l*k)):=by
 obtain⟨v',h1,_⟩:=h.nil.lo hk hn hl s;refine⟨v',h1,λX hx=>?_⟩;obtain⟨v2,h2,h3⟩:=(h X hx).lo hk hn hl s;rw[h1]at h2;cases h2;exact h3
def lB.hi {F:List Nat}{L:List CV}(h:lB st F v k L)(hk:0<k)(hn:L.length=n*k)(hl:l<=n)(s:St):∃v',aN k v none (some (I l)) s=.ok v' s/\lB st F v' k (L.take (l*k)):=by
 obtain⟨v',h1,_⟩:=h.nil.hi hk hn hl s;refine⟨v',h1,λX hx=>?_⟩;obtain⟨v2,h2,h3⟩:=(h X hx).hi hk hn hl s;rw[h1]at h2;cases h2;exact h3
def oo (st:St)(r:Nat)(F:List Nat)(L:List UInt8):Prop:=∃q v G,F=r::q::G/\F.Nodup/\(∀b∈F,b<st.nx)/\st.m.g r=some (.cells [.ptr q 0] 240 false)/\st.m.g q=some (.cells [v,.bool false] 238 false)/\lB st G v 1 (aj L)
def oo.keep {r:Nat}{F:List Nat}{L:List UInt8}(h:oo st r F L)(hk:Kp X st st')(hx:∀b∈F,b∉X):oo st' r F L:=by
 obtain⟨q,v,G,rfl,h1,h2,h3,h4,h5⟩:=h;exact⟨q,v,G,rfl,h1,λb hb=>aDM (h2 b hb) hk.nx,by rw[hk.keep r (h2 r rq) (hx r rq)];exact h3,by rw[hk.keep q (h2 q rq) (hx q rq)];exact h4,h5.keep hk λb hb=>hx b Ww⟩
def vR {L:List UInt8}(h:Sl st X v 1 (aj L))(hl:L.length<=1000000):R 116 [v] st λx st'=>∃r F,x=.ptr r 0/\Kp [] st st'/\oo st' r F L/\∀b∈F,st.nx<=b:=by
 refine bN ?_;rw[ajY];refine(wq h pX).mono ?_;intro x s1 hc;obtain⟨F0,c1,c2,c3⟩:=hc.made;obtain⟨o1,o2⟩:=c2.ck;have o3:=(c2.sl (X:=[]) λb hb=>⟨rq,(c3 b hb).2⟩).bD.1;simp[dw,cq,bo,o2,o3];have hF:F0.Nodup:=by rcases c2 with⟨_,_,rfl⟩|⟨_,_,_,_,_,_,rfl,_⟩|⟨_,_,_,_,_,rfl,_⟩<;>simp
 refine⟨(c1.new _).new _,(s1.nx+1)::s1.nx::F0,⟨s1.nx,x,F0,rfl,?_,?_,aw _ _,?_,?_⟩,?_⟩
 .simp only[aDG,aDs,aEM];exact⟨⟨pX,λh=>by have:=(c3 _ h).2;omega⟩,λh=>by have:=(c3 _ h).2;omega,hF⟩
 .intro b hb;simp only[aDs]at hb;simp;rcases hb with rfl|rfl|hb
  .omega
  .omega
  .have:=(c3 b hb).2;omega
 .rw[ba _ _ _ rq];exact aw _ _
 .refine Own.aca (e:=5) (c2.mono λb hb=>?_) λb hb=>?_
  .have:=(c3 b hb).2;rw[ba _ _ _ AI,ba _ _ _ this]
  .have:=(c3 b hb).2;simp;omega
 .intro b hb;have:=c1.nx;simp only[aDs]at hb;rcases hb with rfl|rfl|hb
  .omega
  .omega
  .exact(c3 b hb).1
variable {r:Nat} {F:List Nat} {L:List UInt8}
def qh (h:oo st r F L):R 117 [.ptr r 0] st λv st'=>v=.bool true/\st'=st:=by
 obtain⟨q,v,G,rfl,h1,h2,h3,h4,h5⟩:=h;refine bN ?_;rw[ajX];simp[kK,h3];refine bN ?_;rw[ajt];simp[kK,h4]
def Kb (h:oo st r F L):R 156 [.ptr r 0] st λv st'=>v=I L.length/\st'=st:=by
 obtain⟨q,v,G,rfl,h1,h2,h3,h4,h5⟩:=h;refine bN ?_;rw[ajs];simp[eW,h3];refine bN ?_;rw[aiT];simp[eW,kK,h4,h5.nil.len L.length rq pX]
def Un (h:oo st r F L):R 118 [.ptr r 0] st λv st'=>v=.bool (decide (L=[]))/\st'=st:=by
 refine bN ?_;rw[ajW];refine(qh h).mono ?_;rintro _ _ ⟨rfl,rfl⟩;simp;refine(Kb h).mono ?_;rintro _ _ ⟨rfl,rfl⟩;simp
def lB.mono {F G:List Nat}{L:List CV}(h:lB st G v k L)(hg:∀b∈G,b∈F):lB st F v k L:=λX hx=>h X λb hb=>hx b (hg b hb)
def JF (h:oo st r F L){q:Nat}(hq:st.m.g r=some (.cells [.ptr q 0] 240 false))(hn:n<=L.length):R 160 [.ptr q 0,I n] st λx st'=>lB st' F x 1 (aj (L.take n))/\Kp F st st'/\st'.nx=st.nx/\oo st' r F (L.drop n)/\st'.m.g r=st.m.g r:=by
 obtain⟨q',v,G,rfl,h1,h2,h3,h4,h5⟩:=h;have:q'=q:=by rw[h3]at hq;cases hq;rfl
 subst this;refine bN ?_;rw[ajo];obtain⟨v1,a1,a2⟩:=h5.hi (n:=L.length) pX rq hn st;obtain⟨v2,b1,b2⟩:=h5.lo (n:=L.length) pX rq hn st;obtain⟨c1,c2,c3⟩:=b2.nil.bD;have h1':=h1;simp only[aDG,aDs,aEM]at h1;simp[eW,lD,h4,a1,b1,bo,c2,c3];have hk:Kp (r::q'::G) st (St.set st q' (.cells [v2,.bool false] 238 false)):=(Kp.refl _ st).set _ (.inl rq) (h2 q' rq);have hkq:Kp [q'] st (St.set st q' (.cells [v2,.bool false] 238 false)):=(Kp.refl _ st).set _ (.inl rq) (h2 q' rq);have hG:∀b∈G,b∉[q']:=λb hb e=>h1.2.1 (by simp at e;exact e▸hb);have hr:(St.set st q' (.cells [v2,.bool false] 238 false)).m.g r=st.m.g r:=al _ _ _ _ h1.1.1;have e1:aj (L.take n)=(aj L).take (n*1):=aaF
 have e2:aj (L.drop n)=(aj L).drop (n*1):=aaF
 refine⟨?_,hk,⟨q',v2,G,rfl,h1',h2,by rw[hr];exact h3,aq _ _ _,?_⟩,hr⟩
 .rw[e1];exact(a2.keep hkq hG).mono (λb hb=>Ww)
 .rw[e2];exact b2.keep hkq hG
def JE {f:Nat}(hf:f=158\/f=159)(h:oo st r F L)(v:CV):R f [.ptr r 0,v,.bool true] st λx st'=>x=v/\st'=st:=by
 obtain⟨q,v',G,rfl,h1,h2,h3,h4,h5⟩:=h;refine bN ?_ (by rcases hf with rfl|rfl<;>rfl);rcases hf with rfl|rfl
 .rw[ajq];simp[eW,h3,h4]
 .rw[ajp];simp[eW,h3,h4]
def ZZ (k:Nat)(h:k<256):jP .and .u8 (k:Int) 127=some ((k%128:Nat):Int):=by
 have:∀k:Fin 256,jP .and .u8 ((k.val:Nat):Int) 127=some ((k.val%128:Nat):Int):=by decide+kernel
 exact this ⟨k,h⟩
def acx (a m:Nat)(k:Nat)(h:a<2^k)(hs:a+m*2^k<18446744073709551616):jP .or .u64 (a:Int) ((m*2^k:Nat):Int)=some ((a+m*2^k:Nat):Int):=by
 have e:jP .or .u64 (a:Int) ((m*2^k:Nat):Int)=some (IntKind.u64.wrap ((BitVec.ofInt 64 (a:Int)|||BitVec.ofInt 64 ((m*2^k:Nat):Int)).toNat:Int)):=rfl;rw[e,BitVec.ofInt_natCast,BitVec.ofInt_natCast,BitVec.toNat_or,BitVec.toNat_ofNat,BitVec.toNat_ofNat,aFn pX,aFn pX,Nat.or_comm,aFs m,<-Nat.two_pow_add_eq_or_of_lt h,sN _ (by rw[aFs];omega),aFs,aGg]
def Qr (h:Sl st X v 1 (aj (uv n++L)))(hn:n<=2147483647):R 193 [v] st λx st'=>x=.tuple [.int .u64 n,I (uv n).length]/\st'=st:=by
 refine bN ?_;rw[aiS];have hlen:=h.len (uv n++L).length rq pX st;simp only[cK,aH,aI,hlen,af];have hn5:=(jS n hn).2;refine bK (λm vs s=>∃i u acc:Nat,∃pre,m+i=(uv n).length/\vs=[.int .u64 acc,v,I (uv n++L).length,I i]/\pre++uv u=uv n/\pre.length=i/\acc+u*128^i=n/\acc<128^i/\s=st) ?_ (n:=(uv n).length) ⟨0,n,0,[],rq,rfl,rfl,rfl,rq,rq,rfl⟩;rintro m vs s k ⟨i,u,acc,pre,hm,rfl,hp,hi,ha,hb,rfl⟩ next;have hul:0<(uv u).length:=by by_cases hu:127<u;rw[iB hu];simp;rw[jq pX];simp
 have Ew:i<(uv n).length:=by rw[<-hp,aDw];omega
 have ff:(i:Int)<(uv n++L).length:=aby
 have hun:u<=n:=by
  have:1<=128^i:=Nat.one_le_pow _ _ pX;have:=Nat.mul_le_mul_left u this;omega
 have zY:∀hh,(aj (uv n++L))[i]'hh=.int .u8 ((if 127<u then u%128+128 else u:Nat):Int):=by
  intro hh;have e:uv n++L=pre++(uv u++L):=by rw[<-hp,aDY]
  have:(aj (uv n++L))[i]?=some (.int .u8 ((if 127<u then u%128+128 else u:Nat):Int)):=by
   rw[e,bF,aEF AI];simp only[bJ,hi,Nat.sub_self]
   by_cases hu:127<u
   .rw[iB hu,aDy hu];show some (bP _)=_;rw[jC _ pX]
   .rw[jq pX,aDv hu];show some (bP _)=_;rw[jC _ pX]
  rw[aDu hh]at this;exact aFr this
 have hib:i<(aj (uv n++L)).length:=AI
 simp only[aH,aI,ay,cY,af,ag,ff,aEq,aDQ];refine h.idx hib _ ?_;rw[zY];have Qz:¬(i:Int)=10:=pX
 have e9:¬(i:Int)=9:=pX
 simp only[cz,af,Qz,aEY,aL,bp,aDI,aDp,aDE,aJ];have hc:(if 127<u then u%128+128 else u)<256:=aaE
 generalize GB:(if 127<u then u%128+128 else u)=c at hc;have TW:c%128=u%128:=by rw[<-GB];split<;>omega
 have a1:∀s,ai .and none true (.int .u8 (c:Int)) (.int .u8 127) s=.ok (.int .u8 ((c%128:Nat):Int)) s:=λs=>by
  have:ai .and none true (.int .u8 (c:Int)) (.int .u8 127) s=(match jP .and .u8 (c:Int) 127 with|some r=>.ok (.int .u8 r) s|none=>.bad):=rfl;rw[this,ZZ c hc]
 have asB:128^i<=128^4:=Nat.pow_le_pow_right pX pX;have Et:2^(7*i)=128^i:=by rw[Nat.pow_mul]
 have ayk:u%128*128^i<=n:=by
  have:u%128*128^i<=u*128^i:=aEj _ (Nat.mod_le _ _);omega
 have a2:∀s,dy (.toInt .u64) (.int .u8 ((c%128:Nat):Int)) s=.ok (.int .u64 ((c%128:Nat):Int)) s:=λs=>by
  show OR.ok (.int .u64 (IntKind.u64.wrap _)) s=_;rw[sN _ pX]
 have a3:IntKind.i64.wrap (7*(i:Int))=((7*i:Nat):Int):=WT
 have a4:∀s,ai .shl none false (.int .u64 ((c%128:Nat):Int)) (.int .i64 ((7*i:Nat):Int)) s=.ok (.int .u64 ((u%128*2^(7*i):Nat):Int)) s:=λs=>by
  have e:ai .shl none false (.int .u64 ((c%128:Nat):Int)) (.int .i64 ((7*i:Nat):Int)) s=if ((7*i:Nat):Int)<0 then .bad else .ok (.int .u64 (IntKind.u64.wrap (((c%128:Nat):Int)*2^(min ((7*i:Nat):Int).toNat 64)))) s:=rfl
  rw[e,aDv pX,aGb,aEi pX,TW];have e2:((u%128:Nat):Int)*2^(7*i)=((u%128*2^(7*i):Nat):Int):=rq
  rw[e2,sN _ (by rw[Et];omega)]
 have a5:∀s,ai .or none false (.int .u64 (acc:Int)) (.int .u64 ((u%128*2^(7*i):Nat):Int)) s=.ok (.int .u64 ((acc+u%128*2^(7*i):Nat):Int)) s:=λs=>by
  have e:ai .or none false (.int .u64 (acc:Int)) (.int .u64 ((u%128*2^(7*i):Nat):Int)) s=(match jP .or .u64 (acc:Int) ((u%128*2^(7*i):Nat):Int)with|some r=>.ok (.int .u64 r) s|none=>.bad):=rfl;rw[e,acx acc (u%128) (7*i) (by rw[Et];exact hb) (by rw[Et];omega)]
 have a6:IntKind.i64.wrap ((i:Int)+1)=((i+1:Nat):Int):=WT
 have a7:ai .eql (some .int) true (I i) (.int .i64 9) s=.ok (.bool false) s:=by rw[ay,cz];simp only[e9,aEY]
 have a8:∀s,ai .lss none true (.int .u8 (c:Int)) (.int .u8 128) s=.ok (.bool (decide (c<128))) s:=λs=>by
  rw[ay,cY];congr 2;simp only[aDU];omega
 simp only[a7,af,aL,cH,aDp,aDQ,aDE,aDI,aJ,ag,a1,a2,kg,a3,a4,a5,a8,cI,a6];have zQ:=(Nat.mod_add_div u 128).symm
 by_cases hu:127<u
 .have hc8:¬c<128:=by rw[<-GB,aDy hu];omega
  simp only[hc8,aEY,aDp,aDE]
  have e6:u*128^i=u%128*128^i+u/128*128^(i+1):=by
   conv=>lhs;rw[zQ]
   rw[aEz,aFY,aFs 128 (u/128),Nat.mul_assoc,aFs 128]
  have e7:u%128*128^i<=127*128^i:=aEj _ pX;refine next (m-1) _ _ pX ⟨i+1,u/128,acc+u%128*2^(7*i),pre++[UInt8.ofNat (u%128+128)],pX,rfl,?_,AI,by rw[Et];omega,by rw[Et,aFY];omega,rfl⟩;rw[<-hp,iB hu];simp
 .have hc8:c<128:=by rw[<-GB,aDv hu];omega
  simp only[hc8,aEq,aDQ];have e5:(uv n).length=i+1:=by rw[<-hp,jq pX];simp;omega
  rw[e5];have e6:u%128=u:=pX
  rw[e6,Et,ha];exact⟨rfl,adu⟩
end
end
section
variable {st st':St} {r:Nat} {F:List Nat} {L:List UInt8}
def Rc (r:Nat)(F:List Nat)(L:List UInt8)(st st':St):Prop:=Kp F st st'/\st'.nx=st.nx/\oo st' r F L
def Sf {n:Nat}(h:1<(uv n).length):∃b,(uv n)[(uv n).length-1]?=some b/\b≠0:=by
 have key:∀m n,n<=m->0<n->∃b,(uv n)[(uv n).length-1]?=some b/\b≠0:=by
  intro m
  induction m with
  |zero=>intro n h1 h2;omega
  |succ m ih=>
   intro n h1 h2
   by_cases hn:127<n
   .obtain⟨b,h3,h4⟩:=ih (n/128) pX pX;have hl:0<(uv (n/128)).length:=by by_cases hu:127<n/128;rw[iB hu];simp;rw[jq pX];simp
    refine⟨b,?_,h4⟩;rw[iB hn,aDT,aEL];obtain⟨k,hk⟩:∃k,(uv (n/128)).length=k+1:=⟨(uv (n/128)).length-1,pX⟩;rw[hk,aDq];rw[hk,aEL]at h3;exact h3
   .rw[jq pX];refine⟨_,rfl,λe=>?_⟩;have:=congrArg UInt8.toNat e;simp at this;omega
 refine key n n (aDt _) ?_
 by_cases h0:n=0
 .subst h0;rw[jq pX]at h;simp at h
 .omega
def oo.sl (h:oo st r F L):∃q v,st.m.g r=some (.cells [.ptr q 0] 240 false)/\st.m.g q=some (.cells [v,.bool false] 238 false)/\Sl st [] v 1 (aj L):=by
 obtain⟨q,v,G,rfl,h1,h2,h3,h4,h5⟩:=h;exact⟨q,v,h3,h4,h5.nil⟩
def Xj {n:Nat}(h:oo st r F (uv n++L))(hn:n<=2147483647):R 157 [.ptr r 0] st λx st'=>x=.tuple [.int .u64 n,.bool true]/\Rc r F L st st':=by
 refine bN ?_;rw[ajr];refine(qh h).same ?_;obtain⟨q,v,h1,h2,h3⟩:=h.sl;simp[eW,h1,h2];refine(Qr h3 hn).same ?_;have hl:=(jS n hn).1;have hl5:=(jS n hn).2;have B0:R 160 [.ptr q 0,I (uv n).length] st λx3 s3=>Rc r F L st s3:=(JF h h1 (n:=(uv n).length) rq).mono λx s ⟨_,k1,k2,k3,_⟩=>⟨k1,k2,by simpa using k3⟩
 have Gr:1<(uv n).length->Lim.idx 1 v (I (((uv n).length-1:Nat):Int)) st λew=>∃c:Nat,ew=.int .u8 c/\c≠0:=λh4=>by
  obtain⟨b,b1,b2⟩:=Sf h4;have hlt:(uv n).length-1<(aj (uv n++L)).length:=AI
  refine h3.idx hlt _ ?_
  have e4:(aj (uv n++L))[(uv n).length-1]'hlt=bP b:=by
   have:(aj (uv n++L))[(uv n).length-1]?=some (bP b):=by
    rw[bF,aET AI];simp only[aj,aEf,b1];rfl
   rw[aDu hlt]at this;exact aFr this
  exact⟨b.toNat,e4,λe=>b2 (by apply UInt8.toNat_inj.1;simp;omega)⟩
 generalize (uv n).length=k at*;have e0:¬k=0:=pX
 by_cases h4:1<k
 .have e3:IntKind.i64.wrap ((k:Int)-1)=((k-1:Nat):Int):=by rw[bB pX];omega
  have key:=Gr h4;unfold Lim.idx at key;have e2:(1:Int)<k:=pX
  simp[e0,e2,e3,kK,xd,h1,h2];refine lC key λa ha=>lC ha λx hx=>?_;obtain⟨c,rfl,hc⟩:=hx;simp[hc,B0]
 .have e2:¬(1:Int)<k:=by omega
  simp[e0,e2,kK,xd,h1,B0]
def kP {n m:Nat}(h:oo st r F (uv n++L))(hn:n<=m)(hm:m<=2147483647):R 119 [.ptr r 0,I m] st λx st'=>x=I n/\Rc r F L st st':=by
 refine bN ?_;rw[ajV];simp;refine(Xj h pX).mono ?_;rintro _ s1 ⟨rfl,h1,h2,h3⟩
 have e1:dy (.toInt .i64) (.int .u64 (n:Int)) s1=.ok (I n) s1:=by
  show OR.ok (.int .i64 (IntKind.i64.wrap _)) s1=_;rw[bB pX]
 have e2:(n:Int)<=2147483647:=pX
 have e3:(n:Int)<=m:=pX
 have e4:(0:Int)<=m:=pX
 simp[e1,e2,hn];refine(JE (.inl rfl) h3 (I n)).same ?_;exact⟨rfl,h1,h2,h3⟩
def Ot {f:Bool}(h:oo st r F (uv (if f=true then 1 else 0)++L)):R 176 [.ptr r 0] st λx st'=>x=.bool f/\Rc r F L st st':=by
 refine bN ?_;rw[ajf];simp;refine(kP (m:=1) h aaE pX).mono ?_;rintro _ s1 ⟨rfl,h1⟩;cases f<;>simp[h1]
def CZ {s:List UInt8}{m:Nat}(h:oo st r F (uv s.length++(s++L)))(hn:s.length<=m)(hm:m<=2147483647):R 120 [.ptr r 0,I m] st λx st'=>x=.str s/\Rc r F L st st':=by
 refine bN ?_;rw[ajU];simp;refine(kP h hn hm).mono ?_;rintro _ s1 ⟨rfl,h1,h2,h3⟩;refine(qh h3).same ?_;obtain⟨q,v,g1,g2,g3⟩:=h3.sl;have e1:¬((s++L).length:Int)<s.length:=aby
 simp[kK,eW,g1,g2,g3.len (s++L).length rq pX];have e2:¬((s.length:Int)+L.length<s.length):=pX
 simp[e2];refine(JF h3 g1 (n:=s.length) rq).mono ?_;rintro x s2 ⟨k1,k2,k3,k4,k5⟩;have e3:(s++L).take s.length=s:=rq
 have e4:(s++L).drop s.length=L:=rq
 rw[e3]at k1;rw[e4]at k4;rw[k1.nil.str,af];refine(JE (.inr rfl) k4 (.str s)).same ?_;exact⟨rfl,h1.trans k2 adt,pX,k4⟩
end
