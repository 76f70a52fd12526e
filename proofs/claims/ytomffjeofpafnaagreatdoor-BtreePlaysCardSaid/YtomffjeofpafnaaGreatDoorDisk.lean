import Derived.Test.YtomffjeofpafnaaGreatDoorWa
import Derived.Test.YtomffjeofpafnaaGreatDoorLimJ
namespace Lim
open Go
noncomputable section
set_option maxRecDepth 100000
theorem R.same {f:Nat}{args:List CV}{st:St}{x:CV}{Q:CV->St->Prop}(h:R f args st fun v st'=>v=x/\st'=st)(hq:Q x st):R f args st Q:=R.mono h (by rintro _ _ ⟨rfl,rfl⟩;exact hq)
theorem FL (e:Nat)(z:List CV)(st:St):bQ e 0 (cH 0 z) [] st= .ok (.slice st.next 0 0 0 0) (St.new st (.cells [] e false)):=rfl
theorem Own.empty (st:St)(k e:Nat):Own (St.new st (.cells [] e false)) (.slice st.next 0 0 0 0) k e [] [st.next]:= .inr (.inl ⟨st.next,[],e,false,rfl,rfl,rfl,by simp⟩)
def oH (k e:Nat)(v:CV)(L:List CV)(st:St)(x:CV)(st':St):Prop:=∃F',Kp [] st st'/\Own st' x k e L F'/\(∀b∈F',st.next<=b/\b<st'.next)/\(v= .ae->x= .ae)
theorem De {st:St}{X:List Nat}{v:CV}{k e:Nat}(bytes:Nat){L z:List CV}(h:Sl st X v k L)(hk:0<k)(jh:aV L=true)(hsz:L.length*(bytes+1)<=140737488355328):
 us (aj .eql (some .slice) true v .ae st) fun x1=>aB x1 (oH k e v L st .ae st)
  (upon (bQ e 0 (cH 0 z) [] st) fun x2 s1=>upon (bM e k bytes x2 (cV .slice k z v s1) s1) fun x3 s2=>oH k e v L st x3 s2):=by
 by_cases hv:v= .ae
 ·subst hv
  have:L=[]:=by
   rcases h with⟨_,h⟩|⟨b,off,len,cap,grow,h1,_⟩
   ·exact h
   ·cases h1
  subst this;simp;exact⟨[],Kp.refl _ _, .inl ⟨rfl,rfl,rfl⟩,by simp,fun _=>rfl⟩
 ·have h1:us (aj .eql (some .slice) true v .ae st)=us (.ok (.bool false) st):=by
   rcases h with⟨h,_⟩|⟨b,off,len,cap,grow,h,_⟩
   ·exact absurd h hv
   ·subst h;rfl
  rw[h1];have px:Kp [] st (St.new st (.cells [] e false)):=(Kp.refl [] st).new _;have kL:=(h.dM (Y:=[]) (by simp)).mono px;obtain⟨n,h2,h3⟩:=kL.src z;obtain⟨v',st',F',h4,h5,h6,h7⟩:=(Own.empty st k e).append (bytes:=bytes) (T:=L) hk h2 jh (by simp) (by simpa using hsz);simp only[af,ag,aAz,aAO,FL,aS,h3,h4];refine⟨F',px.trans h6 (by simp),by simpa using h5,fun b hb=> ?_,fun e=>absurd e hv⟩;obtain⟨h8,h9⟩:=h7 b hb;refine⟨?_,h9⟩;simp only[aBM,u7]at h8;omega
theorem vy {st:St}{X:List Nat}{v:CV}{s:List UInt8}(h:Sl st X v 1 (ai s))(hs:s.length<=1000000000):R 113 [v] st (oH 1 5 v (ai s) st):=by
 refine bN ?_;rw[ahB];exact De 1 h (by omega) (re s) (by simp;omega)
theorem afE {st:St}{X:List Nat}{v:CV}{L:List CV}(h:Sl st X v 1 L)(ho:aV L=true)(hs:L.length<=1000000000):R 64 [v] st (oH 1 4 v L st):=by
 refine bN ?_;rw[w64];exact De 1 h (by omega) ho (by omega)
theorem vx {st:St}{X:List Nat}{v:CV}{L:List CV}(h:Sl st X v 4 L)(ho:aV L=true)(hs:L.length<=1000000000):R 50 [v] st (oH 4 109 v L st):=by
 refine bN ?_;rw[w50];exact De 48 h (by omega) ho (by omega)
theorem zp {st:St}{X:List Nat}{v:CV}{L:List CV}(h:Sl st X v 1 L)(ho:aV L=true)(hs:L.length<=1000000000):R 106 [v] st (oH 1 3 v L st):=by
 refine bN ?_;rw[ahI];exact De 8 h (by omega) ho (by omega)
abbrev jl:=List UInt8
abbrev qD:=Nat×jl
structure aT where
 ay:List jl
 waits:List qD
 done:Int
 dead:Bool
 set:Bool
 left:Int
 keep:List Bool
def EH:List qD->Int->Option Nat
 |[],_=>none
 |w::r,i=>if i=w.1 then some r.length else EH r i
def ny (l:List qD)(i:Int):Option Nat:=EH l.reverse i
theorem yE (i:Int):ny [] i=none:=rfl
theorem wR (l:List qD)(w:qD)(i:Int):ny (l++[w]) i=if i=w.1 then some l.length else ny l i:=by simp[ny,EH]
theorem Na {l:List qD}{i:Int}{k:Nat}(h:EH l i=some k):k<l.length:=by
 induction l with
 |nil=>cases h
 |cons w r ih=>
  simp only[EH]at h
  split at h
  ·cases h;simp
  ·have:=ih h;simp;omega
theorem vZ {l:List qD}{i:Int}{k:Nat}(h:ny l i=some k):k<l.length:=by simpa using Na h
def aT.cur (D:aT)(i:Nat):jl:=match ny D.waits i with|some k=>(D.waits.getD k (0,[])).2|none=>D.ay.getD i []
def gX (kept:Nat->Bool):Nat->List jl->List qD->List jl
 |_,L,[]=>L
 |i,L,w::r=>gX kept (i+1) (if kept i=true then L.set w.1 w.2 else L) r
theorem qT (kept:Nat->Bool)(i:Nat)(L:List jl)(W:List qD):(gX kept i L W).length=L.length:=by
 induction W generalizing i L with
 |nil=>rfl
 |cons w r ih=>simp only[gX];rw[ih];split<;>simp
def aT.settle (D:aT)(kept:Nat->Bool):aT:={D with ay:=gX kept 0 D.ay D.waits,waits:=[]}
def yH (l:List Bool)(i:Nat):Bool:=l.getD i false
def aT.Jy (D:aT)(keep:List Bool):aT:={D.settle (yH keep)with dead:=true}
def aT.tick (D:aT):aT:={D with left:=IntKind.i64.wrap (D.left-1),done:=IntKind.i64.wrap (D.done+1)}
def aT.out (D:aT):Prop:=D.set=true/\D.left=0
instance (D:aT):Decidable D.out:=by unfold aT.out;infer_instance
def aT.write (D:aT)(i:Int)(b:jl):Int×aT:=
 if D.dead=true then (20,D)else if i<0\/(D.ay.length:Int)<=i\/b.length≠512 then (1,D)
 else if D.out then (20,{D with waits:=D.waits++[(i.toNat,b)]}.Jy D.keep)else (0,{D with waits:=D.waits++[(i.toNat,b)]}.tick)
def aT.flush (D:aT):Int×aT:=if D.dead=true then (20,D)else if D.out then (20,D.Jy D.keep)else (0,(D.tick).settle fun _=>true)
def aT.read (D:aT)(i:Int):Int×jl:=if D.dead=true then (20,[])else if i<0\/(D.ay.length:Int)<=i then (1,[])else (0,D.cur i.toNat)
def pK (l:List jl):List CV:=(l.map ai).flatten
def tJ (w:qD):List CV:=I w.1::ai w.2
def gQ (l:List qD):List CV:=(l.map tJ).flatten
structure gG (st:St)(a:Nat)(F:List Nat)(D:aT)(vl vw vk:CV)(bl bm:Nat)(Fw Fk:List Nat):Prop where
 eq:F=a::bl::bm::(Fw++Fk)
 nd:F.Nodup
 lt:∀b∈F,b<st.next
 main:st.mem.get a=some (.cells [vl,vw, .map bm,I D.done, .bool D.dead, .bool D.set,I D.left,vk] 137 false)
 ay:Row st vl 512 D.ay.length (pK D.ay) bl
 waits:Own st vw 513 195 (gQ D.waits) Fw
 now:∃m,da st bm m/\∀i,iS m i=(ny D.waits i).map fun k:Nat=>I (Int.ofNat k)
 keep:Own st vk 1 4 (D.keep.map .bool) Fk
 zW:∀s∈D.ay,s.length=512
 xi:∀w∈D.waits,w.2.length=512/\w.1<D.ay.length
 size:D.ay.length<=65536
def du (st:St)(a:Nat)(F:List Nat)(D:aT):Prop:=∃vl vw vk bl bm Fw Fk,gG st a F D vl vw vk bl bm Fw Fk
theorem BU {l:List jl}(h:∀s∈l,s.length=512):∀x∈l.map ai,x.length=512:=by
 intro x hx;obtain⟨s,hs,rfl⟩:=aBd.1 hx;simpa using h s hs
theorem qM {l:List qD}{n:Nat}(h:∀w∈l,w.2.length=512/\w.1<n):∀x∈l.map tJ,x.length=513:=by
 intro x hx;obtain⟨s,hs,rfl⟩:=aBd.1 hx;simpa[tJ]using (h s hs).1
section
variable {st st':St} {a:Nat} {F:List Nat} {D D':aT} {vl vw vk:CV} {bl bm:Nat} {Fw Fk:List Nat}
theorem gG.mono (h:gG st a F D vl vw vk bl bm Fw Fk)(hn:st.next<=st'.next)(hk:∀b∈F,st'.mem.get b=st.mem.get b):gG st' a F D vl vw vk bl bm Fw Fk:=by
 have hF:∀b,b=a\/b=bl\/b=bm\/b∈Fw\/b∈Fk->st'.mem.get b=st.mem.get b:=fun b hb=>hk b (by rw[h.eq];simpa using hb);obtain⟨m,h1,h2⟩:=h.now
 exact⟨h.eq,h.nd,fun b hb=>aAZ (h.lt b hb) hn,by rw[hF a (.inl rfl)];exact h.main,h.ay.mono (hF bl (.inr (.inl rfl))),h.waits.mono fun b hb=>hF b (.inr (.inr (.inr (.inl hb)))),
  ⟨m,h1.mono (hF bm (.inr (.inr (.inl rfl)))),h2⟩,h.keep.mono fun b hb=>hF b (.inr (.inr (.inr (.inr hb)))),h.zW,h.xi,h.size⟩
theorem du.keep {X:List Nat}(h:du st a F D)(hk:Kp X st st')(hx:∀b∈F,b∉X):du st' a F D:=by
 obtain⟨vl,vw,vk,bl,bm,Fw,Fk,h⟩:=h;exact⟨vl,vw,vk,bl,bm,Fw,Fk,h.mono hk.next fun b hb=>hk.keep b (h.lt b hb) (hx b hb)⟩
theorem du.lt (h:du st a F D):∀b∈F,b<st.next:=by obtain⟨vl,vw,vk,bl,bm,Fw,Fk,h⟩:=h;exact h.lt
theorem gG.mem (h:gG st a F D vl vw vk bl bm Fw Fk):a∈F:=by rw[h.eq];simp
theorem gG.apart (h:gG st a F D vl vw vk bl bm Fw Fk):(a≠bl/\a≠bm/\a∉Fw/\a∉Fk)/\(bl≠bm/\bl∉Fw/\bl∉Fk)/\(bm∉Fw/\bm∉Fk)/\Fw.Nodup/\Fk.Nodup/\∀b∈Fw,b∉Fk:=by
 have nd:=h.nd;rw[h.eq]at nd;simp only[aAQ,aAD,aAM,aBY,aBy]at nd;obtain⟨⟨n1,n2,n3,n4⟩,⟨n5,n6,n7⟩,⟨n8,n9⟩,M5,M4,M3⟩:=nd;exact⟨⟨n1,n2,n3,n4⟩,⟨n5,n6,n7⟩,⟨n8,n9⟩,M5,M4,fun b h1 h2=>M3 b h1 b h2 rfl⟩
theorem gG.ZK (h:gG st a F D vl vw vk bl bm Fw Fk)(e1:D'.ay=D.ay)(e2:D'.waits=D.waits)(e3:D'.keep=D.keep)
 (hn:st.next<=st'.next) (hm:st'.mem.get a=some (.cells [vl,vw, .map bm,I D'.done, .bool D'.dead, .bool D'.set,I D'.left,vk] 137 false)) (hk:∀b∈F,b≠a->st'.mem.get b=st.mem.get b):gG st' a F D' vl vw vk bl bm Fw Fk:=by
 obtain⟨⟨n1,n2,n3,n4⟩,_⟩:=h.apart;have hF:∀b,b=bl\/b=bm\/b∈Fw\/b∈Fk->b∈F:=fun b hb=>by rw[h.eq];simp only[aAD,aAM];exact .inr hb
 have kp:∀b,b=bl\/b=bm\/b∈Fw\/b∈Fk->st'.mem.get b=st.mem.get b:=fun b hb=>hk b (hF b hb) (by
  intro e;subst e;rcases hb with e|e|e|e
  ·exact n1 e
  ·exact n2 e
  ·exact n3 e
  ·exact n4 e)
 obtain⟨m,h1,h2⟩:=h.now
 exact⟨h.eq,h.nd,fun b hb=>aAZ (h.lt b hb) hn,hm,by rw[e1];exact h.ay.mono (kp bl (.inl rfl)),by rw[e2];exact h.waits.mono fun b hb=>kp b (.inr (.inr (.inl hb))),
  ⟨m,h1.mono (kp bm (.inr (.inl rfl))),by rw[e2];exact h2⟩,by rw[e3];exact h.keep.mono fun b hb=>kp b (.inr (.inr (.inr hb))),
  by rw[e1];exact h.zW,by rw[e1,e2];exact h.xi,by rw[e1];exact h.size⟩
theorem zz (h:du st a F D):R 63 [.ptr a 0] st fun v st'=>v=I (if D.dead=true then 20 else 0)/\st'=st:=by
 obtain⟨vl,vw,vk,bl,bm,Fw,Fk,h⟩:=h;refine bN ?_;rw[w63];simp[fm,h.main]
theorem tX (h:du st a F D):R 18 [.ptr a 0] st fun v st'=>v=I D.ay.length/\st'=st:=by
 obtain⟨vl,vw,vk,bl,bm,Fw,Fk,h⟩:=h;obtain⟨t,g,gr,hv,h1,h2,h3⟩:=h.ay;refine bN ?_;rw[w18];subst hv;simp[fm,h.main]
theorem Sj (h:du st a F D):R 20 [.ptr a 0] st fun v st'=>v= .bool D.dead/\st'=st:=by
 obtain⟨vl,vw,vk,bl,bm,Fw,Fk,h⟩:=h;refine bN ?_;rw[w20];simp[j0,h.main]
theorem FK (h:gG st a F D vl vw vk bl bm Fw Fk):
 R 134 [.ptr a 0] st fun v st'=>if D.out then v= .bool true/\st'=st else v= .bool false/\Kp F st st'/\st'.next=st.next/\gG st' a F D.tick vl vw vk bl bm Fw Fk:=by
 refine bN ?_;rw[ahm]
 by_cases h1:D.set=true<;>by_cases h2:D.left=0<;>
  simp[fm,zj,ru,zT,lz,h.main,bp,dN,cF,uU,mK,Df,iR,andThen,ig,h1,h2,aT.out]
 all_goals exact⟨(Kp.refl F st).set _ (.inl h.mem) (h.lt a h.mem),h.ZK rfl rfl rfl (aAE _) (by simp[h1,h2,aT.tick]) fun b hb gL=>al _ _ _ _ gL⟩
end
section
variable {st st':St} {a:Nat} {F:List Nat} {D D':aT} {vl vw vk:CV} {bl bm:Nat} {Fw Fk:List Nat}
theorem xG {α:Type}{l:List α}{i:Nat}(h:i<l.length)(d:α):l.getD i d=l[i]:=by simp[List.getD,h]
theorem Sk (h:gG st a F D vl vw vk bl bm Fw Fk){i:Nat}(hi:i<D.ay.length):(D.cur i).length=512:=by
 unfold aT.cur;cases hx:ny D.waits i with
 |none=>
  show(D.ay.getD i []).length=_;rw[xG hi];exact h.zW _ (aAW ..)
 |some k=>
  have:=vZ hx;show((D.waits.getD k (0,[])).2).length=_;rw[xG this];exact(h.xi _ (aAW ..)).1
theorem bB (s:jl):aV (ai s)=true:=re s
theorem dY (l t:List CV)(h:t.length=l.length):bp l 0 t=t:=by
 unfold bp;rw[aCr,aBf,aBj (by omega),aBz]
theorem Row.yB {v:CV}{k n b:Nat}{L:List (List CV)}(h:Row st v k n L.flatten b)(hw:∀x∈L,x.length=k)(hL:L.length=n){i:Nat}(hi:i<n)(Q:CV->Prop)(hq:Q (.agg L[i])):Lim.iT k k v (I i) st Q:=by
 obtain⟨t,g,gr,rfl,h1,h2,h3⟩:=h;unfold Lim.iT;rw[gf hi (.inr (aAE _))];simp only[af,oN,h3,aq,rf,aAF];rw[ry hw i (by omega)]
 exact⟨by rw[h2];calc i*k+k=(i+1)*k:=by rw[aBI,aCH]
  _<=n*k:=aBu k hi,hq⟩
theorem Own.row {v:CV}{k e:Nat}{L:List CV}{F:List Nat}(h:Own st v k e L F)(hL:0<L.length):∃b n,F=[b]/\Row st v k n L b/\v= .slice b 0 n n k/\L.length=n*k/\st.mem.get b=some (.cells L e true):=by
 rcases h with⟨rfl,rfl,rfl⟩|⟨b,l,t,g,rfl,rfl,rfl,h4⟩|⟨b,m,rfl,h2,h3,rfl,h5⟩
 ·simp at hL
 ·simp at hL
 ·exact⟨b,m,rfl,⟨e,true,k,rfl, .inr rfl,h3,h5⟩,rfl,h3,h5⟩
theorem rS (h:gG st a F D vl vw vk bl bm Fw Fk)(hw:0<D.waits.length):∃b,Fw=[b]/\vw= .slice b 0 D.waits.length D.waits.length 513/\st.mem.get b=some (.cells (gQ D.waits) 195 true):=by
 have hl:(gQ D.waits).length=D.waits.length*513:=by
  unfold gQ;rw[fw (qM h.xi)];simp
 obtain⟨b,n,h1,h2,h3,h4,h5⟩:=h.waits.row (by omega);have:n=D.waits.length:=by omega
 subst this;exact⟨b,h1,h3,h5⟩
def Got (s:jl)(st:St)(v:CV)(st':St):Prop:=Kp [] st st'/\s.length=512/\∃b,v= .tuple [.slice b 0 512 512 1,I 0]/\st'.mem.get b=some (.cells (ai s) 5 true)/\st.next<=b/\b<st'.next
theorem xz (h:du st a F D)(i:Int):R 67 [.ptr a 0,I i] st fun v st'=>if (D.read i).1=0 then Got (D.read i).2 st v st' else v= .tuple [.ae,I (D.read i).1]/\st'=st:=by
 have h0:=h;obtain⟨vl,vw,vk,bl,bm,Fw,Fk,h⟩:=h;refine bN ?_;rw[w67];refine(zz h0).mono ?_;rintro _ _ ⟨rfl,rfl⟩;rename_i s1;unfold aT.read
 by_cases hd:D.dead=true
 ·simp[hd,Kp.refl]
 ·obtain⟨t,g,gr,hv,h1,h2,h3⟩:=h.ay;have hlen:∀s:St,bh .slice vl s= .ok (I D.ay.length) s:=by intro s;subst hv;rfl
  by_cases TF:i<0
  ·simp[hd,TF,j0,h.main,Kp.refl]
  ·by_cases E9:(D.ay.length:Int)<=i
   ·simp[hd,TF,E9,j0,h.main,Kp.refl,hlen]
   ·obtain⟨n,rfl⟩:∃n:Nat,i=n:=⟨i.toNat,by omega⟩;have hn:n<D.ay.length:=by omega
    have jg:=h.ay;have sY:bl<s1.next:=h.lt bl (by rw[h.eq];simp);have ha:a<s1.next:=h.lt a h.mem;have Y9:bm<s1.next:=h.lt bm (by rw[h.eq];simp);have qx:=Sk h hn;obtain⟨m,EW,PF⟩:=h.now
    have fin:∀tL:St,Kp [] s1 tL->s1.next<tL.next->tL.mem.get s1.next=some (.cells (ai (D.cur n)) 142 false)->
     us (bR 512 1 (.ptr s1.next 0) none none tL) fun ef=>R 113 [ef] tL fun dI s5=>Got (D.cur n) s1 (.tuple [dI,I 0]) s5:=by
     intro tL hk hb hg;have e:bR 512 1 (.ptr s1.next 0) none none tL= .ok (.slice s1.next 0 512 512 0) tL:=rfl;rw[e,af];have kL:Sl tL [] (.slice s1.next 0 512 512 0) 1 (ai (D.cur n)):= .inr ⟨s1.next,0,512,512,0,rfl,by simp[qx],⟨aAE _, .inl rfl⟩, .inr ⟨by simp,hb,_,142,false,hg,by simp[qx],by rw[aBg,aAK (by simp[qx])]⟩⟩;refine(vy kL (by omega)).mono ?_;rintro x st3 ⟨F',k1,k2,k3,k4⟩;refine⟨hk.trans k1 (by simp),qx, ?_⟩;obtain⟨b,n',q1,q2,q3,q4,q5⟩:=k2.row (by simp[qx]);have:n'=512:=by simp[qx]at q4;omega
     subst this;exact⟨b,by rw[q3],q5,aBS hk.next (k3 b (by simp[q1])).1,(k3 b (by simp[q1])).2⟩
    simp[hd,TF,j0,fm,h.main,hlen,Int.not_le.mpr (show(n:Int)<D.ay.length by omega)];refine jg.yB (L:=D.ay.map ai) (BU h.zW) (by simp) hn _ ?_;have hma:(St.new s1 (.cells (zr 512) 142 false)).mem.get a=_:=(aZ _ _ _ ha).trans h.main;have we:(ai (D.ay[n])).length=512:=by simpa using h.zW _ (aAW ..)
    have ha':a≠s1.next:=by omega
    have zO:(St.set (St.new s1 (.cells (zr 512) 142 false)) s1.next (.cells (bp (zr 512) 0 (ai D.ay[n])) 142 false)).mem.get bm=s1.mem.get bm:=by rw[al _ _ _ _ (by omega),aZ _ _ _ Y9]
    have yX:=(IsMap.lookup (.inl EW) (.int .i64 0) true n _ zO);rw[aAI rfl,PF]at yX;simp[aX,we,bB,al _ _ _ _ ha',hma,yX];have hkA:∀blk,Kp [] s1 (St.set (St.new s1 (.cells (zr 512) 142 false)) s1.next blk):=fun blk=>((Kp.refl [] s1).new _).set blk (.inr (aAE _)) (by simp);have hz:(zr 512).length=512:=aBt;cases hx:ny D.waits n with
    |none=>
     simp;refine fin _ (hkA _) (by simp) ?_;rw[ao,dY _ _ (by rw[we,hz])];have e:D.cur n=D.ay[n]:=by unfold aT.cur;rw[hx];exact xG hn _
     rw[e]
    |some k=>
     have hk:=vZ hx;obtain⟨bw,Nm,I3,Px⟩:=rS h (by omega);have hbw:bw<s1.next:=h.lt bw (by rw[h.eq,Nm];simp);have YN:(ai (D.waits[k]).2).length=512:=by simpa using (h.xi _ (aAW ..)).1
     have sW:(((gQ D.waits).drop (k*513+1)).take 512)=ai (D.waits[k]).2:=by
      unfold gQ;rw[OA (qM h.xi) k (by simpa using hk) 1 512 (by omega)];simp only[List.getElem_map,tJ,List.drop_succ_cons,aBg];rw[aAK (by omega)]
     have hwL:k*513+1+512<=(gQ D.waits).length:=by
      unfold gQ;rw[fw (qM h.xi)];simp;omega
     simp[Tk,I3,gf hk (.inr (aAE _)),al _ _ _ _ (show bw≠s1.next by omega),aZ _ _ _ hbw,Px,sW,hwL,YN,bB];refine⟨by omega,fin _ (hkA _) (by simp) ?_⟩;rw[ao,dY _ _ (by rw[l7 _ _ _ (by omega),YN,hz])];have e:D.cur n=(D.waits[k]).2:=by unfold aT.cur;rw[hx];exact congrArg Prod.snd (xG hk _)
     rw[e]
end
section
variable {st st':St} {a:Nat} {F:List Nat} {D D':aT} {vl vw vk:CV} {bl bm:Nat} {Fw Fk:List Nat}
def aeg (st:St)(F:List Nat)(f:CV)(n:Nat)(kept:Nat->Bool):Prop:=∀i<n,∀s,Kp F st s->∀Q:CV->St->Prop,Q (.bool (kept i)) s->fB R f [I i] s Q
def Sx (a:Nat)(F:List Nat)(st:St)(D:aT)(v:CV)(st':St):Prop:=v= .undef/\Kp F st st'/\∃F',du st' a F' D/\(∀b∈F',b∈F\/st.next<=b)
theorem AK {f:CV}{kept:Nat->Bool}(h:gG st a F D vl vw vk bl bm Fw Fk)(hw:D.waits.length<=1000000000)(hf:aeg st [a,bl] f D.waits.length kept):R 111 [.ptr a 0,f] st (Sx a F st (D.settle kept)):=by
 refine bN ?_;rw[ahD]
 have YN:∀s:St,bh .slice vw s= .ok (I D.waits.length) s:=by
  intro s
  by_cases h0:0<D.waits.length
  ·obtain⟨b,h1,h2,h3⟩:=rS h h0;subst h2;rfl
  ·have e:gQ D.waits=[]:=by
    have:D.waits=[]:=aBa.1 (by omega);rw[this];rfl
   have e2:D.waits.length=0:=by omega
   rcases h.waits with⟨rfl,_⟩|⟨b,l,t,g,rfl,_⟩|⟨b,n,rfl,h2,h3,_⟩
   ·rw[e2];rfl
   ·rw[e2];rfl
   ·rw[e]at h3;simp at h3;omega
 simp[fm,h.main,YN];refine bK (fun n vs s=>∃i L,i+n=D.waits.length/\vs=[.ptr a 0,f,vw,I D.waits.length,I i]/\Kp [a,bl] st s/\gG s a F {D with ay:=L} vl vw vk bl bm Fw Fk/\L.length=D.ay.length/\gX kept i L (D.waits.drop i)=(D.settle kept).ay) ?_ (n:=D.waits.length) ⟨0,D.ay,by simp,rfl,Kp.refl _ _,h,rfl,by simp[aT.settle]⟩;rintro n vs s k ⟨i,L,hi,rfl,hk,hd,hL,hs⟩ next;obtain⟨⟨n1,n2,n3,n4⟩,⟨n5,n6,n7⟩,⟨n8,n9⟩,M5,M4,M3⟩:=hd.apart
 have kW:∀b,b=a\/b=bl\/b=bm\/b∈Fw\/b∈Fk->b∈F/\b<s.next:=fun b hb=>by
  have:b∈F:=by rw[h.eq];simpa using hb
  exact⟨this,hd.lt b this⟩
 by_cases hc:i<D.waits.length
 ·have fv:(i:Int)<D.waits.length:=by omega
  obtain⟨bw,Nm,I3,Px⟩:=rS hd (by simpa using Nat.lt_of_le_of_lt (aDp _) hc);simp at I3 Px;have hbw:=kW bw (by simp[Nm]);have hWw:=qM hd.xi
  have jg:((gQ D.waits).drop (i*513)).take 513=tJ D.waits[i]:=by
   unfold gQ;rw[ry hWw i (by simpa using hc)];simp
  have NJ:i*513+513<=(gQ D.waits).length:=by unfold gQ;rw[fw hWw];simp;omega
  have hwi:=hd.xi _ (aAW (l:=D.waits) hc);have uq:(tJ D.waits[i]).length=513:=by simp[tJ,hwi.1]
  have jh:aV (tJ D.waits[i])=true:=by simp[tJ,bB]
  have hz:([CV.int .i64 0]++zr 512).length=513:=by simp
  have wr:IntKind.i64.wrap ((i:Int)+1)=((i+1:Nat):Int):=by rw[bz (by omega)];omega
  simp[fv,iT,I3,gf hc (.inr (aAE _)),Px,jg,NJ,uq,jh];rw[dY _ _ (by rw[uq];simp)];refine⟨by omega,hf i hc _ ((hk.new _).set _ (.inr hk.next) (by simp)) _ ?_⟩;have hma:=hd.main;have ha:=kW a (.inl rfl);have sY:=kW bl (.inr (.inl rfl));obtain⟨t,g,gr,hv,e1,e2,e3⟩:=hd.ay;simp at hv;have aaS:(D.waits[i]).1<L.length:=hwi.2;have Gq:Kp [a,bl] st (St.set (St.new s (.cells (CV.int .i64 0::zr 512) 195 false)) s.next (.cells (tJ D.waits[i]) 195 false)):=(hk.new _).set _ (.inr hk.next) (by simp)
  have Gt:gG (St.set (St.new s (.cells (CV.int .i64 0::zr 512) 195 false)) s.next (.cells (tJ D.waits[i]) 195 false)) a F {D with ay:=L} vl vw vk bl bm Fw Fk:=hd.mono (by simp) fun b hb=>by
   have:=hd.lt b hb;rw[al _ _ _ _ (by omega),aZ _ _ _ this]
  have alQ:=(show bl∈F/\bl<_ from⟨sY.1,Gt.lt bl sY.1⟩);have NR:D.waits.drop i=D.waits[i]::D.waits.drop (i+1):=aAS hc;rw[NR]at hs;simp only[gX]at hs;cases Ap:kept i with
  |false=>
   rw[Ap]at hs;simp[wr];exact next (n-1) _ _ (by omega) ⟨i+1,L,by omega,by simp[I3],Gq,Gt,hL,by simpa using hs⟩
  |true=>
   rw[Ap]at hs;have Jm:(ai (D.waits[i]).2).length=512:=by simpa using hwi.1
   have hLw:=BU (l:=L) hd.zW;have TC:(D.waits[i]).1*512+512<=(pK L).length:=by unfold pK;rw[fw hLw];simp;omega
   have hw0:∀h:0<(tJ (D.waits[i]'hc)).length,(tJ (D.waits[i]'hc))[0]'h=I (D.waits[i]'hc).1:=fun _=>rfl
   have V2:List.take 512 (tJ D.waits[i]).tail=ai (D.waits[i]).2:=by
    show List.take 512 (ai (D.waits[i]).2)=_;rw[aAK (by omega)]
   have PF:=Gt.main;have Dv:=Gt.ay;obtain⟨t',g',gr',Ds,e1',e2',e3'⟩:=Dv;simp only at e3';simp[PF,hw0,uq,V2,hv,gf aaS (.inr (aAE _)),e3',TC,Jm,bB,wr];refine next (n-1) _ _ (by omega) ⟨i+1,L.set (D.waits[i]).1 (D.waits[i]).2,by omega,by simp[I3],Gq.set _ (.inl (by simp)) alQ.2, ?_,by simpa using hL,by simpa using hs⟩
   have vi:bp (pK L) ((D.waits[i]).1*512) (ai (D.waits[i]).2)=pK (L.set (D.waits[i]).1 (D.waits[i]).2):=by
    unfold pK;rw[wi hLw _ (by simpa using aaS) _ Jm,List.map_set]
   rw[vi];obtain⟨m,EW,akF⟩:=Gt.now;refine⟨Gt.eq,Gt.nd,Gt.lt, ?_,⟨t',g',gr',by simpa using Ds,e1', ?_,by simp⟩,Gt.waits.mono fun b hb=>al _ _ _ _ fun e=>n6 (e▸hb),⟨m,EW.mono (al _ _ _ _ (aBE n5)),akF⟩,Gt.keep.mono fun b hb=>al _ _ _ _ fun e=>n7 (e▸hb), ?_, ?_, ?_⟩
   ·rw[al _ _ _ _ n1];exact Gt.main
   ·have:∀x∈L.set (D.waits[i]).1 (D.waits[i]).2,x.length=512:=fun x hx=>by
     rcases aCz hx with hx|rfl
     ·exact hd.zW x hx
     ·exact hwi.1
    unfold pK;rw[fw (BU this)];simp
   ·intro x hx;rcases aCz hx with hx|rfl
    ·exact hd.zW x hx
    ·exact hwi.1
   ·intro w hw;simpa using hd.xi w hw
   ·simpa using hd.size
 ·have fv:¬(i:Int)<D.waits.length:=by omega
  have ha:=kW a (.inl rfl);have hma:(St.new s (.map [] 0)).mem.get a=_:=(aZ _ _ _ ha.2).trans hd.main;simp[fv,lz,hma,bp];have wY:i=D.waits.length:=by omega
  rw[wY,List.drop_length]at hs;simp only[gX]at hs;have hkF:Kp F st (St.set (St.new s (.map [] 0)) a (.cells [vl, .ae, .map s.next,I D.done, .bool D.dead, .bool D.set,I D.left,vk] 137 false)):=((hk.mono (by simp only[aAD,aBo,aCg];rintro q (rfl|rfl);exact .inl ha.1;exact .inl (kW _ (by simp)).1)).new _).set _ (.inl ha.1) (by have:=ha.2;simp;omega);refine⟨rfl,hkF,a::bl::s.next::([]++Fk),⟨vl, .ae,vk,bl,s.next,[],Fk,rfl, ?_, ?_,by simp[aT.settle], ?_, .inl ⟨rfl,rfl,rfl⟩,⟨[], ?_,fun i=>rfl⟩, ?_, ?_,by simp[aT.settle], ?_⟩, ?_⟩
  ·have hF:∀b∈Fk,b≠s.next:=fun b hb=>Nat.ne_of_lt (kW b (by simp[hb])).2;simp only[aAQ,aAD,aBf,aBY];exact⟨⟨n1,Nat.ne_of_lt ha.2,n4⟩,⟨Nat.ne_of_lt (kW bl (by simp)).2,n7⟩,fun h=>hF _ h rfl,M4⟩
  ·intro b hb;simp only[aAD,aBf]at hb;simp;rcases hb with rfl|rfl|rfl|hb
   ·omega
   ·have:=(kW b (by simp)).2;omega
   ·omega
   ·have:=(kW b (by simp[hb])).2;omega
  ·have:=hd.ay;have tr:L=gX kept 0 D.ay D.waits:=hs;simp only[aT.settle,<-tr];exact this.mono ((al _ _ _ _ (aBE n1)).trans (aZ _ _ _ (kW bl (by simp)).2))
  ·refine(da.new s).mono ?_;exact al _ _ _ _ (by omega)
  ·refine hd.keep.mono fun b hb=> ?_;exact(al _ _ _ _ (fun e:b=a=>n4 (e▸hb))).trans (aZ _ _ _ (kW b (by simp[hb])).2)
  ·simp only[aT.settle]at hs⊢;rw[<-hs];exact hd.zW
  ·simp only[aT.settle,qT];exact h.size
  ·intro b hb;simp only[aAD,aBf]at hb;rcases hb with rfl|rfl|rfl|hb
   ·exact .inl ha.1
   ·exact .inl (kW b (by simp)).1
   ·exact .inr hk.next
   ·exact .inl (kW b (by simp[hb])).1
end
section
variable {st st':St} {a:Nat} {F:List Nat} {D D':aT} {vl vw vk:CV} {bl bm:Nat} {Fw Fk:List Nat}
abbrev O3 (l:List Bool):List CV:=l.map .bool
theorem Sl.bG {X:List Nat}{v:CV}{k:Nat}{L:List CV}(h:Sl st X v k L):v.isAny=false/\cr v=true/\v.cD=[v]:=by
 rcases h with⟨rfl,_⟩|⟨b,off,len,cap,grow,rfl,_⟩<;>exact⟨rfl,rfl,rfl⟩
theorem Rc {v:CV}{keep:List Bool}{b:Nat}(h:Sl st [] v 1 (O3 keep))(hb:st.mem.get b=some (.cells [v] 53 false))(i:Nat){Q:CV->St->Prop}(hq:Q (.bool (yH keep i)) st):R 112 [I i, .ptr b 0] st Q:=by
 refine bN ?_;rw[ahC];have hl:=h.len keep.length (by simp) (by omega) st;simp only[aA,hb,aq,aAy,av,hl,af]
 by_cases hi:i<keep.length
 ·simp[hi,hb];have:yN (some true) 1 v (I i) st=Lim.idx 1 v (I i) st:=rfl;rw[this];refine h.idx (by simpa using hi) _ ?_
  simpa[yH,List.getD,hi]using hq
 ·simp[hi,hb,yN,cQ]
  simpa[yH,List.getD,aBs (show keep.length<=i by omega)]using hq
def rK (a:Nat)(F:List Nat)(st:St)(D:aT)(st':St):Prop:=Kp F st st'/\∃F',du st' a F' D/\(∀b∈F',b∈F\/st.next<=b)
theorem FF (h:gG st a F D vl vw vk bl bm Fw Fk){v:CV}{keep:List Bool}(hw:D.waits.length<=1000000000)(hv:Sl st [a,bl] v 1 (O3 keep)):R 65 [.ptr a 0,v] st fun _ st'=>rK a F st (D.Jy keep) st':=by
 refine bN ?_;rw[w65];obtain⟨q1,q2,q3⟩:=hv.bG;have ha:=h.lt a h.mem;simp[q1];rw[q3];have px:Kp [] st (St.new st (.cells [v] 53 false)):=(Kp.refl [] st).new _;have h1:gG (St.new st (.cells [v] 53 false)) a F D vl vw vk bl bm Fw Fk:=h.mono px.next fun b hb=>aZ _ _ _ (h.lt b hb);refine(AK h1 hw (kept:=yH keep) ?_).mono ?_
 ·intro i hi s hs Q hq;rw[dP];refine Rc (v:=v) (keep:=keep) ?_ (b:=st.next) ?_ i hq
  ·exact((hv.mono (px.mono (by simp))).mono hs).dM (by simp)
  ·rw[hs.keep _ (by simp) (by simp;exact⟨by omega,by have:=h.lt bl (by rw[h.eq];simp);omega⟩)];simp
 ·rintro _ s ⟨rfl,h2,F',h3,h4⟩;obtain⟨vl,vw,vk,bl,bm,Fw,Fk,h3⟩:=h3;have h4':∀b∈F',b∈F\/st.next<=b:=fun b hb=>(h4 b hb).imp id fun h=>aBS px.next h;simp[lz,h3.main,bp];refine⟨((px.mono (G:=F) (by simp)).trans h2 fun q hq=> .inl hq).set _ (.inl h.mem) (h3.lt a h3.mem),F',⟨vl,vw,vk,bl,bm,Fw,Fk,h3.ZK rfl rfl rfl (aAE _) ?_ fun b hb gL=>al _ _ _ _ gL⟩,h4'⟩;simp[aT.Jy,aT.settle]
theorem IX (h:gG st a F D vl vw vk bl bm Fw Fk):Sl st [a,bl] vk 1 (O3 D.keep):=h.keep.sl fun b hb=>by
 obtain⟨⟨n1,n2,n3,n4⟩,⟨n5,n6,n7⟩,_⟩:=h.apart;refine⟨?_,h.lt b (by rw[h.eq];simp[hb])⟩;simp only[aAD,aBo,aCg,aBY];exact⟨fun e=>n4 (e▸hb),fun e=>n7 (e▸hb)⟩
theorem vn (h:du st a F D)(hw:D.waits.length<=1000000000):R 88 [.ptr a 0] st fun x st'=>x=I D.flush.1/\rK a F st D.flush.2 st':=by
 have h0:=h;obtain⟨vl,vw,vk,bl,bm,Fw,Fk,h⟩:=h;refine bN ?_;rw[w88];refine(zz h0).mono ?_;rintro _ _ ⟨rfl,rfl⟩;rename_i s1;unfold aT.flush
 by_cases hd:D.dead=true
 ·simp[hd];exact⟨Kp.refl _ _,F,h0,fun b hb=> .inl hb⟩
 ·simp[hd];refine(FK h).mono ?_;intro v s2 hb
  by_cases ho:D.out
  ·rw[aAI ho]at hb;obtain⟨rfl,rfl⟩:=hb;simp[ho,fm,h.main];exact FF h hw (IX h)
  ·rw[aAH ho]at hb;obtain⟨rfl,hk,hn,h2⟩:=hb;simp[ho];refine(AK h2 (kept:=fun _=>true) hw ?_).mono ?_
   ·intro i hi s hs Q hq;rw[dP];refine bN ?_;simp only[aBf,aBz];rw[ahk];exact hq
   ·rintro _ s ⟨rfl,h3,F',h4,h5⟩;exact⟨hk.trans h3 fun q hq=> .inl hq,F',h4,fun b hb=>(h5 b hb).imp id fun h=>by omega⟩
end
section
variable {st st':St} {a:Nat} {F:List Nat} {D D':aT} {vl vw vk:CV} {bl bm:Nat} {Fw Fk:List Nat}
theorem uA (h:du st a F D){i:Int}{v:CV}{s:jl}(iE:cY st)(hw:D.waits.length<100000000)(hv:Sl st F v 1 (ai s))(hs:s.length=512):R 86 [.ptr a 0,I i,v] st fun x st'=>x=I (D.write i s).1/\rK a F st (D.write i s).2 st':=by
 have h0:=h;obtain⟨vl,vw,vk,bl,bm,Fw,Fk,h⟩:=h;refine bN ?_;rw[w86];refine(zz h0).mono ?_;rintro _ _ ⟨rfl,rfl⟩;rename_i s1;unfold aT.write;have wW:rK a F s1 D s1:=⟨Kp.refl _ _,F,h0,fun b hb=> .inl hb⟩
 by_cases hd:D.dead=true
 ·simp[hd,wW]
 ·obtain⟨t,g,gr,hvl,h1,h2,h3⟩:=h.ay;have hlen:∀s:St,bh .slice vl s= .ok (I D.ay.length) s:=by intro s;subst hvl;rfl
  by_cases TF:i<0
  ·simp[hd,TF,wW,j0]
  ·by_cases E9:(D.ay.length:Int)<=i
   ·simp[hd,TF,E9,j0,h.main,hlen,wW]
   ·obtain⟨n,rfl⟩:∃n:Nat,i=n:=⟨i.toNat,by omega⟩;have hn:n<D.ay.length:=by omega
    obtain⟨bv,off,cap,grow,hvs⟩:∃bv off cap grow,v= .slice bv off 512 cap grow:=by
     rcases hv with⟨_,h⟩|⟨b,off,len,cap,grow,rfl,h2,_⟩
     ·have:=congrArg List.length h;simp[hs]at this
     ·have:len=512:=by simp[hs]at h2;omega
      subst this;exact⟨b,off,cap,grow,rfl⟩
    obtain⟨hvX,ajz,l,tv,gv,hvb,Tl,I4⟩:bv∉F/\bv<s1.next/\∃l t g,s1.mem.get bv=some (.cells l t g)/\off+512<=l.length/\(l.drop off).take 512=ai s:=by
     rcases hv with⟨h,_⟩|⟨b,off,len,cap,grow,h,h2,h3,h4⟩
     ·rw[hvs]at h;cases h
     ·rw[hvs]at h;cases h;rcases h4 with h4|h4
      ·cases h4
      ·exact h4
    obtain⟨m,EW,PF⟩:=h.now
    have NJ:∀s:St,bh .slice vw s= .ok (I D.waits.length) s:=by
     intro s
     by_cases h0:0<D.waits.length
     ·obtain⟨b,h1,h2,h3⟩:=rS h h0;subst h2;rfl
     ·have e:gQ D.waits=[]:=by
       have:D.waits=[]:=aBa.1 (by omega);rw[this];rfl
      have e2:D.waits.length=0:=by omega
      rcases h.waits with⟨rfl,_⟩|⟨b,l,t,g,rfl,_⟩|⟨b,n,rfl,h2,h3,_⟩
      ·rw[e2];rfl
      ·rw[e2];rfl
      ·rw[e]at h3;simp at h3;omega
    obtain⟨blk,YP,V5,Py⟩:=IsMap.update (.inl EW) n (I D.waits.length);have ha:=h.lt a h.mem;have Y9:bm<s1.next:=h.lt bm (by rw[h.eq];simp);obtain⟨⟨n1,n2,n3,n4⟩,⟨n5,n6,n7⟩,⟨n8,n9⟩,M5,M4,M3⟩:=h.apart;have aaW:bv≠bm:=fun e=>hvX (by rw[h.eq,e];simp);have hva:bv≠a:=fun e=>hvX (by rw[e];exact h.mem);have e1:(St.set s1 bm blk).mem.get a=s1.mem.get a:=al _ _ _ _ n2;have e2:(St.set s1 bm blk).mem.get bv=s1.mem.get bv:=al _ _ _ _ aaW
    have acI:grow=0\/1<=cap/\512<=cap:=by
     rcases hv with⟨h,_⟩|⟨b,off,len,cap,grow,h,h2,h3,h4⟩
     ·rw[hvs]at h;cases h
     ·rw[hvs]at h;cases h;omega
    have LK:(ai s).length=512:=by simpa using hs
    have im:(St.skip (St.set s1 bm blk)).mem.get s1.next=none:=by
     rw[DR,al _ _ _ _ (by omega)];exact iE _ (aAE _)
    have yZ:fX [(0,513, .agg (I n::ai s))] (cH 1 (I 0::zr 512))=some (I n::ai s):=by
     simp[cF,cH,bp,LK]
    have mC:bD (I 0::zr 512) [(0,1,I n),(1,512, .agg (ai s))] (St.skip (St.set s1 bm blk))= .ok (.agg (I n::ai s)) (St.skip (St.set s1 bm blk)):=by
     rw[dN];simp[cF,bp,LK]
    have tA:=jb (e:=195) (n:=1) im yZ;simp[hd,TF,j0,fm,h.main,hlen,Int.not_le.mpr (show(n:Int)<D.ay.length by omega),hvs,NJ,YP,e1,e2,hvb,nZ,I4];refine⟨acI,Tl, ?_⟩;rw[mC,af,tA,aS];have ku:Kp (bm::Fw) s1 (St.set (St.skip (St.set s1 bm blk)) s1.next (.cells (I n::ai s) 195 false)):=(((Kp.refl _ s1).set _ (.inl (by simp)) Y9).skip).set _ (.inr (aAE _)) (by simp)
    have Al:cV .slice 513 (I 0::zr 512) (.slice s1.next 0 1 1 0) (St.set (St.skip (St.set s1 bm blk)) s1.next (.cells (I n::ai s) 195 false))=some (1,I n::ai s):=
     Em (ao _ _ _) (by omega) (by simp[hs])
    rw[Al]
    have hW3:Own (St.set (St.skip (St.set s1 bm blk)) s1.next (.cells (I n::ai s) 195 false)) vw 513 195 (gQ D.waits) Fw:=h.waits.mono fun b hb=>by
     have:b<s1.next:=h.lt b (by rw[h.eq];simp[hb]);exact(al _ _ _ _ (by omega)).trans (al _ _ _ _ (fun e:b=bm=>n8 (e▸hb)))
    obtain⟨v',s4,Yq,Oc,Dz,RY,ha4⟩:=hW3.append (n:=1) (bytes:=520) (T:=I n::ai s) (by omega) (by simp[hs]) (by simp[bB]) (fun b hb=>by
     have:b<s1.next:=h.lt b (by rw[h.eq];simp[hb]);simp;omega) (by
     have e:(gQ D.waits).length=D.waits.length*513:=by unfold gQ;rw[fw (qM h.xi)];simp
     rw[e];simp[hs];omega)
    rw[Oc,aS];obtain⟨o1,o2⟩:=Dz.cr;have sv:Kp (bm::Fw) s1 s4:=ku.trans RY fun q hq=> .inl (by simp[hq]);have hm4:s4.mem.get a=_:=(sv.keep a ha (by simp;exact⟨n2,n3⟩)).trans h.main;have Y0:=(ku.keep a ha (by simp;exact⟨n2,n3⟩)).trans h.main;have hb3:=(ku.keep bv ajz (by simp;exact⟨aaW,fun e=>hvX (by rw[h.eq];simp[e])⟩)).trans hvb;simp[hm4,Y0,hb3,o1,o2,Tl,I4,bp];have qI:D.dead=false:=by simpa using hd
    have ed:({ay:=D.ay,waits:=D.waits++[(n,s)],done:=D.done,dead:=false,set:=D.set,left:=D.left,keep:=D.keep}:aT)={D with waits:=D.waits++[(n,s)]}:=by rw[<-qI]
    rw[ed,aAI hs];have hF:∀b,b=a\/b=bl\/b=bm\/b∈Fw\/b∈Fk->b∈F:=fun b hb=>by rw[h.eq];simpa using hb
    have kW:∀b∈Yq,(b∈Fw\/s1.next<=b):=fun b hb=>(ha4 b hb).1.imp id fun h=>by simp at h;omega
    have wb:=h.lt
    have hD1:gG (St.set s4 a (.cells [vl,v', .map bm,I D.done, .bool D.dead, .bool D.set,I D.left,vk] 137 false)) a (a::bl::bm::(Yq++Fk)) {D with waits:=D.waits++[(n,s)]} vl v' vk bl bm Yq Fk:=by
     have gL:∀b∈Fk,b<s1.next:=fun b hb=>wb b (hF b (by simp[hb]));have RD:∀b∈F,b<s4.next:=fun b hb=>aAZ (wb b hb) sv.next;have CH:∀b,b≠a->(St.set s4 a (.cells [vl,v', .map bm,I D.done, .bool D.dead, .bool D.set,I D.left,vk] 137 false)).mem.get b=s4.mem.get b:=fun b hb=>al _ _ _ _ hb;have NN:∀b∈F,b≠bm->b∉Fw->s4.mem.get b=s1.mem.get b:=fun b h1 h2 h3=>sv.keep b (wb b h1) (by simp;exact⟨h2,h3⟩);refine⟨rfl, ?_, ?_,by simp,h.ay.mono ?_, ?_,⟨_,(Py EW).mono ?_, ?_⟩,h.keep.mono ?_,h.zW, ?_,h.size⟩
     ·have hFw:Yq.Nodup:=by rcases Dz with⟨_,_,rfl⟩|⟨_,_,_,_,_,_,rfl,_⟩|⟨_,_,_,_,_,rfl,_⟩<;>simp
      have nin:∀b,b∈F->b∉Fw->b∉Yq:=fun b h1 h2 h3=>by
       rcases kW b h3 with h4|h4
       ·exact h2 h4
       ·have:=wb b h1;omega
      simp only[aAQ,aAD,aAM,aBY,aBy];exact⟨⟨n1,n2,nin a h.mem n3,n4⟩,⟨n5,nin bl (hF _ (by simp)) n6,n7⟩,⟨nin bm (hF _ (by simp)) n8,n9⟩,hFw,M4,fun x hx y hy e=>nin y (hF y (by simp[hy])) (fun h=>M3 y h hy) (e▸hx)⟩
     ·intro b hb;show b<s4.next;simp only[aAD,aAM]at hb;rcases hb with rfl|rfl|rfl|hb|hb
      ·exact RD _ h.mem
      ·exact RD _ (hF _ (by simp))
      ·exact RD _ (hF _ (by simp))
      ·exact(ha4 b hb).2
      ·exact RD _ (hF _ (by simp[hb]))
     ·exact(CH _ (aBE n1)).trans (NN bl (hF _ (by simp)) n5 n6)
     ·have e:gQ (D.waits++[(n,s)])=gQ D.waits++(I n::ai s):=by simp[gQ,tJ]
      show Own _ v' 513 195 (gQ (D.waits++[(n,s)])) Yq;rw[e]
      exact Dz.mono fun b hb=>CH b fun e=>by
       rcases kW b hb with h4|h4
       ·exact n3 (e▸h4)
       ·omega
     ·rw[CH _ (aBE n2),RY.keep bm (by simp;omega) n8,al _ _ _ _ (by omega),DR]
     ·intro i;show _=Option.map _ (ny (D.waits++[(n,s)]) i);rw[Ex,wR]
      split
      ·rfl
      ·exact PF i
     ·intro b hb;exact(CH _ (fun e=>n4 (e▸hb))).trans (NN b (hF _ (by simp[hb])) (fun e=>n9 (e▸hb)) (fun h=>M3 b h hb))
     ·intro w hw;rcases aAM.1 hw with hw|hw
      ·exact h.xi w hw
      ·simp only[aBM]at hw;subst hw;exact⟨hs,hn⟩
    have E7:Kp F s1 (St.set s4 a (.cells [vl,v', .map bm,I D.done, .bool D.dead, .bool D.set,I D.left,vk] 137 false)):=(sv.mono fun q hq=> .inl (hF q (by simp at hq;rcases hq with rfl|hq<;>simp[*]))).set _ (.inl h.mem) (aAZ ha sv.next)
    have zf:∀b∈a::bl::bm::(Yq++Fk),b∈F\/s1.next<=b:=by
     intro b hb;simp only[aAD,aAM]at hb;rcases hb with rfl|rfl|rfl|hb|hb
     ·exact .inl h.mem
     ·exact .inl (hF _ (by simp))
     ·exact .inl (hF _ (by simp))
     ·exact(kW b hb).imp (fun h=>hF _ (by simp[h])) id
     ·exact .inl (hF _ (by simp[hb]))
    refine(FK hD1).mono ?_;intro x s6 hb
    by_cases ho:D.out
    ·rw[aAI (show aT.out {D with waits:=D.waits++[(n,s)]}from ho)]at hb;obtain⟨rfl,rfl⟩:=hb;simp[ho];refine(FF hD1 (by simp;omega) (IX hD1)).mono ?_;rintro _ s7 ⟨h7,F',h8,h9⟩;exact⟨E7.trans h7 zf,F',h8,fun b hb=>(h9 b hb).elim (zf b) fun h=> .inr (aBS E7.next h)⟩
    ·rw[aAH (show¬aT.out {D with waits:=D.waits++[(n,s)]}from ho)]at hb;obtain⟨rfl,hk,hn,h2⟩:=hb;simp[ho];exact⟨E7.trans hk zf,_,⟨_,_,_,_,_,_,_,h2⟩,zf⟩
def uh (L:List jl):aT:=⟨L,[],0,false,false,0,[]⟩
def F8 (L:List jl)(st:St)(v:CV)(st':St):Prop:=Kp [] st st'/\∃a F,v= .tuple [.ptr a 0,I 0]/\du st' a F (uh L)/\∀b∈F,st.next<=b
theorem QY {s1:St}{x:CV}{L:List jl}{t:TypeId}{g:Bool}{gr b:Nat}(hk:Kp [] st s1)(hx:x= .slice b 0 L.length L.length gr)(hgr:gr=0\/gr=512)(hb:s1.mem.get b=some (.cells (pK L) t g))(Jm:st.next<=b)(Gu:b<s1.next)(hL:∀s∈L,s.length=512)(hn:L.length<=65536):
 F8 L st (.tuple [.ptr (s1.next+1) 0,I 0]) (St.new (St.new s1 (.map [] 0)) (.cells [x, .ae, .map s1.next,I 0, .bool false, .bool false,I 0, .ae] 137 false)):=by
 refine⟨(hk.new _).new _,s1.next+1,(s1.next+1)::b::s1.next::([]++[]),rfl,⟨x, .ae, .ae,b,s1.next,[],[],rfl, ?_, ?_, ?_,⟨t,g,gr,hx,hgr, ?_, ?_⟩, .inl ⟨rfl,rfl,rfl⟩,⟨[], ?_,fun i=>rfl⟩, .inl ⟨rfl,rfl,rfl⟩,hL, ?_,hn⟩, ?_⟩
 ·simp;omega
 ·intro q hq;simp at hq;simp;rcases hq with rfl|rfl|rfl<;>omega
 ·exact au _ _
 ·show(pK L).length=_;unfold pK;rw[fw (BU hL)];simp[uh]
 ·show(St.new (St.new s1 _) _).mem.get b=_;rw[aZ _ _ _ (by simp;omega),aZ _ _ _ Gu];exact hb
 ·refine(da.new s1).mono ?_;rw[aZ _ _ _ (by simp)]
 ·intro w hw;simp[uh]at hw
 ·intro q hq;have:=hk.next;simp at hq;rcases hq with rfl|rfl|rfl<;>omega
def kN:jl:=List.replicate 512 0
theorem oO:kN.length=512:=aBt
theorem Z4 (n:Nat):cH n (zr 512)=pK (List.replicate n kN):=by
 unfold cH pK kN;rw[List.map_replicate]
 congr 2
theorem VD {n:Nat}(h1:1<=n)(h2:n<=65536):R 29 [I n] st fun v st'=>F8 (List.replicate n kN) st v st':=by
 refine bN ?_;rw[w29];have e1:¬(n:Int)<1:=by omega
 have e2:¬(65536:Int)<n:=by omega
 simp[e1,e2,qm,dN,cF,bp];refine⟨by omega, ?_⟩;have hk:Kp [] st (St.new st (.cells (cH n (zr 512)) 142 false)):=(Kp.refl [] st).new _;refine QY (x:= .slice st.next 0 n n 0) hk (by simp) (.inl rfl) (b:=st.next) (g:=false) (t:=142) ?_ (aAE _) (by simp) ?_ (by simpa using h2)
 ·rw[<-Z4];exact au st _
 ·intro s hs;rw[List.eq_of_mem_replicate hs];exact oO
end
theorem aaf (k:Nat)(h:k<256):jA .or .u8 (k:Int) 128=some ((k%128+128:Nat):Int):=by
 have:∀k:Fin 256,jA .or .u8 ((k.val:Nat):Int) 128=some ((k.val%128+128:Nat):Int):=by decide+kernel
 exact this ⟨k,h⟩
theorem LW (k:Nat):IntKind.u8.wrap (k:Int)=((k%256:Nat):Int):=by
 unfold IntKind.wrap;simp[IntKind.bits,IntKind.signed]
theorem rR (k:Nat)(h:k<18446744073709551616):IntKind.u64.wrap (k:Int)=(k:Int):=by
 unfold IntKind.wrap;simp[IntKind.bits,IntKind.signed];omega
theorem jj (k:Nat)(h:k<256):bO (UInt8.ofNat k)= .int .u8 (k:Int):=by
 unfold bO;have:(UInt8.ofNat k).toNat=k:=by simp;omega
 rw[this]
theorem MS (k:Nat)(h:k<256)(d:Option jL)(c:Bool)(st:St):aj .or d c (.int .u8 (k:Int)) (.int .u8 128) st= .ok (.int .u8 ((k%128+128:Nat):Int)) st:=by
 have:aj .or d c (.int .u8 (k:Int)) (.int .u8 128) st=(match jA .or .u8 (k:Int) 128 with|some r=> .ok (.int .u8 r) st|none=> .bad):=rfl;rw[this,aaf k h]
theorem Ka (k:Nat)(d:Option jL)(c:Bool)(st:St):aj .shr d c (.int .u64 (k:Int)) (.int .u64 7) st= .ok (.int .u64 ((k/128:Nat):Int)) st:=by
 have:aj .shr d c (.int .u64 (k:Int)) (.int .u64 7) st= .ok (.int .u64 ((k:Int).fdiv 128)) st:=rfl;rw[this]
 congr 2
 rw[Int.fdiv_eq_ediv_of_nonneg _ (by omega)];omega
section
variable {st st':St}
theorem Made.of {k e:Nat}{L:List CV}{x:CV}{F:List Nat}(h1:Kp [] st st')(h2:Own st' x k e L F)(h3:∀b∈F,st.next<=b/\b<st'.next):Made k e L st x st':=⟨F,h1,h2,h3⟩
theorem oH.made {k e:Nat}{L:List CV}{v x:CV}(h:oH k e v L st x st'):Made k e L st x st':=by obtain⟨F,h1,h2,h3,_⟩:=h;exact⟨F,h1,h2,h3⟩
theorem bE (a b:List UInt8):ai (a++b)=ai a++ai b:=by simp[ai]
theorem GB {X:List Nat}{v:CV}{b:List UInt8}{n:Nat}(h:Sl st X v 1 (ai b))(hb:b.length<=1000000)(hn:n<=2147483647):R 166 [v, .int .u64 n] st (Made 1 5 (ai (b++uv n)) st):=by
 refine bN ?_;rw[agM];simp only[cN,aJ,aK];refine(vy h (by omega)).mono ?_;intro x s1 hc;obtain⟨F0,c1,c2,c3⟩:=hc.made;have key:∀m k,k<=m->k<=2147483647->(uv k).length<=5:=fun m k _ h=>(jE k h).2;refine bK (fun m vs s=>∃u:Nat,∃x F pre,m=u/\vs=[.int .u64 u,x]/\pre++uv u=uv n/\Kp [] st s/\Own s x 1 5 (ai (b++pre)) F/\∀q∈F,st.next<=q/\q<s.next) ?_ (n:=n) ⟨n,x,F0,[],rfl,rfl,rfl,c1,by simpa using c2,c3⟩;rintro m vs s k ⟨u,x,F,pre,hm,rfl,hp,hk,ho,hF⟩ next;have zO:=hm;clear hm;subst zO;have V6:∃u,u=m:=⟨m,rfl⟩;obtain⟨u,V6⟩:=V6;subst V6;have apI:pre.length<=5:=by have:=congrArg List.length hp;have h5:=(jE n hn).2;rw[aAG]at this;omega
 have hz:([CV.int .u8 0]:List CV).length=1:=rfl
 by_cases hu:127<u
 ·have hu':(127:Int)<u:=by omega
  simp only[aJ,aK,aw,dq,af,ag,hu',aBA,aAY]
  have e1:dB (.toInt .u8) (.int .u64 u) s= .ok (.int .u8 ((u%256:Nat):Int)) s:=by
   show OR.ok (.int .u8 (IntKind.u8.wrap u)) s=_;rw[LW]
  rw[e1,af,MS _ (by omega),af];refine O5 1 ho (by omega) (fun q hq=>(hF q hq).2) hz rfl rfl rfl (by simp;omega) ?_;intro v' s' F' h1 h2 h3;have esh:=Ka u none true s';rw[aw]at esh;rw[esh,af];refine next (u/128) _ _ (by omega) ⟨u/128,v',F',pre++[UInt8.ofNat (u%128+128)],rfl,rfl, ?_,hk.trans h2 fun q hq=> .inr (hF q hq).1, ?_,fun q hq=> ?_⟩
  ·rw[<-hp,ir hu];simp
  ·have:ai (b++(pre++[UInt8.ofNat (u%128+128)]))=ai (b++pre)++(CV.int .u8 ((u%256%128+128:Nat):Int)).cD:=by
    rw[<-aBn,bE (b++pre)]
    congr 1
    show [bO _]=[_];rw[jj _ (by omega)]
    congr 3;omega
   rw[this];exact h1
  ·obtain⟨h4,h5⟩:=h3 q hq;exact⟨h4.elim (fun h=>(hF q h).1) (fun h=>aBS hk.next h),h5⟩
 ·have hu':¬(127:Int)<u:=by omega
  simp only[aJ,aK,aw,dq,af,ag,hu',aCi,aAz,aAO]
  have e1:dB (.toInt .u8) (.int .u64 u) s= .ok (.int .u8 ((u%256:Nat):Int)) s:=by
   show OR.ok (.int .u8 (IntKind.u8.wrap u)) s=_;rw[LW]
  rw[e1,af];refine O5 1 ho (by omega) (fun q hq=>(hF q hq).2) hz rfl rfl rfl (by simp;omega) ?_;intro v' s' F' h1 h2 h3;refine⟨F',hk.trans h2 fun q hq=> .inr (hF q hq).1, ?_,fun q hq=> ?_⟩
  ·have:ai (b++uv n)=ai (b++pre)++(CV.int .u8 ((u%256:Nat):Int)).cD:=by
    rw[<-hp,<-aBn,bE (b++pre),iX (by omega)]
    congr 1
   rw[this];exact h1
  ·obtain⟨h4,h5⟩:=h3 q hq;exact⟨h4.elim (fun h=>(hF q h).1) (fun h=>aBS hk.next h),h5⟩
theorem rB {X:List Nat}{v:CV}{b:List UInt8}{n:Nat}(h:Sl st X v 1 (ai b))(hb:b.length<=1000000)(hn:n<=2147483647):R 129 [v,I n] st (Made 1 5 (ai (b++uv n)) st):=by
 refine bN ?_;rw[ahp];have e1:¬(n:Int)<0:=by omega
 have e2:¬(2147483647:Int)<n:=by omega
 have e3:dB (.toInt .u64) (I n) st= .ok (.int .u64 n) st:=by
  show OR.ok (.int .u64 (IntKind.u64.wrap n)) st=_;rw[rR n (by omega)]
 simp[e1,e2,e3];exact GB h hb hn
theorem OC {X:List Nat}{v:CV}{b:List UInt8}{f:Bool}(h:Sl st X v 1 (ai b))(hb:b.length<=1000000):R 188 [v, .bool f] st (Made 1 5 (ai (b++uv (if f=true then 1 else 0))) st):=by
 refine bN ?_;rw[agw];cases f
 ·simp;exact rB (n:=0) h hb (by omega)
 ·simp;exact rB (n:=1) h hb (by omega)
theorem BK {X:List Nat}{v:CV}{b s:List UInt8}(h:Sl st X v 1 (ai b))(hb:b.length<=1000000)(hs:s.length<=1000000):R 128 [v, .str s] st (Made 1 5 (ai (b++(uv s.length++s))) st):=by
 refine bN ?_;rw[ahq];have e2:¬(2147483647:Int)<s.length:=by omega
 simp[e2];refine(rB h hb (by omega)).mono ?_;rintro x s1 ⟨F,h1,h2,h3⟩;have hl:=(jE s.length (by omega)).2;obtain⟨v',s2,F',a1,a2,a3,a4⟩:=h2.append (n:=s.length) (bytes:=1) (T:=ai s) (by omega) (by simp) (bB s) (fun b hb=>(h3 b hb).2) (by simp;omega);have e3:cV .str 1 [(.int .u8 0)] (.str s) s1=some (s.length,ai s):=rfl;rw[e3,a1,aS];refine⟨F',h1.trans a3 fun q hq=> .inr (h3 q hq).1,by simpa[ai]using a2,fun b hb=>⟨(a4 b hb).1.elim (fun h=>(h3 b h).1) (fun h=>by have:=h1.next;omega),(a4 b hb).2⟩⟩
end
section
variable {st st':St}
def kK (st:St)(F:List Nat)(v:CV)(k:Nat)(L:List CV):Prop:=∀X,(∀b∈F,b∉X)->Sl st X v k L
theorem kK.keep {F X:List Nat}{v:CV}{k:Nat}{L:List CV}(h:kK st F v k L)(hk:Kp X st st')(hx:∀b∈F,b∉X):kK st' F v k L:=fun Y hy=>by
 have h1:=h (X++Y) fun b hb=>by simp;exact⟨hx b hb,hy b hb⟩
 exact(h1.mono (hk.mono fun q hq=> .inl (by simp[hq]))).dM fun q hq=> .inl (by simp[hq])
theorem Own.ZX {v:CV}{k e:Nat}{L:List CV}{F:List Nat}(h:Own st v k e L F)(hx:∀b∈F,b<st.next):kK st F v k L:=fun X h2=>h.sl fun b hb=>⟨h2 b hb,hx b hb⟩
theorem kK.nil {F:List Nat}{v:CV}{k:Nat}{L:List CV}(h:kK st F v k L):Sl st [] v k L:=h [] (by simp)
theorem kK.lo {F:List Nat}{v:CV}{k n:Nat}{L:List CV}(h:kK st F v k L)(hk:0<k)(hn:L.length=n*k){l:Nat}(hl:l<=n)(s:St):∃v',aL k v (some (I l)) none s= .ok v' s/\kK st F v' k (L.drop (l*k)):=by
 obtain⟨v',h1,_⟩:=h.nil.lo hk hn hl s;refine⟨v',h1,fun X hx=> ?_⟩;obtain⟨v2,h2,h3⟩:=(h X hx).lo hk hn hl s;rw[h1]at h2;cases h2;exact h3
theorem kK.hi {F:List Nat}{v:CV}{k n:Nat}{L:List CV}(h:kK st F v k L)(hk:0<k)(hn:L.length=n*k){l:Nat}(hl:l<=n)(s:St):∃v',aL k v none (some (I l)) s= .ok v' s/\kK st F v' k (L.take (l*k)):=by
 obtain⟨v',h1,_⟩:=h.nil.hi hk hn hl s;refine⟨v',h1,fun X hx=> ?_⟩;obtain⟨v2,h2,h3⟩:=(h X hx).hi hk hn hl s;rw[h1]at h2;cases h2;exact h3
def nK (st:St)(r:Nat)(F:List Nat)(L:List UInt8):Prop:=∃q v G,F=r::q::G/\F.Nodup/\(∀b∈F,b<st.next)/\st.mem.get r=some (.cells [.ptr q 0] 240 false)/\st.mem.get q=some (.cells [v, .bool false] 238 false)/\kK st G v 1 (ai L)
theorem nK.keep {r:Nat}{F X:List Nat}{L:List UInt8}(h:nK st r F L)(hk:Kp X st st')(hx:∀b∈F,b∉X):nK st' r F L:=by
 obtain⟨q,v,G,rfl,h1,h2,h3,h4,h5⟩:=h;exact⟨q,v,G,rfl,h1,fun b hb=>aAZ (h2 b hb) hk.next,by rw[hk.keep r (h2 r (by simp)) (hx r (by simp))];exact h3,by rw[hk.keep q (h2 q (by simp)) (hx q (by simp))];exact h4,h5.keep hk fun b hb=>hx b (by simp[hb])⟩
theorem u9 {X:List Nat}{v:CV}{L:List UInt8}(h:Sl st X v 1 (ai L))(hl:L.length<=1000000):R 116 [v] st fun x st'=>∃r F,x= .ptr r 0/\Kp [] st st'/\nK st' r F L/\∀b∈F,st.next<=b:=by
 refine bN ?_;rw[ahy];refine(vy h (by omega)).mono ?_;intro x s1 hc;obtain⟨F0,c1,c2,c3⟩:=hc.made;obtain⟨o1,o2⟩:=c2.cr;have o3:x.isAny=false:=(c2.sl (X:=[]) fun b hb=>⟨by simp,(c3 b hb).2⟩).bG.1;simp[dN,cF,bp,o2,o3];have hF:F0.Nodup:=by rcases c2 with⟨_,_,rfl⟩|⟨_,_,_,_,_,_,rfl,_⟩|⟨_,_,_,_,_,rfl,_⟩<;>simp
 refine⟨(c1.new _).new _,(s1.next+1)::s1.next::F0,⟨s1.next,x,F0,rfl, ?_, ?_,au _ _, ?_, ?_⟩, ?_⟩
 ·simp only[aAQ,aAD,aBY];exact⟨⟨by omega,fun h=>by have:=(c3 _ h).2;omega⟩,fun h=>by have:=(c3 _ h).2;omega,hF⟩
 ·intro b hb;simp only[aAD]at hb;simp;rcases hb with rfl|rfl|hb
  ·omega
  ·omega
  ·have:=(c3 b hb).2;omega
 ·rw[aZ _ _ _ (by simp)];exact au _ _
 ·refine Own.ZX (e:=5) (c2.mono fun b hb=> ?_) fun b hb=> ?_
  ·have:=(c3 b hb).2;rw[aZ _ _ _ (by simp;omega),aZ _ _ _ this]
  ·have:=(c3 b hb).2;simp;omega
 ·intro b hb;have:=c1.next;simp only[aAD]at hb;rcases hb with rfl|rfl|hb
  ·omega
  ·omega
  ·exact(c3 b hb).1
variable {r:Nat} {F:List Nat} {L:List UInt8}
theorem pN (h:nK st r F L):R 117 [.ptr r 0] st fun v st'=>v= .bool true/\st'=st:=by
 obtain⟨q,v,G,rfl,h1,h2,h3,h4,h5⟩:=h;refine bN ?_;rw[ahx];simp[j0,h3];refine bN ?_;rw[agT];simp[j0,h4]
theorem IV (h:nK st r F L):R 156 [.ptr r 0] st fun v st'=>v=I L.length/\st'=st:=by
 obtain⟨q,v,G,rfl,h1,h2,h3,h4,h5⟩:=h;refine bN ?_;rw[agS];simp[fm,h3];refine bN ?_;rw[agt];simp[fm,j0,h4,h5.nil.len L.length (by simp) (by omega)]
theorem Si (h:nK st r F L):R 118 [.ptr r 0] st fun v st'=>v= .bool (decide (L=[]))/\st'=st:=by
 refine bN ?_;rw[ahw];refine(pN h).mono ?_;rintro _ _ ⟨rfl,rfl⟩;simp;refine(IV h).mono ?_;rintro _ _ ⟨rfl,rfl⟩;simp
theorem kK.mono {F G:List Nat}{v:CV}{k:Nat}{L:List CV}(h:kK st G v k L)(hg:∀b∈G,b∈F):kK st F v k L:=fun X hx=>h X fun b hb=>hx b (hg b hb)
theorem It (h:nK st r F L){q:Nat}(hq:st.mem.get r=some (.cells [.ptr q 0] 240 false)){n:Nat}(hn:n<=L.length):R 160 [.ptr q 0,I n] st fun x st'=>kK st' F x 1 (ai (L.take n))/\Kp F st st'/\st'.next=st.next/\nK st' r F (L.drop n)/\st'.mem.get r=st.mem.get r:=by
 obtain⟨q',v,G,rfl,h1,h2,h3,h4,h5⟩:=h;have:q'=q:=by rw[h3]at hq;cases hq;rfl
 subst this;refine bN ?_;rw[agO];obtain⟨v1,a1,a2⟩:=h5.hi (n:=L.length) (by omega) (by simp) hn st;obtain⟨v2,b1,b2⟩:=h5.lo (n:=L.length) (by omega) (by simp) hn st;obtain⟨c1,c2,c3⟩:=b2.nil.bG;have h1':=h1;simp only[aAQ,aAD,aBY]at h1;simp[fm,lz,h4,a1,b1,bp,c2,c3];have hk:Kp (r::q'::G) st (St.set st q' (.cells [v2, .bool false] 238 false)):=(Kp.refl _ st).set _ (.inl (by simp)) (h2 q' (by simp));have hkq:Kp [q'] st (St.set st q' (.cells [v2, .bool false] 238 false)):=(Kp.refl _ st).set _ (.inl (by simp)) (h2 q' (by simp));have hG:∀b∈G,b∉[q']:=fun b hb e=>h1.2.1 (by simp at e;exact e▸hb);have hr:(St.set st q' (.cells [v2, .bool false] 238 false)).mem.get r=st.mem.get r:=al _ _ _ _ h1.1.1;have e1:ai (L.take n)=(ai L).take (n*1):=by simp[ai]
 have e2:ai (L.drop n)=(ai L).drop (n*1):=by simp[ai]
 refine⟨?_,hk,⟨q',v2,G,rfl,h1',h2,by rw[hr];exact h3,ao _ _ _, ?_⟩,hr⟩
 ·rw[e1];exact(a2.keep hkq hG).mono (fun b hb=>by simp[hb])
 ·rw[e2];exact b2.keep hkq hG
theorem Is {f:Nat}(hf:f=158\/f=159)(h:nK st r F L)(v:CV):R f [.ptr r 0,v, .bool true] st fun x st'=>x=v/\st'=st:=by
 obtain⟨q,v',G,rfl,h1,h2,h3,h4,h5⟩:=h;refine bN ?_ (by rcases hf with rfl|rfl<;>rfl);rcases hf with rfl|rfl
 ·rw[agQ];simp[fm,h3,h4]
 ·rw[agP];simp[fm,h3,h4]
theorem X9 (k:Nat)(h:k<256):jA .and .u8 (k:Int) 127=some ((k%128:Nat):Int):=by
 have:∀k:Fin 256,jA .and .u8 ((k.val:Nat):Int) 127=some ((k.val%128:Nat):Int):=by decide+kernel
 exact this ⟨k,h⟩
theorem aae (a m:Nat)(k:Nat)(h:a<2^k)(hs:a+m*2^k<18446744073709551616):jA .or .u64 (a:Int) ((m*2^k:Nat):Int)=some ((a+m*2^k:Nat):Int):=by
 have e:jA .or .u64 (a:Int) ((m*2^k:Nat):Int)=some (IntKind.u64.wrap ((BitVec.ofInt 64 (a:Int)|||BitVec.ofInt 64 ((m*2^k:Nat):Int)).toNat:Int)):=rfl;rw[e,BitVec.ofInt_natCast,BitVec.ofInt_natCast,BitVec.toNat_or,BitVec.toNat_ofNat,BitVec.toNat_ofNat,aCw (by omega),aCw (by omega),Nat.or_comm,aCA m,<-Nat.two_pow_add_eq_or_of_lt h,rR _ (by rw[aCA];omega),aCA,aDr]
theorem OD {X:List Nat}{v:CV}{n:Nat}(h:Sl st X v 1 (ai (uv n++L)))(hn:n<=2147483647):R 193 [v] st fun x st'=>x= .tuple [.int .u64 n,I (uv n).length]/\st'=st:=by
 refine bN ?_;rw[ags];have hlen:=h.len (uv n++L).length (by simp) (by omega) st;simp only[cN,aJ,aK,hlen,af];have hn5:=(jE n hn).2;refine bK (fun m vs s=>∃i u acc:Nat,∃pre,m+i=(uv n).length/\vs=[.int .u64 acc,v,I (uv n++L).length,I i]/\pre++uv u=uv n/\pre.length=i/\acc+u*128^i=n/\acc<128^i/\s=st) ?_ (n:=(uv n).length) ⟨0,n,0,[],by simp,rfl,rfl,rfl,by simp,by simp,rfl⟩;rintro m vs s k ⟨i,u,acc,pre,hm,rfl,hp,hi,ha,hb,rfl⟩ next;have hul:0<(uv u).length:=by by_cases hu:127<u;rw[ir hu];simp;rw[iX (by omega)];simp
 have Dw:i<(uv n).length:=by rw[<-hp,aAG];omega
 have fv:(i:Int)<(uv n++L).length:=by rw[aAG];omega
 have YO:u<=n:=by
  have:1<=128^i:=Nat.one_le_pow _ _ (by omega);have:=Nat.mul_le_mul_left u this;omega
 have we:∀hh,(ai (uv n++L))[i]'hh= .int .u8 ((if 127<u then u%128+128 else u:Nat):Int):=by
  intro hh;have e:uv n++L=pre++(uv u++L):=by rw[<-hp,aBn]
  have:(ai (uv n++L))[i]?=some (.int .u8 ((if 127<u then u%128+128 else u:Nat):Int)):=by
   rw[e,bE,aBO (by simp;omega)];simp only[bJ,hi,Nat.sub_self]
   by_cases hu:127<u
   ·rw[ir hu,aAI hu];show some (bO _)=_;rw[jj _ (by omega)]
   ·rw[iX (by omega),aAH hu];show some (bO _)=_;rw[jj _ (by omega)]
  rw[aAC hh]at this;exact aCd this
 have hib:i<(ai (uv n++L)).length:=by simp;omega
 simp only[aJ,aK,aw,cP,af,ag,fv,aBA,aAY];refine h.idx hib _ ?_;rw[we];have OL:¬(i:Int)=10:=by omega
 have e9:¬(i:Int)=9:=by omega
 simp only[cz,af,OL,e9,aCi,aH,bo,cB,aAT,aAz,aAO,aG,L0,ag,ite_self];have hc:(if 127<u then u%128+128 else u)<256:=by split<;>omega
 generalize Fe:(if 127<u then u%128+128 else u)=c at hc;have RW:c%128=u%128:=by rw[<-Fe];split<;>omega
 have a1:∀s,aj .and none true (.int .u8 (c:Int)) (.int .u8 127) s= .ok (.int .u8 ((c%128:Nat):Int)) s:=fun s=>by
  have:aj .and none true (.int .u8 (c:Int)) (.int .u8 127) s=(match jA .and .u8 (c:Int) 127 with|some r=> .ok (.int .u8 r) s|none=> .bad):=rfl;rw[this,X9 c hc]
 have apK:128^i<=128^4:=Nat.pow_le_pow_right (by omega) (by omega);have Dt:2^(7*i)=128^i:=by rw[Nat.pow_mul]
 have avu:u%128*128^i<=n:=by
  have:u%128*128^i<=u*128^i:=aBu _ (Nat.mod_le _ _);omega
 have a2:∀s,dB (.toInt .u64) (.int .u8 ((c%128:Nat):Int)) s= .ok (.int .u64 ((c%128:Nat):Int)) s:=fun s=>by
  show OR.ok (.int .u64 (IntKind.u64.wrap _)) s=_;rw[rR _ (by omega)]
 have a3:IntKind.i64.wrap (7*(i:Int))=((7*i:Nat):Int):=by rw[bz (by omega)];omega
 have a4:∀s,aj .shl none false (.int .u64 ((c%128:Nat):Int)) (.int .i64 ((7*i:Nat):Int)) s= .ok (.int .u64 ((u%128*2^(7*i):Nat):Int)) s:=fun s=>by
  have e:aj .shl none false (.int .u64 ((c%128:Nat):Int)) (.int .i64 ((7*i:Nat):Int)) s=if ((7*i:Nat):Int)<0 then .bad else .ok (.int .u64 (IntKind.u64.wrap (((c%128:Nat):Int)*2^(min ((7*i:Nat):Int).toNat 64)))) s:=rfl
  rw[e,aAH (by omega),aDl,aBq (by omega),RW];have e2:((u%128:Nat):Int)*2^(7*i)=((u%128*2^(7*i):Nat):Int):=by simp
  rw[e2,rR _ (by rw[Dt];omega)]
 have a5:∀s,aj .or none false (.int .u64 (acc:Int)) (.int .u64 ((u%128*2^(7*i):Nat):Int)) s= .ok (.int .u64 ((acc+u%128*2^(7*i):Nat):Int)) s:=fun s=>by
  have e:aj .or none false (.int .u64 (acc:Int)) (.int .u64 ((u%128*2^(7*i):Nat):Int)) s=(match jA .or .u64 (acc:Int) ((u%128*2^(7*i):Nat):Int)with|some r=> .ok (.int .u64 r) s|none=> .bad):=rfl;rw[e,aae acc (u%128) (7*i) (by rw[Dt];exact hb) (by rw[Dt];omega)]
 have a6:IntKind.i64.wrap ((i:Int)+1)=((i+1:Nat):Int):=by rw[bz (by omega)];omega
 have a7:aj .eql (some .int) true (I i) (.int .i64 9) s= .ok (.bool false) s:=by rw[aw,cz];simp only[e9,aCi]
 have a8:∀s,aj .lss none true (.int .u8 (c:Int)) (.int .u8 128) s= .ok (.bool (decide (c<128))) s:=fun s=>by
  rw[aw,cP];congr 2;simp only[aBc];omega
 simp only[a7,af,aH,cB,aAz,aAY,aAO,aAT,aG,ag,a1,a2,jR,a3,a4,a5,a8,cE,a6];have yP:u=u%128+128*(u/128):=(Nat.mod_add_div u 128).symm
 by_cases hu:127<u
 ·have hc8:¬c<128:=by rw[<-Fe,aAI hu];omega
  simp only[hc8,aCi,aAz,aAO]
  have e6:u*128^i=u%128*128^i+u/128*128^(i+1):=by
   conv=>lhs;rw[yP]
   rw[aBI,aDj,aCA 128 (u/128),Nat.mul_assoc,aCA 128]
  have e7:u%128*128^i<=127*128^i:=aBu _ (by omega);refine next (m-1) _ _ (by omega) ⟨i+1,u/128,acc+u%128*2^(7*i),pre++[UInt8.ofNat (u%128+128)],by omega,rfl, ?_,by simp;omega,by rw[Dt];omega,by rw[Dt,aDj];omega,rfl⟩;rw[<-hp,ir hu];simp
 ·have hc8:c<128:=by rw[<-Fe,aAH hu];omega
  simp only[hc8,aBA,aAY];have e5:(uv n).length=i+1:=by rw[<-hp,iX (by omega)];simp;omega
  rw[e5];have e6:u%128=u:=by omega
  rw[e6,Dt,ha];exact⟨rfl,trivial⟩
end
section
variable {st st':St} {r:Nat} {F:List Nat} {L:List UInt8}
def Pa (r:Nat)(F:List Nat)(L:List UInt8)(st st':St):Prop:=Kp F st st'/\st'.next=st.next/\nK st' r F L
theorem Qh {n:Nat}(h:1<(uv n).length):∃b,(uv n)[(uv n).length-1]?=some b/\b≠0:=by
 have key:∀m n,n<=m->0<n->∃b,(uv n)[(uv n).length-1]?=some b/\b≠0:=by
  intro m
  induction m with
  |zero=>intro n h1 h2;omega
  |succ m ih=>
   intro n h1 h2
   by_cases hn:127<n
   ·obtain⟨b,h3,h4⟩:=ih (n/128) (by omega) (by omega);have hl:0<(uv (n/128)).length:=by by_cases hu:127<n/128;rw[ir hu];simp;rw[iX (by omega)];simp
    refine⟨b, ?_,h4⟩;rw[ir hn,aBb,aBX];obtain⟨k,hk⟩:∃k,(uv (n/128)).length=k+1:=⟨(uv (n/128)).length-1,by omega⟩;rw[hk,aAA];rw[hk,aBX]at h3;exact h3
   ·rw[iX (by omega)];refine⟨_,rfl,fun e=> ?_⟩;have:=congrArg UInt8.toNat e;simp at this;omega
 refine key n n (aAE _) ?_
 by_cases h0:n=0
 ·subst h0;rw[iX (by omega)]at h;simp at h
 ·omega
theorem nK.sl (h:nK st r F L):∃q v,st.mem.get r=some (.cells [.ptr q 0] 240 false)/\st.mem.get q=some (.cells [v, .bool false] 238 false)/\Sl st [] v 1 (ai L):=by
 obtain⟨q,v,G,rfl,h1,h2,h3,h4,h5⟩:=h;exact⟨q,v,h3,h4,h5.nil⟩
theorem Vk {n:Nat}(h:nK st r F (uv n++L))(hn:n<=2147483647):R 157 [.ptr r 0] st fun x st'=>x= .tuple [.int .u64 n, .bool true]/\Pa r F L st st':=by
 refine bN ?_;rw[agR];refine(pN h).same ?_;obtain⟨q,v,h1,h2,h3⟩:=h.sl;simp[fm,h1,h2];refine(OD h3 hn).same ?_;have hl:=(jE n hn).1;have hl5:=(jE n hn).2;have Bc:R 160 [.ptr q 0,I (uv n).length] st fun x3 s3=>Pa r F L st s3:=(It h h1 (n:=(uv n).length) (by simp)).mono fun x s ⟨_,k1,k2,k3,_⟩=>⟨k1,k2,by simpa using k3⟩
 have E0:1<(uv n).length->Lim.idx 1 v (I (((uv n).length-1:Nat):Int)) st fun eB=>∃c:Nat,eB= .int .u8 c/\c≠0:=fun h4=>by
  obtain⟨b,b1,b2⟩:=Qh h4;have hlt:(uv n).length-1<(ai (uv n++L)).length:=by simp;omega
  refine h3.idx hlt _ ?_
  have e4:(ai (uv n++L))[(uv n).length-1]'hlt=bO b:=by
   have:(ai (uv n++L))[(uv n).length-1]?=some (bO b):=by
    rw[bE,aCe (by simp;omega)];simp only[ai,aBw,b1];rfl
   rw[aAC hlt]at this;exact aCd this
  exact⟨b.toNat,e4,fun e=>b2 (by apply UInt8.toNat_inj.1;simp;omega)⟩
 generalize (uv n).length=k at*;have e0:¬k=0:=by omega
 by_cases h4:1<k
 ·have e3:IntKind.i64.wrap ((k:Int)-1)=((k-1:Nat):Int):=by rw[bz (by omega)];omega
  have key:=E0 h4;unfold Lim.idx at key;have e2:(1:Int)<k:=by omega
  simp[e0,e2,e3,j0,yN,h1,h2];refine kM key fun a ha=>kM ha fun x hx=> ?_;obtain⟨c,rfl,hc⟩:=hx;simp[hc,Bc]
 ·have e2:¬(1:Int)<k:=by omega
  simp[e0,e2,j0,yN,h1,Bc]
theorem kh {n m:Nat}(h:nK st r F (uv n++L))(hn:n<=m)(hm:m<=2147483647):R 119 [.ptr r 0,I m] st fun x st'=>x=I n/\Pa r F L st st':=by
 refine bN ?_;rw[ahv];simp;refine(Vk h (by omega)).mono ?_;rintro _ s1 ⟨rfl,h1,h2,h3⟩
 have e1:dB (.toInt .i64) (.int .u64 (n:Int)) s1= .ok (I n) s1:=by
  show OR.ok (.int .i64 (IntKind.i64.wrap _)) s1=_;rw[bz (by omega)]
 have e2:(n:Int)<=2147483647:=by omega
 have e3:(n:Int)<=m:=by omega
 have e4:(0:Int)<=m:=by omega
 simp[e1,e2,hn];refine(Is (.inl rfl) h3 (I n)).same ?_;exact⟨rfl,h1,h2,h3⟩
theorem Mz {f:Bool}(h:nK st r F (uv (if f=true then 1 else 0)++L)):R 176 [.ptr r 0] st fun x st'=>x= .bool f/\Pa r F L st st':=by
 refine bN ?_;rw[agF];simp;refine(kh (m:=1) h (by split<;>omega) (by omega)).mono ?_;rintro _ s1 ⟨rfl,h1⟩;cases f<;>simp[h1]
theorem BX {s:List UInt8}{m:Nat}(h:nK st r F (uv s.length++(s++L)))(hn:s.length<=m)(hm:m<=2147483647):R 120 [.ptr r 0,I m] st fun x st'=>x= .str s/\Pa r F L st st':=by
 refine bN ?_;rw[ahu];simp;refine(kh h hn hm).mono ?_;rintro _ s1 ⟨rfl,h1,h2,h3⟩;refine(pN h3).same ?_;obtain⟨q,v,g1,g2,g3⟩:=h3.sl;have e1:¬((s++L).length:Int)<s.length:=by rw[aAG];omega
 simp[j0,fm,g1,g2,g3.len (s++L).length (by simp) (by omega),e1];have e2:¬((s.length:Int)+L.length<s.length):=by omega
 simp[e2,g1];refine(It h3 g1 (n:=s.length) (by simp)).mono ?_;rintro x s2 ⟨k1,k2,k3,k4,k5⟩;have e3:(s++L).take s.length=s:=by simp
 have e4:(s++L).drop s.length=L:=by simp
 rw[e3]at k1;rw[e4]at k4;rw[k1.nil.str,af];refine(Is (.inr rfl) k4 (.str s)).same ?_;exact⟨rfl,h1.trans k2 fun q hq=> .inl hq,by omega,k4⟩
end
