import Derived.Test.YtomffjeofpafnaaGreatDoorWa
import Derived.Test.YtomffjeofpafnaaGreatDoorLimJ
namespace Lim
open Go
noncomputable section
set_option maxRecDepth 100000
theorem R.same {f:Nat}{args:List CV}{st:St}{x:CV}{Q:CV->St->Prop}(h:R f args st fun v st'=>v=x/\st'=st)(hq:Q x st):R f args st Q:=R.mono h (by rintro _ _ ⟨rfl,rfl⟩;exact hq)
theorem Gj (e:Nat)(z:List CV)(st:St):bT e 0 (cO 0 z) [] st= .ok (.slice st.next 0 0 0 0) (St.new st (.cells [] e false)):=rfl
theorem Own.empty (st:St)(k e:Nat):Own (St.new st (.cells [] e false)) (.slice st.next 0 0 0 0) k e [] [st.next]:= .inr (.inl ⟨st.next,[],e,false,rfl,rfl,rfl,by simp⟩)
def oR (k e:Nat)(v:CV)(L:List CV)(st:St)(x:CV)(st':St):Prop:=∃F',Kp [] st st'/\Own st' x k e L F'/\(∀b∈F',st.next<=b/\b<st'.next)/\(v= .ae->x= .ae)
theorem DE {st:St}{X:List Nat}{v:CV}{k e:Nat}(bytes:Nat){L z:List CV}(h:Sl st X v k L)(hk:0<k)(jS:aX L=true)(hsz:L.length*(bytes+1)<=140737488355328):
 us (aj .eql (some .slice) true v .ae st) fun x1=>aB x1 (oR k e v L st .ae st)
  (upon (bT e 0 (cO 0 z) [] st) fun x2 s1=>upon (bQ e k bytes x2 (dg .slice k z v s1) s1) fun x3 s2=>oR k e v L st x3 s2):=by
 by_cases hv:v= .ae
 ·subst hv
  have:L=[]:=by
   rcases h with⟨_,h⟩|⟨b,off,len,cap,grow,h1,_⟩
   ·exact h
   ·cases h1
  subst this;simp;exact⟨[],Kp.refl _ _, .inl ⟨rfl,rfl,rfl⟩,by simp,fun _=>rfl⟩
 ·have h1:us (aj .eql (some .slice) true v .ae st)=us (.ok (.bool false) st):=by
   rcases h with⟨h,_⟩|⟨b,off,len,cap,grow,h,_⟩
   ·exact absurd h hv
   ·subst h;rfl
  rw[h1];have oV:Kp [] st (St.new st (.cells [] e false)):=(Kp.refl [] st).new _;have kN:=(h.ef (Y:=[]) (by simp)).mono oV;obtain⟨n,h2,h3⟩:=kN.src z;obtain⟨v',st',F',h4,h5,h6,h7⟩:=(Own.empty st k e).append (bytes:=bytes) (T:=L) hk h2 jS (by simp) (by simpa using hsz);simp only[af,ag,aAR,aBf,Gj,aT,h3,h4];refine⟨F',oV.trans h6 (by simp),by simpa using h5,fun b hb=> ?_,fun e=>absurd e hv⟩;obtain⟨h8,h9⟩:=h7 b hb;refine⟨?_,h9⟩;simp only[aCg,vg]at h8;omega
theorem vL {st:St}{X:List Nat}{v:CV}{s:List UInt8}(h:Sl st X v 1 (ai s))(hs:s.length<=1000000000):R 113 [v] st (oR 1 5 v (ai s) st):=by
 refine bO ?_;rw[ahZ];exact DE 1 h (by omega) (rn s) (by simp;omega)
theorem agf {st:St}{X:List Nat}{v:CV}{L:List CV}(h:Sl st X v 1 L)(ho:aX L=true)(hs:L.length<=1000000000):R 64 [v] st (oR 1 4 v L st):=by
 refine bO ?_;rw[w64];exact DE 1 h (by omega) ho (by omega)
theorem sO {st:St}{X:List Nat}{v:CV}{L:List CV}(h:Sl st X v 4 L)(ho:aX L=true)(hs:L.length<=1000000000):R 50 [v] st (oR 4 109 v L st):=by
 refine bO ?_;rw[w50];exact DE 48 h (by omega) ho (by omega)
theorem zL {st:St}{X:List Nat}{v:CV}{L:List CV}(h:Sl st X v 1 L)(ho:aX L=true)(hs:L.length<=1000000000):R 106 [v] st (oR 1 3 v L st):=by
 refine bO ?_;rw[aih];exact DE 8 h (by omega) ho (by omega)
abbrev jk:=List UInt8
abbrev qO:=Nat×jk
structure aV where
 ay:List jk
 waits:List qO
 done:Int
 dead:Bool
 set:Bool
 left:Int
 keep:List Bool
def E4:List qO->Int->Option Nat
 |[],_=>none
 |w::r,i=>if i=w.1 then some r.length else E4 r i
def nz (l:List qO)(i:Int):Option Nat:=E4 l.reverse i
theorem ug (i:Int):nz [] i=none:=rfl
theorem wZ (l:List qO)(w:qO)(i:Int):nz (l++[w]) i=if i=w.1 then some l.length else nz l i:=by simp[nz,E4]
theorem Oh {l:List qO}{i:Int}{k:Nat}(h:E4 l i=some k):k<l.length:=by
 induction l with
 |nil=>cases h
 |cons w r ih=>
  simp only[E4]at h
  split at h
  ·cases h;simp
  ·have:=ih h;simp;omega
theorem wq {l:List qO}{i:Int}{k:Nat}(h:nz l i=some k):k<l.length:=by simpa using Oh h
def aV.cur (D:aV)(i:Nat):jk:=match nz D.waits i with|some k=>(D.waits.getD k (0,[])).2|none=>D.ay.getD i []
def gZ (kept:Nat->Bool):Nat->List jk->List qO->List jk
 |_,L,[]=>L
 |i,L,w::r=>gZ kept (i+1) (if kept i=true then L.set w.1 w.2 else L) r
theorem rf (kept:Nat->Bool)(i:Nat)(L:List jk)(W:List qO):(gZ kept i L W).length=L.length:=by
 induction W generalizing i L with
 |nil=>rfl
 |cons w r ih=>simp only[gZ];rw[ih];split<;>simp
def aV.settle (D:aV)(kept:Nat->Bool):aV:={D with ay:=gZ kept 0 D.ay D.waits,waits:=[]}
def zc (l:List Bool)(i:Nat):Bool:=l.getD i false
def aV.JU (D:aV)(keep:List Bool):aV:={D.settle (zc keep)with dead:=true}
def aV.tick (D:aV):aV:={D with left:=IntKind.i64.wrap (D.left-1),done:=IntKind.i64.wrap (D.done+1)}
def aV.out (D:aV):Prop:=D.set=true/\D.left=0
instance (D:aV):Decidable D.out:=by unfold aV.out;infer_instance
def aV.write (D:aV)(i:Int)(b:jk):Int×aV:=
 if D.dead=true then (20,D)else if i<0\/(D.ay.length:Int)<=i\/b.length≠512 then (1,D)
 else if D.out then (20,{D with waits:=D.waits++[(i.toNat,b)]}.JU D.keep)else (0,{D with waits:=D.waits++[(i.toNat,b)]}.tick)
def aV.flush (D:aV):Int×aV:=if D.dead=true then (20,D)else if D.out then (20,D.JU D.keep)else (0,(D.tick).settle fun _=>true)
def aV.read (D:aV)(i:Int):Int×jk:=if D.dead=true then (20,[])else if i<0\/(D.ay.length:Int)<=i then (1,[])else (0,D.cur i.toNat)
def pT (l:List jk):List CV:=(l.map ai).flatten
def tU (w:qO):List CV:=I w.1::ai w.2
def gQ (l:List qO):List CV:=(l.map tU).flatten
structure gJ (st:St)(a:Nat)(F:List Nat)(D:aV)(vl vw vk:CV)(bl bm:Nat)(Fw Fk:List Nat):Prop where
 eq:F=a::bl::bm::(Fw++Fk)
 nd:F.Nodup
 lt:∀b∈F,b<st.next
 main:st.mem.get a=some (.cells [vl,vw, .map bm,I D.done, .bool D.dead, .bool D.set,I D.left,vk] 137 false)
 ay:Row st vl 512 D.ay.length (pT D.ay) bl
 waits:Own st vw 513 195 (gQ D.waits) Fw
 now:∃m,c8 st bm m/\∀i,iS m i=(nz D.waits i).map fun k:Nat=>I (Int.ofNat k)
 keep:Own st vk 1 4 (D.keep.map .bool) Fk
 Av:∀s∈D.ay,s.length=512
 xA:∀w∈D.waits,w.2.length=512/\w.1<D.ay.length
 size:D.ay.length<=65536
def dt (st:St)(a:Nat)(F:List Nat)(D:aV):Prop:=∃vl vw vk bl bm Fw Fk,gJ st a F D vl vw vk bl bm Fw Fk
theorem Cs {l:List jk}(h:∀s∈l,s.length=512):∀x∈l.map ai,x.length=512:=by
 intro x hx;obtain⟨s,hs,rfl⟩:=aBv.1 hx;simpa using h s hs
theorem qV {l:List qO}{n:Nat}(h:∀w∈l,w.2.length=512/\w.1<n):∀x∈l.map tU,x.length=513:=by
 intro x hx;obtain⟨s,hs,rfl⟩:=aBv.1 hx;simpa[tU]using (h s hs).1
section
variable {st st':St} {a:Nat} {F:List Nat} {D D':aV} {vl vw vk:CV} {bl bm:Nat} {Fw Fk:List Nat}
theorem gJ.mono (h:gJ st a F D vl vw vk bl bm Fw Fk)(hn:st.next<=st'.next)(hk:∀b∈F,st'.mem.get b=st.mem.get b):gJ st' a F D vl vw vk bl bm Fw Fk:=by
 have hF:∀b,b=a\/b=bl\/b=bm\/b∈Fw\/b∈Fk->st'.mem.get b=st.mem.get b:=fun b hb=>hk b (by rw[h.eq];simpa using hb);obtain⟨m,h1,h2⟩:=h.now
 exact⟨h.eq,h.nd,fun b hb=>aBs (h.lt b hb) hn,by rw[hF a (.inl rfl)];exact h.main,h.ay.mono (hF bl (.inr (.inl rfl))),h.waits.mono fun b hb=>hF b (.inr (.inr (.inr (.inl hb)))),
  ⟨m,h1.mono (hF bm (.inr (.inr (.inl rfl)))),h2⟩,h.keep.mono fun b hb=>hF b (.inr (.inr (.inr (.inr hb)))),h.Av,h.xA,h.size⟩
theorem dt.keep {X:List Nat}(h:dt st a F D)(hk:Kp X st st')(hx:∀b∈F,b∉X):dt st' a F D:=by
 obtain⟨vl,vw,vk,bl,bm,Fw,Fk,h⟩:=h;exact⟨vl,vw,vk,bl,bm,Fw,Fk,h.mono hk.next fun b hb=>hk.keep b (h.lt b hb) (hx b hb)⟩
theorem dt.lt (h:dt st a F D):∀b∈F,b<st.next:=by obtain⟨vl,vw,vk,bl,bm,Fw,Fk,h⟩:=h;exact h.lt
theorem gJ.mem (h:gJ st a F D vl vw vk bl bm Fw Fk):a∈F:=by rw[h.eq];simp
theorem gJ.apart (h:gJ st a F D vl vw vk bl bm Fw Fk):(a≠bl/\a≠bm/\a∉Fw/\a∉Fk)/\(bl≠bm/\bl∉Fw/\bl∉Fk)/\(bm∉Fw/\bm∉Fk)/\Fw.Nodup/\Fk.Nodup/\∀b∈Fw,b∉Fk:=by
 have nd:=h.nd;rw[h.eq]at nd;simp only[aBi,aAX,aBe,aCr,aBP]at nd;obtain⟨⟨n1,n2,n3,n4⟩,⟨n5,n6,n7⟩,⟨n8,n9⟩,QC,R9,Od⟩:=nd;exact⟨⟨n1,n2,n3,n4⟩,⟨n5,n6,n7⟩,⟨n8,n9⟩,QC,R9,fun b h1 h2=>Od b h1 b h2 rfl⟩
theorem gJ.aaj (h:gJ st a F D vl vw vk bl bm Fw Fk)(e1:D'.ay=D.ay)(e2:D'.waits=D.waits)(e3:D'.keep=D.keep)
 (hn:st.next<=st'.next) (hm:st'.mem.get a=some (.cells [vl,vw, .map bm,I D'.done, .bool D'.dead, .bool D'.set,I D'.left,vk] 137 false)) (hk:∀b∈F,b≠a->st'.mem.get b=st.mem.get b):gJ st' a F D' vl vw vk bl bm Fw Fk:=by
 obtain⟨⟨n1,n2,n3,n4⟩,_⟩:=h.apart;have hF:∀b,b=bl\/b=bm\/b∈Fw\/b∈Fk->b∈F:=fun b hb=>by rw[h.eq];simp only[aAX,aBe];exact .inr hb
 have kp:∀b,b=bl\/b=bm\/b∈Fw\/b∈Fk->st'.mem.get b=st.mem.get b:=fun b hb=>hk b (hF b hb) (by
  intro e;subst e;rcases hb with e|e|e|e
  ·exact n1 e
  ·exact n2 e
  ·exact n3 e
  ·exact n4 e)
 obtain⟨m,h1,h2⟩:=h.now
 exact⟨h.eq,h.nd,fun b hb=>aBs (h.lt b hb) hn,hm,by rw[e1];exact h.ay.mono (kp bl (.inl rfl)),by rw[e2];exact h.waits.mono fun b hb=>kp b (.inr (.inr (.inl hb))),
  ⟨m,h1.mono (kp bm (.inr (.inl rfl))),by rw[e2];exact h2⟩,by rw[e3];exact h.keep.mono fun b hb=>kp b (.inr (.inr (.inr hb))),
  by rw[e1];exact h.Av,by rw[e1,e2];exact h.xA,by rw[e1];exact h.size⟩
theorem zU (h:dt st a F D):R 63 [.ptr a 0] st fun v st'=>v=I (if D.dead=true then 20 else 0)/\st'=st:=by
 obtain⟨vl,vw,vk,bl,bm,Fw,Fk,h⟩:=h;refine bO ?_;rw[w63];simp[fH,h.main]
theorem wo (h:dt st a F D):R 18 [.ptr a 0] st fun v st'=>v=I D.ay.length/\st'=st:=by
 obtain⟨vl,vw,vk,bl,bm,Fw,Fk,h⟩:=h;obtain⟨t,g,gr,hv,h1,h2,h3⟩:=h.ay;refine bO ?_;rw[w18];subst hv;simp[fH,h.main]
theorem Tq (h:dt st a F D):R 20 [.ptr a 0] st fun v st'=>v= .bool D.dead/\st'=st:=by
 obtain⟨vl,vw,vk,bl,bm,Fw,Fk,h⟩:=h;refine bO ?_;rw[w20];simp[ki,h.main]
theorem Gi (h:gJ st a F D vl vw vk bl bm Fw Fk):
 R 134 [.ptr a 0] st fun v st'=>if D.out then v= .bool true/\st'=st else v= .bool false/\Kp F st st'/\st'.next=st.next/\gJ st' a F D.tick vl vw vk bl bm Fw Fk:=by
 refine bO ?_;rw[ahK]
 by_cases h1:D.set=true<;>by_cases h2:D.left=0<;>
  simp[fH,zA,rJ,Ar,nV,h.main,bt,dO,cI,uY,mh,AU,iH,andThen,gX,h1,h2,aV.out]
 all_goals exact⟨(Kp.refl F st).set _ (.inl h.mem) (h.lt a h.mem),h.aaj rfl rfl rfl (aAU _) (by simp[h1,h2,aV.tick]) fun b hb gT=>ak _ _ _ _ gT⟩
end
section
variable {st st':St} {a:Nat} {F:List Nat} {D D':aV} {vl vw vk:CV} {bl bm:Nat} {Fw Fk:List Nat}
theorem yd {α:Type}{l:List α}{i:Nat}(h:i<l.length)(d:α):l.getD i d=l[i]:=by simp[List.getD,h]
theorem Tr (h:gJ st a F D vl vw vk bl bm Fw Fk){i:Nat}(hi:i<D.ay.length):(D.cur i).length=512:=by
 unfold aV.cur;cases hx:nz D.waits i with
 |none=>
  show(D.ay.getD i []).length=_;rw[yd hi];exact h.Av _ (aBq ..)
 |some k=>
  have:=wq hx;show((D.waits.getD k (0,[])).2).length=_;rw[yd this];exact(h.xA _ (aBq ..)).1
theorem bE (s:jk):aX (ai s)=true:=rn s
theorem dV (l t:List CV)(h:t.length=l.length):bt l 0 t=t:=by
 unfold bt;rw[aCI,aBw,aBC (by omega),aBQ]
theorem Row.yV {v:CV}{k n b:Nat}{L:List (List CV)}(h:Row st v k n L.flatten b)(hw:∀x∈L,x.length=k)(hL:L.length=n){i:Nat}(hi:i<n)(Q:CV->Prop)(hq:Q (.agg L[i])):Lim.jG k k v (I i) st Q:=by
 obtain⟨t,g,gr,rfl,h1,h2,h3⟩:=h;unfold Lim.jG;rw[gu hi (.inr (aAU _))];simp only[af,qX,h3,ar,vd,aAT];rw[rK hw i (by omega)]
 exact⟨by rw[h2];calc i*k+k=(i+1)*k:=by rw[aBZ,aDa]
  _<=n*k:=aBM k hi,hq⟩
theorem Own.row {v:CV}{k e:Nat}{L:List CV}{F:List Nat}(h:Own st v k e L F)(hL:0<L.length):∃b n,F=[b]/\Row st v k n L b/\v= .slice b 0 n n k/\L.length=n*k/\st.mem.get b=some (.cells L e true):=by
 rcases h with⟨rfl,rfl,rfl⟩|⟨b,l,t,g,rfl,rfl,rfl,h4⟩|⟨b,m,rfl,h2,h3,rfl,h5⟩
 ·simp at hL
 ·simp at hL
 ·exact⟨b,m,rfl,⟨e,true,k,rfl, .inr rfl,h3,h5⟩,rfl,h3,h5⟩
theorem si (h:gJ st a F D vl vw vk bl bm Fw Fk)(hw:0<D.waits.length):∃b,Fw=[b]/\vw= .slice b 0 D.waits.length D.waits.length 513/\st.mem.get b=some (.cells (gQ D.waits) 195 true):=by
 have hl:(gQ D.waits).length=D.waits.length*513:=by
  unfold gQ;rw[fA (qV h.xA)];simp
 obtain⟨b,n,h1,h2,h3,h4,h5⟩:=h.waits.row (by omega);have:n=D.waits.length:=by omega
 subst this;exact⟨b,h1,h3,h5⟩
def Got (s:jk)(st:St)(v:CV)(st':St):Prop:=Kp [] st st'/\s.length=512/\∃b,v= .tuple [.slice b 0 512 512 1,I 0]/\st'.mem.get b=some (.cells (ai s) 5 true)/\st.next<=b/\b<st'.next
theorem xU (h:dt st a F D)(i:Int):R 67 [.ptr a 0,I i] st fun v st'=>if (D.read i).1=0 then Got (D.read i).2 st v st' else v= .tuple [.ae,I (D.read i).1]/\st'=st:=by
 have h0:=h;obtain⟨vl,vw,vk,bl,bm,Fw,Fk,h⟩:=h;refine bO ?_;rw[w67];refine(zU h0).mono ?_;rintro _ _ ⟨rfl,rfl⟩;rename_i s1;unfold aV.read
 by_cases hd:D.dead=true
 ·simp[hd,Kp.refl]
 ·obtain⟨t,g,gr,hv,h1,h2,h3⟩:=h.ay;have hlen:∀s:St,bo .slice vl s= .ok (I D.ay.length) s:=by intro s;subst hv;rfl
  by_cases UN:i<0
  ·simp[hd,UN,ki,h.main,Kp.refl]
  ·by_cases FC:(D.ay.length:Int)<=i
   ·simp[hd,UN,FC,ki,h.main,Kp.refl,hlen]
   ·obtain⟨n,rfl⟩:∃n:Nat,i=n:=⟨i.toNat,by omega⟩;have hn:n<D.ay.length:=by omega
    have gw:=h.ay;have tk:bl<s1.next:=h.lt bl (by rw[h.eq];simp);have ha:a<s1.next:=h.lt a h.mem;have ZE:bm<s1.next:=h.lt bm (by rw[h.eq];simp);have oF:=Tr h hn;obtain⟨m,Fl,QN⟩:=h.now
    have fin:∀tX:St,Kp [] s1 tX->s1.next<tX.next->tX.mem.get s1.next=some (.cells (ai (D.cur n)) 142 false)->
     us (bP 512 1 (.ptr s1.next 0) none none tX) fun eR=>R 113 [eR] tX fun eM s5=>Got (D.cur n) s1 (.tuple [eM,I 0]) s5:=by
     intro tX hk hb hg;have e:bP 512 1 (.ptr s1.next 0) none none tX= .ok (.slice s1.next 0 512 512 0) tX:=rfl;rw[e,af];have kN:Sl tX [] (.slice s1.next 0 512 512 0) 1 (ai (D.cur n)):= .inr ⟨s1.next,0,512,512,0,rfl,by simp[oF],⟨aAU _, .inl rfl⟩, .inr ⟨by simp,hb,_,142,false,hg,by simp[oF],by rw[aBx,aBa (by simp[oF])]⟩⟩;refine(vL kN (by omega)).mono ?_;rintro x YZ ⟨F',k1,k2,k3,k4⟩;refine⟨hk.trans k1 (by simp),oF, ?_⟩;obtain⟨b,n',q1,q2,q3,q4,q5⟩:=k2.row (by simp[oF]);have:n'=512:=by simp[oF]at q4;omega
     subst this;exact⟨b,by rw[q3],q5,aCq hk.next (k3 b (by simp[q1])).1,(k3 b (by simp[q1])).2⟩
    simp[hd,UN,ki,fH,h.main,hlen,Int.not_le.mpr (show(n:Int)<D.ay.length by omega)];refine gw.yV (L:=D.ay.map ai) (Cs h.Av) (by simp) hn _ ?_;have hma:(St.new s1 (.cells (zr 512) 142 false)).mem.get a=_:=(aW _ _ _ ha).trans h.main;have qM:(ai (D.ay[n])).length=512:=by simpa using h.Av _ (aBq ..)
    have ha':a≠s1.next:=by omega
    have Dm:(St.set (St.new s1 (.cells (zr 512) 142 false)) s1.next (.cells (bt (zr 512) 0 (ai D.ay[n])) 142 false)).mem.get bm=s1.mem.get bm:=by rw[ak _ _ _ _ (by omega),aW _ _ _ ZE]
    have zp:=(IsMap.lookup (.inl Fl) (.int .i64 0) true n _ Dm);rw[aBb rfl,QN]at zp;simp[aU,qM,bE,ak _ _ _ _ ha',hma,zp];have hkA:∀blk,Kp [] s1 (St.set (St.new s1 (.cells (zr 512) 142 false)) s1.next blk):=fun blk=>((Kp.refl [] s1).new _).set blk (.inr (aAU _)) (by simp);have hz:(zr 512).length=512:=aBz;cases hx:nz D.waits n with
    |none=>
     simp;refine fin _ (hkA _) (by simp) ?_;rw[ao,dV _ _ (by rw[qM,hz])];have e:D.cur n=D.ay[n]:=by unfold aV.cur;rw[hx];exact yd hn _
     rw[e]
    |some k=>
     have hk:=wq hx;obtain⟨bw,Oy,Jn,QG⟩:=si h (by omega);have hbw:bw<s1.next:=h.lt bw (by rw[h.eq,Oy];simp);have WE:(ai (D.waits[k]).2).length=512:=by simpa using (h.xA _ (aBq ..)).1
     have te:(((gQ D.waits).drop (k*513+1)).take 512)=ai (D.waits[k]).2:=by
      unfold gQ;rw[PB (qV h.xA) k (by simpa using hk) 1 512 (by omega)];simp only[List.getElem_map,tU,List.drop_succ_cons,aBx];rw[aBa (by omega)]
     have hwL:k*513+1+512<=(gQ D.waits).length:=by
      unfold gQ;rw[fA (qV h.xA)];simp;omega
     simp[Up,Jn,gu hk (.inr (aAU _)),ak _ _ _ _ (show bw≠s1.next by omega),aW _ _ _ hbw,QG,te,hwL,WE,bE];refine⟨by omega,fin _ (hkA _) (by simp) ?_⟩;rw[ao,dV _ _ (by rw[lX _ _ _ (by omega),WE,hz])];have e:D.cur n=(D.waits[k]).2:=by unfold aV.cur;rw[hx];exact congrArg Prod.snd (yd hk _)
     rw[e]
end
section
variable {st st':St} {a:Nat} {F:List Nat} {D D':aV} {vl vw vk:CV} {bl bm:Nat} {Fw Fk:List Nat}
def aeR (st:St)(F:List Nat)(f:CV)(n:Nat)(kept:Nat->Bool):Prop:=∀i<n,∀s,Kp F st s->∀Q:CV->St->Prop,Q (.bool (kept i)) s->fD R f [I i] s Q
def TB (a:Nat)(F:List Nat)(st:St)(D:aV)(v:CV)(st':St):Prop:=v= .undef/\Kp F st st'/\∃F',dt st' a F' D/\(∀b∈F',b∈F\/st.next<=b)
theorem Ba {f:CV}{kept:Nat->Bool}(h:gJ st a F D vl vw vk bl bm Fw Fk)(hw:D.waits.length<=1000000000)(hf:aeR st [a,bl] f D.waits.length kept):R 111 [.ptr a 0,f] st (TB a F st (D.settle kept)):=by
 refine bO ?_;rw[aib]
 have WE:∀s:St,bo .slice vw s= .ok (I D.waits.length) s:=by
  intro s
  by_cases h0:0<D.waits.length
  ·obtain⟨b,h1,h2,h3⟩:=si h h0;subst h2;rfl
  ·have e:gQ D.waits=[]:=by
    have:D.waits=[]:=aBn.1 (by omega);rw[this];rfl
   have e2:D.waits.length=0:=by omega
   rcases h.waits with⟨rfl,_⟩|⟨b,l,t,g,rfl,_⟩|⟨b,n,rfl,h2,h3,_⟩
   ·rw[e2];rfl
   ·rw[e2];rfl
   ·rw[e]at h3;simp at h3;omega
 simp[fH,h.main,WE];refine bM (fun n vs s=>∃i L,i+n=D.waits.length/\vs=[.ptr a 0,f,vw,I D.waits.length,I i]/\Kp [a,bl] st s/\gJ s a F {D with ay:=L} vl vw vk bl bm Fw Fk/\L.length=D.ay.length/\gZ kept i L (D.waits.drop i)=(D.settle kept).ay) ?_ (n:=D.waits.length) ⟨0,D.ay,by simp,rfl,Kp.refl _ _,h,rfl,by simp[aV.settle]⟩;rintro n vs s k ⟨i,L,hi,rfl,hk,hd,hL,hs⟩ next;obtain⟨⟨n1,n2,n3,n4⟩,⟨n5,n6,n7⟩,⟨n8,n9⟩,QC,R9,Od⟩:=hd.apart
 have jx:∀b,b=a\/b=bl\/b=bm\/b∈Fw\/b∈Fk->b∈F/\b<s.next:=fun b hb=>by
  have:b∈F:=by rw[h.eq];simpa using hb
  exact⟨this,hd.lt b this⟩
 by_cases hc:i<D.waits.length
 ·have fw:(i:Int)<D.waits.length:=by omega
  obtain⟨bw,Oy,Jn,QG⟩:=si hd (by simpa using Nat.lt_of_le_of_lt (aDD _) hc);simp at Jn QG;have hbw:=jx bw (by simp[Oy]);have hWw:=qV hd.xA
  have gw:((gQ D.waits).drop (i*513)).take 513=tU D.waits[i]:=by
   unfold gQ;rw[rK hWw i (by simpa using hc)];simp
  have OU:i*513+513<=(gQ D.waits).length:=by unfold gQ;rw[fA hWw];simp;omega
  have hwi:=hd.xA _ (aBq (l:=D.waits) hc);have uA:(tU D.waits[i]).length=513:=by simp[tU,hwi.1]
  have jS:aX (tU D.waits[i])=true:=by simp[tU,bE]
  have hz:([CV.int .i64 0]++zr 512).length=513:=by simp
  have wr:IntKind.i64.wrap ((i:Int)+1)=((i+1:Nat):Int):=by rw[bD (by omega)];omega
  simp[fw,jG,Jn,gu hc (.inr (aAU _)),QG,gw,OU,uA,jS];rw[dV _ _ (by rw[uA];simp)];refine⟨by omega,hf i hc _ ((hk.new _).set _ (.inr hk.next) (by simp)) _ ?_⟩;have hma:=hd.main;have ha:=jx a (.inl rfl);have tk:=jx bl (.inr (.inl rfl));obtain⟨t,g,gr,hv,e1,e2,e3⟩:=hd.ay;simp at hv;have abz:(D.waits[i]).1<L.length:=hwi.2;have GN:Kp [a,bl] st (St.set (St.new s (.cells (CV.int .i64 0::zr 512) 195 false)) s.next (.cells (tU D.waits[i]) 195 false)):=(hk.new _).set _ (.inr hk.next) (by simp)
  have GR:gJ (St.set (St.new s (.cells (CV.int .i64 0::zr 512) 195 false)) s.next (.cells (tU D.waits[i]) 195 false)) a F {D with ay:=L} vl vw vk bl bm Fw Fk:=hd.mono (by simp) fun b hb=>by
   have:=hd.lt b hb;rw[ak _ _ _ _ (by omega),aW _ _ _ this]
  have amo:=(show bl∈F/\bl<_ from⟨tk.1,GR.lt bl tk.1⟩);have O3:D.waits.drop i=D.waits[i]::D.waits.drop (i+1):=aBj hc;rw[O3]at hs;simp only[gZ]at hs;cases Dn:kept i with
  |false=>
   rw[Dn]at hs;simp[wr];exact next (n-1) _ _ (by omega) ⟨i+1,L,by omega,by simp[Jn],GN,GR,hL,by simpa using hs⟩
  |true=>
   rw[Dn]at hs;have JH:(ai (D.waits[i]).2).length=512:=by simpa using hwi.1
   have hLw:=Cs (l:=L) hd.Av;have UJ:(D.waits[i]).1*512+512<=(pT L).length:=by unfold pT;rw[fA hLw];simp;omega
   have hw0:∀h:0<(tU (D.waits[i]'hc)).length,(tU (D.waits[i]'hc))[0]'h=I (D.waits[i]'hc).1:=fun _=>rfl
   have WG:List.take 512 (tU D.waits[i]).tail=ai (D.waits[i]).2:=by
    show List.take 512 (ai (D.waits[i]).2)=_;rw[aBa (by omega)]
   have QN:=GR.main;have GJ:=GR.ay;obtain⟨t',g',gr',yc,e1',e2',e3'⟩:=GJ;simp only at e3';simp[QN,hw0,uA,WG,hv,gu abz (.inr (aAU _)),e3',UJ,JH,bE,wr];refine next (n-1) _ _ (by omega) ⟨i+1,L.set (D.waits[i]).1 (D.waits[i]).2,by omega,by simp[Jn],GN.set _ (.inl (by simp)) amo.2, ?_,by simpa using hL,by simpa using hs⟩
   have vq:bt (pT L) ((D.waits[i]).1*512) (ai (D.waits[i]).2)=pT (L.set (D.waits[i]).1 (D.waits[i]).2):=by
    unfold pT;rw[sJ hLw _ (by simpa using abz) _ JH,List.map_set]
   rw[vq];obtain⟨m,Fl,alb⟩:=GR.now;refine⟨GR.eq,GR.nd,GR.lt, ?_,⟨t',g',gr',by simpa using yc,e1', ?_,by simp⟩,GR.waits.mono fun b hb=>ak _ _ _ _ fun e=>n6 (e▸hb),⟨m,Fl.mono (ak _ _ _ _ (aBU n5)),alb⟩,GR.keep.mono fun b hb=>ak _ _ _ _ fun e=>n7 (e▸hb), ?_, ?_, ?_⟩
   ·rw[ak _ _ _ _ n1];exact GR.main
   ·have:∀x∈L.set (D.waits[i]).1 (D.waits[i]).2,x.length=512:=fun x hx=>by
     rcases aCR hx with hx|rfl
     ·exact hd.Av x hx
     ·exact hwi.1
    unfold pT;rw[fA (Cs this)];simp
   ·intro x hx;rcases aCR hx with hx|rfl
    ·exact hd.Av x hx
    ·exact hwi.1
   ·intro w hw;simpa using hd.xA w hw
   ·simpa using hd.size
 ·have fw:¬(i:Int)<D.waits.length:=by omega
  have ha:=jx a (.inl rfl);have hma:(St.new s (.map [] 0)).mem.get a=_:=(aW _ _ _ ha.2).trans hd.main;simp[fw,nV,hma,bt];have ur:i=D.waits.length:=by omega
  rw[ur,List.drop_length]at hs;simp only[gZ]at hs;have hkF:Kp F st (St.set (St.new s (.map [] 0)) a (.cells [vl, .ae, .map s.next,I D.done, .bool D.dead, .bool D.set,I D.left,vk] 137 false)):=((hk.mono (by simp only[aAX,aBF,aCA];rintro q (rfl|rfl);exact .inl ha.1;exact .inl (jx _ (by simp)).1)).new _).set _ (.inl ha.1) (by have:=ha.2;simp;omega);refine⟨rfl,hkF,a::bl::s.next::([]++Fk),⟨vl, .ae,vk,bl,s.next,[],Fk,rfl, ?_, ?_,by simp[aV.settle], ?_, .inl ⟨rfl,rfl,rfl⟩,⟨[], ?_,fun i=>rfl⟩, ?_, ?_,by simp[aV.settle], ?_⟩, ?_⟩
  ·have hF:∀b∈Fk,b≠s.next:=fun b hb=>Nat.ne_of_lt (jx b (by simp[hb])).2;simp only[aBi,aAX,aBw,aCr];exact⟨⟨n1,Nat.ne_of_lt ha.2,n4⟩,⟨Nat.ne_of_lt (jx bl (by simp)).2,n7⟩,fun h=>hF _ h rfl,R9⟩
  ·intro b hb;simp only[aAX,aBw]at hb;simp;rcases hb with rfl|rfl|rfl|hb
   ·omega
   ·have:=(jx b (by simp)).2;omega
   ·omega
   ·have:=(jx b (by simp[hb])).2;omega
  ·have:=hd.ay;have tD:L=gZ kept 0 D.ay D.waits:=hs;simp only[aV.settle,<-tD];exact this.mono ((ak _ _ _ _ (aBU n1)).trans (aW _ _ _ (jx bl (by simp)).2))
  ·refine(c8.new s).mono ?_;exact ak _ _ _ _ (by omega)
  ·refine hd.keep.mono fun b hb=> ?_;exact(ak _ _ _ _ (fun e:b=a=>n4 (e▸hb))).trans (aW _ _ _ (jx b (by simp[hb])).2)
  ·simp only[aV.settle]at hs⊢;rw[<-hs];exact hd.Av
  ·simp only[aV.settle,rf];exact h.size
  ·intro b hb;simp only[aAX,aBw]at hb;rcases hb with rfl|rfl|rfl|hb
   ·exact .inl ha.1
   ·exact .inl (jx b (by simp)).1
   ·exact .inr hk.next
   ·exact .inl (jx b (by simp[hb])).1
end
section
variable {st st':St} {a:Nat} {F:List Nat} {D D':aV} {vl vw vk:CV} {bl bm:Nat} {Fw Fk:List Nat}
abbrev Qc (l:List Bool):List CV:=l.map .bool
theorem Sl.bu {X:List Nat}{v:CV}{k:Nat}{L:List CV}(h:Sl st X v k L):v.isAny=false/\cq v=true/\v.cK=[v]:=by
 rcases h with⟨rfl,_⟩|⟨b,off,len,cap,grow,rfl,_⟩<;>exact⟨rfl,rfl,rfl⟩
theorem Sf {v:CV}{keep:List Bool}{b:Nat}(h:Sl st [] v 1 (Qc keep))(hb:st.mem.get b=some (.cells [v] 53 false))(i:Nat){Q:CV->St->Prop}(hq:Q (.bool (zc keep i)) st):R 112 [I i, .ptr b 0] st Q:=by
 refine bO ?_;rw[aia];have hl:=h.len keep.length (by simp) (by omega) st;simp only[az,hb,ar,aAQ,au,hl,af]
 by_cases hi:i<keep.length
 ·simp[hi,hb];have:zk (some true) 1 v (I i) st=Lim.idx 1 v (I i) st:=rfl;rw[this];refine h.idx (by simpa using hi) _ ?_
  simpa[zc,List.getD,hi]using hq
 ·simp[hi,hb,zk,cU]
  simpa[zc,List.getD,aBL (show keep.length<=i by omega)]using hq
def rX (a:Nat)(F:List Nat)(st:St)(D:aV)(st':St):Prop:=Kp F st st'/\∃F',dt st' a F' D/\(∀b∈F',b∈F\/st.next<=b)
theorem Gc (h:gJ st a F D vl vw vk bl bm Fw Fk){v:CV}{keep:List Bool}(hw:D.waits.length<=1000000000)(hv:Sl st [a,bl] v 1 (Qc keep)):R 65 [.ptr a 0,v] st fun _ st'=>rX a F st (D.JU keep) st':=by
 refine bO ?_;rw[w65];obtain⟨q1,q2,q3⟩:=hv.bu;have ha:=h.lt a h.mem;simp[q1];rw[q3];have oV:Kp [] st (St.new st (.cells [v] 53 false)):=(Kp.refl [] st).new _;have h1:gJ (St.new st (.cells [v] 53 false)) a F D vl vw vk bl bm Fw Fk:=h.mono oV.next fun b hb=>aW _ _ _ (h.lt b hb);refine(Ba h1 hw (kept:=zc keep) ?_).mono ?_
 ·intro i hi s hs Q hq;rw[dQ];refine Sf (v:=v) (keep:=keep) ?_ (b:=st.next) ?_ i hq
  ·exact((hv.mono (oV.mono (by simp))).mono hs).ef (by simp)
  ·rw[hs.keep _ (by simp) (by simp;exact⟨by omega,by have:=h.lt bl (by rw[h.eq];simp);omega⟩)];simp
 ·rintro _ s ⟨rfl,h2,F',h3,h4⟩;obtain⟨vl,vw,vk,bl,bm,Fw,Fk,h3⟩:=h3;have h4':∀b∈F',b∈F\/st.next<=b:=fun b hb=>(h4 b hb).imp id fun h=>aCq oV.next h;simp[nV,h3.main,bt];refine⟨((oV.mono (G:=F) (by simp)).trans h2 fun q hq=> .inl hq).set _ (.inl h.mem) (h3.lt a h3.mem),F',⟨vl,vw,vk,bl,bm,Fw,Fk,h3.aaj rfl rfl rfl (aAU _) ?_ fun b hb gT=>ak _ _ _ _ gT⟩,h4'⟩;simp[aV.JU,aV.settle]
theorem Jk (h:gJ st a F D vl vw vk bl bm Fw Fk):Sl st [a,bl] vk 1 (Qc D.keep):=h.keep.sl fun b hb=>by
 obtain⟨⟨n1,n2,n3,n4⟩,⟨n5,n6,n7⟩,_⟩:=h.apart;refine⟨?_,h.lt b (by rw[h.eq];simp[hb])⟩;simp only[aAX,aBF,aCA,aCr];exact⟨fun e=>n4 (e▸hb),fun e=>n7 (e▸hb)⟩
theorem vF (h:dt st a F D)(hw:D.waits.length<=1000000000):R 88 [.ptr a 0] st fun x st'=>x=I D.flush.1/\rX a F st D.flush.2 st':=by
 have h0:=h;obtain⟨vl,vw,vk,bl,bm,Fw,Fk,h⟩:=h;refine bO ?_;rw[w88];refine(zU h0).mono ?_;rintro _ _ ⟨rfl,rfl⟩;rename_i s1;unfold aV.flush
 by_cases hd:D.dead=true
 ·simp[hd];exact⟨Kp.refl _ _,F,h0,fun b hb=> .inl hb⟩
 ·simp[hd];refine(Gi h).mono ?_;intro v s2 hb
  by_cases ho:D.out
  ·rw[aBb ho]at hb;obtain⟨rfl,rfl⟩:=hb;simp[ho,fH,h.main];exact Gc h hw (Jk h)
  ·rw[aAZ ho]at hb;obtain⟨rfl,hk,hn,h2⟩:=hb;simp[ho];refine(Ba h2 (kept:=fun _=>true) hw ?_).mono ?_
   ·intro i hi s hs Q hq;rw[dQ];refine bO ?_;simp only[aBw,aBQ];rw[ahI];exact hq
   ·rintro _ s ⟨rfl,h3,F',h4,h5⟩;exact⟨hk.trans h3 fun q hq=> .inl hq,F',h4,fun b hb=>(h5 b hb).imp id fun h=>by omega⟩
end
section
variable {st st':St} {a:Nat} {F:List Nat} {D D':aV} {vl vw vk:CV} {bl bm:Nat} {Fw Fk:List Nat}
theorem uD (h:dt st a F D){i:Int}{v:CV}{s:jk}(jy:cT st)(hw:D.waits.length<100000000)(hv:Sl st F v 1 (ai s))(hs:s.length=512):R 86 [.ptr a 0,I i,v] st fun x st'=>x=I (D.write i s).1/\rX a F st (D.write i s).2 st':=by
 have h0:=h;obtain⟨vl,vw,vk,bl,bm,Fw,Fk,h⟩:=h;refine bO ?_;rw[w86];refine(zU h0).mono ?_;rintro _ _ ⟨rfl,rfl⟩;rename_i s1;unfold aV.write;have xg:rX a F s1 D s1:=⟨Kp.refl _ _,F,h0,fun b hb=> .inl hb⟩
 by_cases hd:D.dead=true
 ·simp[hd,xg]
 ·obtain⟨t,g,gr,Sm,h1,h2,h3⟩:=h.ay;have hlen:∀s:St,bo .slice vl s= .ok (I D.ay.length) s:=by intro s;subst Sm;rfl
  by_cases UN:i<0
  ·simp[hd,UN,xg,ki]
  ·by_cases FC:(D.ay.length:Int)<=i
   ·simp[hd,UN,FC,ki,h.main,hlen,xg]
   ·obtain⟨n,rfl⟩:∃n:Nat,i=n:=⟨i.toNat,by omega⟩;have hn:n<D.ay.length:=by omega
    obtain⟨bv,off,cap,grow,hvs⟩:∃bv off cap grow,v= .slice bv off 512 cap grow:=by
     rcases hv with⟨_,h⟩|⟨b,off,len,cap,grow,rfl,h2,_⟩
     ·have:=congrArg List.length h;simp[hs]at this
     ·have:len=512:=by simp[hs]at h2;omega
      subst this;exact⟨b,off,cap,grow,rfl⟩
    obtain⟨hvX,ajS,l,tv,gv,hvb,Uq,Jo⟩:bv∉F/\bv<s1.next/\∃l t g,s1.mem.get bv=some (.cells l t g)/\off+512<=l.length/\(l.drop off).take 512=ai s:=by
     rcases hv with⟨h,_⟩|⟨b,off,len,cap,grow,h,h2,h3,h4⟩
     ·rw[hvs]at h;cases h
     ·rw[hvs]at h;cases h;rcases h4 with h4|h4
      ·cases h4
      ·exact h4
    obtain⟨m,Fl,QN⟩:=h.now
    have OU:∀s:St,bo .slice vw s= .ok (I D.waits.length) s:=by
     intro s
     by_cases h0:0<D.waits.length
     ·obtain⟨b,h1,h2,h3⟩:=si h h0;subst h2;rfl
     ·have e:gQ D.waits=[]:=by
       have:D.waits=[]:=aBn.1 (by omega);rw[this];rfl
      have e2:D.waits.length=0:=by omega
      rcases h.waits with⟨rfl,_⟩|⟨b,l,t,g,rfl,_⟩|⟨b,n,rfl,h2,h3,_⟩
      ·rw[e2];rfl
      ·rw[e2];rfl
      ·rw[e]at h3;simp at h3;omega
    obtain⟨blk,Zm,Ur,QH⟩:=IsMap.update (.inl Fl) n (I D.waits.length);have ha:=h.lt a h.mem;have ZE:bm<s1.next:=h.lt bm (by rw[h.eq];simp);obtain⟨⟨n1,n2,n3,n4⟩,⟨n5,n6,n7⟩,⟨n8,n9⟩,QC,R9,Od⟩:=h.apart;have abD:bv≠bm:=fun e=>hvX (by rw[h.eq,e];simp);have hva:bv≠a:=fun e=>hvX (by rw[e];exact h.mem);have e1:(St.set s1 bm blk).mem.get a=s1.mem.get a:=ak _ _ _ _ n2;have e2:(St.set s1 bm blk).mem.get bv=s1.mem.get bv:=ak _ _ _ _ abD
    have ado:grow=0\/1<=cap/\512<=cap:=by
     rcases hv with⟨h,_⟩|⟨b,off,len,cap,grow,h,h2,h3,h4⟩
     ·rw[hvs]at h;cases h
     ·rw[hvs]at h;cases h;omega
    have Mf:(ai s).length=512:=by simpa using hs
    have iq:(St.skip (St.set s1 bm blk)).mem.get s1.next=none:=by
     rw[Ei,ak _ _ _ _ (by omega)];exact jy _ (aAU _)
    have zs:fY [(0,513, .agg (I n::ai s))] (cO 1 (I 0::zr 512))=some (I n::ai s):=by
     simp[cI,cO,bt,Mf]
    have mP:bJ (I 0::zr 512) [(0,1,I n),(1,512, .agg (ai s))] (St.skip (St.set s1 bm blk))= .ok (.agg (I n::ai s)) (St.skip (St.set s1 bm blk)):=by
     rw[dO];simp[cI,bt,Mf]
    have tG:=jb (e:=195) (n:=1) iq zs;simp[hd,UN,ki,fH,h.main,hlen,Int.not_le.mpr (show(n:Int)<D.ay.length by omega),hvs,OU,Zm,e1,e2,hvb,ow,Jo];refine⟨ado,Uq, ?_⟩;rw[mP,af,tG,aT];have jf:Kp (bm::Fw) s1 (St.set (St.skip (St.set s1 bm blk)) s1.next (.cells (I n::ai s) 195 false)):=(((Kp.refl _ s1).set _ (.inl (by simp)) ZE).skip).set _ (.inr (aAU _)) (by simp)
    have AL:dg .slice 513 (I 0::zr 512) (.slice s1.next 0 1 1 0) (St.set (St.skip (St.set s1 bm blk)) s1.next (.cells (I n::ai s) 195 false))=some (1,I n::ai s):=
     EI (ao _ _ _) (by omega) (by simp[hs])
    rw[AL]
    have hW3:Own (St.set (St.skip (St.set s1 bm blk)) s1.next (.cells (I n::ai s) 195 false)) vw 513 195 (gQ D.waits) Fw:=h.waits.mono fun b hb=>by
     have:b<s1.next:=h.lt b (by rw[h.eq];simp[hb]);exact(ak _ _ _ _ (by omega)).trans (ak _ _ _ _ (fun e:b=bm=>n8 (e▸hb)))
    obtain⟨v',s4,YW,Pf,DS,S0,ha4⟩:=hW3.append (n:=1) (bytes:=520) (T:=I n::ai s) (by omega) (by simp[hs]) (by simp[bE]) (fun b hb=>by
     have:b<s1.next:=h.lt b (by rw[h.eq];simp[hb]);simp;omega) (by
     have e:(gQ D.waits).length=D.waits.length*513:=by unfold gQ;rw[fA (qV h.xA)];simp
     rw[e];simp[hs];omega)
    rw[Pf,aT];obtain⟨o1,o2⟩:=DS.cq;have qK:Kp (bm::Fw) s1 s4:=jf.trans S0 fun q hq=> .inl (by simp[hq]);have hm4:s4.mem.get a=_:=(qK.keep a ha (by simp;exact⟨n2,n3⟩)).trans h.main;have Zx:=(jf.keep a ha (by simp;exact⟨n2,n3⟩)).trans h.main;have hb3:=(jf.keep bv ajS (by simp;exact⟨abD,fun e=>hvX (by rw[h.eq];simp[e])⟩)).trans hvb;simp[hm4,Zx,hb3,o1,o2,Uq,Jo,bt];have tf:D.dead=false:=by simpa using hd
    have ed:({ay:=D.ay,waits:=D.waits++[(n,s)],done:=D.done,dead:=false,set:=D.set,left:=D.left,keep:=D.keep}:aV)={D with waits:=D.waits++[(n,s)]}:=by rw[<-tf]
    rw[ed,aBb hs];have hF:∀b,b=a\/b=bl\/b=bm\/b∈Fw\/b∈Fk->b∈F:=fun b hb=>by rw[h.eq];simpa using hb
    have jx:∀b∈YW,(b∈Fw\/s1.next<=b):=fun b hb=>(ha4 b hb).1.imp id fun h=>by simp at h;omega
    have tH:=h.lt
    have hD1:gJ (St.set s4 a (.cells [vl,v', .map bm,I D.done, .bool D.dead, .bool D.set,I D.left,vk] 137 false)) a (a::bl::bm::(YW++Fk)) {D with waits:=D.waits++[(n,s)]} vl v' vk bl bm YW Fk:=by
     have gT:∀b∈Fk,b<s1.next:=fun b hb=>tH b (hF b (by simp[hb]));have SG:∀b∈F,b<s4.next:=fun b hb=>aBs (tH b hb) qK.next;have Dc:∀b,b≠a->(St.set s4 a (.cells [vl,v', .map bm,I D.done, .bool D.dead, .bool D.set,I D.left,vk] 137 false)).mem.get b=s4.mem.get b:=fun b hb=>ak _ _ _ _ hb;have OY:∀b∈F,b≠bm->b∉Fw->s4.mem.get b=s1.mem.get b:=fun b h1 h2 h3=>qK.keep b (tH b h1) (by simp;exact⟨h2,h3⟩);refine⟨rfl, ?_, ?_,by simp,h.ay.mono ?_, ?_,⟨_,(QH Fl).mono ?_, ?_⟩,h.keep.mono ?_,h.Av, ?_,h.size⟩
     ·have hFw:YW.Nodup:=by rcases DS with⟨_,_,rfl⟩|⟨_,_,_,_,_,_,rfl,_⟩|⟨_,_,_,_,_,rfl,_⟩<;>simp
      have nin:∀b,b∈F->b∉Fw->b∉YW:=fun b h1 h2 h3=>by
       rcases jx b h3 with h4|h4
       ·exact h2 h4
       ·have:=tH b h1;omega
      simp only[aBi,aAX,aBe,aCr,aBP];exact⟨⟨n1,n2,nin a h.mem n3,n4⟩,⟨n5,nin bl (hF _ (by simp)) n6,n7⟩,⟨nin bm (hF _ (by simp)) n8,n9⟩,hFw,R9,fun x hx y hy e=>nin y (hF y (by simp[hy])) (fun h=>Od y h hy) (e▸hx)⟩
     ·intro b hb;show b<s4.next;simp only[aAX,aBe]at hb;rcases hb with rfl|rfl|rfl|hb|hb
      ·exact SG _ h.mem
      ·exact SG _ (hF _ (by simp))
      ·exact SG _ (hF _ (by simp))
      ·exact(ha4 b hb).2
      ·exact SG _ (hF _ (by simp[hb]))
     ·exact(Dc _ (aBU n1)).trans (OY bl (hF _ (by simp)) n5 n6)
     ·have e:gQ (D.waits++[(n,s)])=gQ D.waits++(I n::ai s):=by simp[gQ,tU]
      show Own _ v' 513 195 (gQ (D.waits++[(n,s)])) YW;rw[e]
      exact DS.mono fun b hb=>Dc b fun e=>by
       rcases jx b hb with h4|h4
       ·exact n3 (e▸h4)
       ·omega
     ·rw[Dc _ (aBU n2),S0.keep bm (by simp;omega) n8,ak _ _ _ _ (by omega),Ei]
     ·intro i;show _=Option.map _ (nz (D.waits++[(n,s)]) i);rw[ER,wZ]
      split
      ·rfl
      ·exact QN i
     ·intro b hb;exact(Dc _ (fun e=>n4 (e▸hb))).trans (OY b (hF _ (by simp[hb])) (fun e=>n9 (e▸hb)) (fun h=>Od b h hb))
     ·intro w hw;rcases aBe.1 hw with hw|hw
      ·exact h.xA w hw
      ·simp only[aCg]at hw;subst hw;exact⟨hs,hn⟩
    have Fy:Kp F s1 (St.set s4 a (.cells [vl,v', .map bm,I D.done, .bool D.dead, .bool D.set,I D.left,vk] 137 false)):=(qK.mono fun q hq=> .inl (hF q (by simp at hq;rcases hq with rfl|hq<;>simp[*]))).set _ (.inl h.mem) (aBs ha qK.next)
    have xG:∀b∈a::bl::bm::(YW++Fk),b∈F\/s1.next<=b:=by
     intro b hb;simp only[aAX,aBe]at hb;rcases hb with rfl|rfl|rfl|hb|hb
     ·exact .inl h.mem
     ·exact .inl (hF _ (by simp))
     ·exact .inl (hF _ (by simp))
     ·exact(jx b hb).imp (fun h=>hF _ (by simp[h])) id
     ·exact .inl (hF _ (by simp[hb]))
    refine(Gi hD1).mono ?_;intro x s6 hb
    by_cases ho:D.out
    ·rw[aBb (show aV.out {D with waits:=D.waits++[(n,s)]}from ho)]at hb;obtain⟨rfl,rfl⟩:=hb;simp[ho];refine(Gc hD1 (by simp;omega) (Jk hD1)).mono ?_;rintro _ s7 ⟨h7,F',h8,h9⟩;exact⟨Fy.trans h7 xG,F',h8,fun b hb=>(h9 b hb).elim (xG b) fun h=> .inr (aCq Fy.next h)⟩
    ·rw[aAZ (show¬aV.out {D with waits:=D.waits++[(n,s)]}from ho)]at hb;obtain⟨rfl,hk,hn,h2⟩:=hb;simp[ho];exact⟨Fy.trans hk xG,_,⟨_,_,_,_,_,_,_,h2⟩,xG⟩
def nJ (L:List jk):aV:=⟨L,[],0,false,false,0,[]⟩
def Gy (L:List jk)(st:St)(v:CV)(st':St):Prop:=Kp [] st st'/\∃a F,v= .tuple [.ptr a 0,I 0]/\dt st' a F (nJ L)/\∀b∈F,st.next<=b
theorem Sa {s1:St}{x:CV}{L:List jk}{t:TypeId}{g:Bool}{gr b:Nat}(hk:Kp [] st s1)(hx:x= .slice b 0 L.length L.length gr)(hgr:gr=0\/gr=512)(hb:s1.mem.get b=some (.cells (pT L) t g))(JH:st.next<=b)(GS:b<s1.next)(hL:∀s∈L,s.length=512)(hn:L.length<=65536):
 Gy L st (.tuple [.ptr (s1.next+1) 0,I 0]) (St.new (St.new s1 (.map [] 0)) (.cells [x, .ae, .map s1.next,I 0, .bool false, .bool false,I 0, .ae] 137 false)):=by
 refine⟨(hk.new _).new _,s1.next+1,(s1.next+1)::b::s1.next::([]++[]),rfl,⟨x, .ae, .ae,b,s1.next,[],[],rfl, ?_, ?_, ?_,⟨t,g,gr,hx,hgr, ?_, ?_⟩, .inl ⟨rfl,rfl,rfl⟩,⟨[], ?_,fun i=>rfl⟩, .inl ⟨rfl,rfl,rfl⟩,hL, ?_,hn⟩, ?_⟩
 ·simp;omega
 ·intro q hq;simp at hq;simp;rcases hq with rfl|rfl|rfl<;>omega
 ·exact aq _ _
 ·show(pT L).length=_;unfold pT;rw[fA (Cs hL)];simp[nJ]
 ·show(St.new (St.new s1 _) _).mem.get b=_;rw[aW _ _ _ (by simp;omega),aW _ _ _ GS];exact hb
 ·refine(c8.new s1).mono ?_;rw[aW _ _ _ (by simp)]
 ·intro w hw;simp[nJ]at hw
 ·intro q hq;have:=hk.next;simp at hq;rcases hq with rfl|rfl|rfl<;>omega
def iN:jk:=List.replicate 512 0
theorem oW:iN.length=512:=aBz
theorem aay (n:Nat):cO n (zr 512)=pT (List.replicate n iN):=by
 unfold cO pT iN;rw[List.map_replicate]
 congr 2
theorem Oc {n:Nat}(h1:1<=n)(h2:n<=65536):R 29 [I n] st fun v st'=>Gy (List.replicate n iN) st v st':=by
 refine bO ?_;rw[w29];have e1:¬(n:Int)<1:=by omega
 have e2:¬(65536:Int)<n:=by omega
 simp[e1,e2,pk,dO,cI,bt];refine⟨by omega, ?_⟩;have hk:Kp [] st (St.new st (.cells (cO n (zr 512)) 142 false)):=(Kp.refl [] st).new _;refine Sa (x:= .slice st.next 0 n n 0) hk (by simp) (.inl rfl) (b:=st.next) (g:=false) (t:=142) ?_ (aAU _) (by simp) ?_ (by simpa using h2)
 ·rw[<-aay];exact aq st _
 ·intro s hs;rw[List.eq_of_mem_replicate hs];exact oW
end
theorem aaH (k:Nat)(h:k<256):jz .or .u8 (k:Int) 128=some ((k%128+128:Nat):Int):=by
 have:∀k:Fin 256,jz .or .u8 ((k.val:Nat):Int) 128=some ((k.val%128+128:Nat):Int):=by decide+kernel
 exact this ⟨k,h⟩
theorem MW (k:Nat):IntKind.u8.wrap (k:Int)=((k%256:Nat):Int):=by
 unfold IntKind.wrap;simp[IntKind.bits,IntKind.signed]
theorem sh (k:Nat)(h:k<18446744073709551616):IntKind.u64.wrap (k:Int)=(k:Int):=by
 unfold IntKind.wrap;simp[IntKind.bits,IntKind.signed];omega
theorem ji (k:Nat)(h:k<256):bN (UInt8.ofNat k)= .int .u8 (k:Int):=by
 unfold bN;have:(UInt8.ofNat k).toNat=k:=by simp;omega
 rw[this]
theorem NU (k:Nat)(h:k<256)(d:Option jL)(c:Bool)(st:St):aj .or d c (.int .u8 (k:Int)) (.int .u8 128) st= .ok (.int .u8 ((k%128+128:Nat):Int)) st:=by
 have:aj .or d c (.int .u8 (k:Int)) (.int .u8 128) st=(match jz .or .u8 (k:Int) 128 with|some r=> .ok (.int .u8 r) st|none=> .bad):=rfl;rw[this,aaH k h]
theorem KE (k:Nat)(d:Option jL)(c:Bool)(st:St):aj .shr d c (.int .u64 (k:Int)) (.int .u64 7) st= .ok (.int .u64 ((k/128:Nat):Int)) st:=by
 have:aj .shr d c (.int .u64 (k:Int)) (.int .u64 7) st= .ok (.int .u64 ((k:Int).fdiv 128)) st:=rfl;rw[this]
 congr 2
 rw[Int.fdiv_eq_ediv_of_nonneg _ (by omega)];omega
section
variable {st st':St}
theorem Made.of {k e:Nat}{L:List CV}{x:CV}{F:List Nat}(h1:Kp [] st st')(h2:Own st' x k e L F)(h3:∀b∈F,st.next<=b/\b<st'.next):Made k e L st x st':=⟨F,h1,h2,h3⟩
theorem oR.made {k e:Nat}{L:List CV}{v x:CV}(h:oR k e v L st x st'):Made k e L st x st':=by obtain⟨F,h1,h2,h3,_⟩:=h;exact⟨F,h1,h2,h3⟩
theorem bH (a b:List UInt8):ai (a++b)=ai a++ai b:=by simp[ai]
theorem GZ {X:List Nat}{v:CV}{b:List UInt8}{n:Nat}(h:Sl st X v 1 (ai b))(hb:b.length<=1000000)(hn:n<=2147483647):R 166 [v, .int .u64 n] st (Made 1 5 (ai (b++uv n)) st):=by
 refine bO ?_;rw[ahk];simp only[db,aK,aL];refine(vL h (by omega)).mono ?_;intro x s1 hc;obtain⟨F0,c1,c2,c3⟩:=hc.made;have key:∀m k,k<=m->k<=2147483647->(uv k).length<=5:=fun m k _ h=>(jC k h).2;refine bM (fun m vs s=>∃u:Nat,∃x F pre,m=u/\vs=[.int .u64 u,x]/\pre++uv u=uv n/\Kp [] st s/\Own s x 1 5 (ai (b++pre)) F/\∀q∈F,st.next<=q/\q<s.next) ?_ (n:=n) ⟨n,x,F0,[],rfl,rfl,rfl,c1,by simpa using c2,c3⟩;rintro m vs s k ⟨u,x,F,pre,hm,rfl,hp,hk,ho,hF⟩ next;have Dm:=hm;clear hm;subst Dm;have WJ:∃u,u=m:=⟨m,rfl⟩;obtain⟨u,WJ⟩:=WJ;subst WJ;have aqf:pre.length<=5:=by have:=congrArg List.length hp;have h5:=(jC n hn).2;rw[aAY]at this;omega
 have hz:([CV.int .u8 0]:List CV).length=1:=rfl
 by_cases hu:127<u
 ·have hu':(127:Int)<u:=by omega
  simp only[aK,aL,av,dj,af,ag,hu',aBV,aBr]
  have e1:dB (.toInt .u8) (.int .u64 u) s= .ok (.int .u8 ((u%256:Nat):Int)) s:=by
   show OR.ok (.int .u8 (IntKind.u8.wrap u)) s=_;rw[MW]
  rw[e1,af,NU _ (by omega),af];refine YE 1 ho (by omega) (fun q hq=>(hF q hq).2) hz rfl rfl rfl (by simp;omega) ?_;intro v' s' F' h1 h2 h3;have esh:=KE u none true s';rw[av]at esh;rw[esh,af];refine next (u/128) _ _ (by omega) ⟨u/128,v',F',pre++[UInt8.ofNat (u%128+128)],rfl,rfl, ?_,hk.trans h2 fun q hq=> .inr (hF q hq).1, ?_,fun q hq=> ?_⟩
  ·rw[<-hp,iv hu];simp
  ·have:ai (b++(pre++[UInt8.ofNat (u%128+128)]))=ai (b++pre)++(CV.int .u8 ((u%256%128+128:Nat):Int)).cK:=by
    rw[<-aBE,bH (b++pre)]
    congr 1
    show [bN _]=[_];rw[ji _ (by omega)]
    congr 3;omega
   rw[this];exact h1
  ·obtain⟨h4,h5⟩:=h3 q hq;exact⟨h4.elim (fun h=>(hF q h).1) (fun h=>aCq hk.next h),h5⟩
 ·have hu':¬(127:Int)<u:=by omega
  simp only[aK,aL,av,dj,af,ag,hu',aCy,aAR,aBf]
  have e1:dB (.toInt .u8) (.int .u64 u) s= .ok (.int .u8 ((u%256:Nat):Int)) s:=by
   show OR.ok (.int .u8 (IntKind.u8.wrap u)) s=_;rw[MW]
  rw[e1,af];refine YE 1 ho (by omega) (fun q hq=>(hF q hq).2) hz rfl rfl rfl (by simp;omega) ?_;intro v' s' F' h1 h2 h3;refine⟨F',hk.trans h2 fun q hq=> .inr (hF q hq).1, ?_,fun q hq=> ?_⟩
  ·have:ai (b++uv n)=ai (b++pre)++(CV.int .u8 ((u%256:Nat):Int)).cK:=by
    rw[<-hp,<-aBE,bH (b++pre),iW (by omega)]
    congr 1
   rw[this];exact h1
  ·obtain⟨h4,h5⟩:=h3 q hq;exact⟨h4.elim (fun h=>(hF q h).1) (fun h=>aCq hk.next h),h5⟩
theorem rO {X:List Nat}{v:CV}{b:List UInt8}{n:Nat}(h:Sl st X v 1 (ai b))(hb:b.length<=1000000)(hn:n<=2147483647):R 129 [v,I n] st (Made 1 5 (ai (b++uv n)) st):=by
 refine bO ?_;rw[ahN];have e1:¬(n:Int)<0:=by omega
 have e2:¬(2147483647:Int)<n:=by omega
 have e3:dB (.toInt .u64) (I n) st= .ok (.int .u64 n) st:=by
  show OR.ok (.int .u64 (IntKind.u64.wrap n)) st=_;rw[sh n (by omega)]
 simp[e1,e2,e3];exact GZ h hb hn
theorem PE {X:List Nat}{v:CV}{b:List UInt8}{f:Bool}(h:Sl st X v 1 (ai b))(hb:b.length<=1000000):R 188 [v, .bool f] st (Made 1 5 (ai (b++uv (if f=true then 1 else 0))) st):=by
 refine bO ?_;rw[agU];cases f
 ·simp;exact rO (n:=0) h hb (by omega)
 ·simp;exact rO (n:=1) h hb (by omega)
theorem Ck {X:List Nat}{v:CV}{b s:List UInt8}(h:Sl st X v 1 (ai b))(hb:b.length<=1000000)(hs:s.length<=1000000):R 128 [v, .str s] st (Made 1 5 (ai (b++(uv s.length++s))) st):=by
 refine bO ?_;rw[ahO];have e2:¬(2147483647:Int)<s.length:=by omega
 simp[e2];refine(rO h hb (by omega)).mono ?_;rintro x s1 ⟨F,h1,h2,h3⟩;have hl:=(jC s.length (by omega)).2;obtain⟨v',s2,F',a1,a2,a3,a4⟩:=h2.append (n:=s.length) (bytes:=1) (T:=ai s) (by omega) (by simp) (bE s) (fun b hb=>(h3 b hb).2) (by simp;omega);have e3:dg .str 1 [(.int .u8 0)] (.str s) s1=some (s.length,ai s):=rfl;rw[e3,a1,aT];refine⟨F',h1.trans a3 fun q hq=> .inr (h3 q hq).1,by simpa[ai]using a2,fun b hb=>⟨(a4 b hb).1.elim (fun h=>(h3 b h).1) (fun h=>by have:=h1.next;omega),(a4 b hb).2⟩⟩
end
section
variable {st st':St}
def kM (st:St)(F:List Nat)(v:CV)(k:Nat)(L:List CV):Prop:=∀X,(∀b∈F,b∉X)->Sl st X v k L
theorem kM.keep {F X:List Nat}{v:CV}{k:Nat}{L:List CV}(h:kM st F v k L)(hk:Kp X st st')(hx:∀b∈F,b∉X):kM st' F v k L:=fun Y hy=>by
 have h1:=h (X++Y) fun b hb=>by simp;exact⟨hx b hb,hy b hb⟩
 exact(h1.mono (hk.mono fun q hq=> .inl (by simp[hq]))).ef fun q hq=> .inl (by simp[hq])
theorem Own.aas {v:CV}{k e:Nat}{L:List CV}{F:List Nat}(h:Own st v k e L F)(hx:∀b∈F,b<st.next):kM st F v k L:=fun X h2=>h.sl fun b hb=>⟨h2 b hb,hx b hb⟩
theorem kM.nil {F:List Nat}{v:CV}{k:Nat}{L:List CV}(h:kM st F v k L):Sl st [] v k L:=h [] (by simp)
theorem kM.lo {F:List Nat}{v:CV}{k n:Nat}{L:List CV}(h:kM st F v k L)(hk:0<k)(hn:L.length=n*k){l:Nat}(hl:l<=n)(s:St):∃v',aN k v (some (I l)) none s= .ok v' s/\kM st F v' k (L.drop (l*k)):=by
 obtain⟨v',h1,_⟩:=h.nil.lo hk hn hl s;refine⟨v',h1,fun X hx=> ?_⟩;obtain⟨v2,h2,h3⟩:=(h X hx).lo hk hn hl s;rw[h1]at h2;cases h2;exact h3
theorem kM.hi {F:List Nat}{v:CV}{k n:Nat}{L:List CV}(h:kM st F v k L)(hk:0<k)(hn:L.length=n*k){l:Nat}(hl:l<=n)(s:St):∃v',aN k v none (some (I l)) s= .ok v' s/\kM st F v' k (L.take (l*k)):=by
 obtain⟨v',h1,_⟩:=h.nil.hi hk hn hl s;refine⟨v',h1,fun X hx=> ?_⟩;obtain⟨v2,h2,h3⟩:=(h X hx).hi hk hn hl s;rw[h1]at h2;cases h2;exact h3
def nP (st:St)(r:Nat)(F:List Nat)(L:List UInt8):Prop:=∃q v G,F=r::q::G/\F.Nodup/\(∀b∈F,b<st.next)/\st.mem.get r=some (.cells [.ptr q 0] 240 false)/\st.mem.get q=some (.cells [v, .bool false] 238 false)/\kM st G v 1 (ai L)
theorem nP.keep {r:Nat}{F X:List Nat}{L:List UInt8}(h:nP st r F L)(hk:Kp X st st')(hx:∀b∈F,b∉X):nP st' r F L:=by
 obtain⟨q,v,G,rfl,h1,h2,h3,h4,h5⟩:=h;exact⟨q,v,G,rfl,h1,fun b hb=>aBs (h2 b hb) hk.next,by rw[hk.keep r (h2 r (by simp)) (hx r (by simp))];exact h3,by rw[hk.keep q (h2 q (by simp)) (hx q (by simp))];exact h4,h5.keep hk fun b hb=>hx b (by simp[hb])⟩
theorem vh {X:List Nat}{v:CV}{L:List UInt8}(h:Sl st X v 1 (ai L))(hl:L.length<=1000000):R 116 [v] st fun x st'=>∃r F,x= .ptr r 0/\Kp [] st st'/\nP st' r F L/\∀b∈F,st.next<=b:=by
 refine bO ?_;rw[ahW];refine(vL h (by omega)).mono ?_;intro x s1 hc;obtain⟨F0,c1,c2,c3⟩:=hc.made;obtain⟨o1,o2⟩:=c2.cq;have o3:x.isAny=false:=(c2.sl (X:=[]) fun b hb=>⟨by simp,(c3 b hb).2⟩).bu.1;simp[dO,cI,bt,o2,o3];have hF:F0.Nodup:=by rcases c2 with⟨_,_,rfl⟩|⟨_,_,_,_,_,_,rfl,_⟩|⟨_,_,_,_,_,rfl,_⟩<;>simp
 refine⟨(c1.new _).new _,(s1.next+1)::s1.next::F0,⟨s1.next,x,F0,rfl, ?_, ?_,aq _ _, ?_, ?_⟩, ?_⟩
 ·simp only[aBi,aAX,aCr];exact⟨⟨by omega,fun h=>by have:=(c3 _ h).2;omega⟩,fun h=>by have:=(c3 _ h).2;omega,hF⟩
 ·intro b hb;simp only[aAX]at hb;simp;rcases hb with rfl|rfl|hb
  ·omega
  ·omega
  ·have:=(c3 b hb).2;omega
 ·rw[aW _ _ _ (by simp)];exact aq _ _
 ·refine Own.aas (e:=5) (c2.mono fun b hb=> ?_) fun b hb=> ?_
  ·have:=(c3 b hb).2;rw[aW _ _ _ (by simp;omega),aW _ _ _ this]
  ·have:=(c3 b hb).2;simp;omega
 ·intro b hb;have:=c1.next;simp only[aAX]at hb;rcases hb with rfl|rfl|hb
  ·omega
  ·omega
  ·exact(c3 b hb).1
variable {r:Nat} {F:List Nat} {L:List UInt8}
theorem pX (h:nP st r F L):R 117 [.ptr r 0] st fun v st'=>v= .bool true/\st'=st:=by
 obtain⟨q,v,G,rfl,h1,h2,h3,h4,h5⟩:=h;refine bO ?_;rw[ahV];simp[ki,h3];refine bO ?_;rw[ahr];simp[ki,h4]
theorem Jh (h:nP st r F L):R 156 [.ptr r 0] st fun v st'=>v=I L.length/\st'=st:=by
 obtain⟨q,v,G,rfl,h1,h2,h3,h4,h5⟩:=h;refine bO ?_;rw[ahq];simp[fH,h3];refine bO ?_;rw[agR];simp[fH,ki,h4,h5.nil.len L.length (by simp) (by omega)]
theorem Tp (h:nP st r F L):R 118 [.ptr r 0] st fun v st'=>v= .bool (decide (L=[]))/\st'=st:=by
 refine bO ?_;rw[ahU];refine(pX h).mono ?_;rintro _ _ ⟨rfl,rfl⟩;simp;refine(Jh h).mono ?_;rintro _ _ ⟨rfl,rfl⟩;simp
theorem kM.mono {F G:List Nat}{v:CV}{k:Nat}{L:List CV}(h:kM st G v k L)(hg:∀b∈G,b∈F):kM st F v k L:=fun X hx=>h X fun b hb=>hx b (hg b hb)
theorem IQ (h:nP st r F L){q:Nat}(hq:st.mem.get r=some (.cells [.ptr q 0] 240 false)){n:Nat}(hn:n<=L.length):R 160 [.ptr q 0,I n] st fun x st'=>kM st' F x 1 (ai (L.take n))/\Kp F st st'/\st'.next=st.next/\nP st' r F (L.drop n)/\st'.mem.get r=st.mem.get r:=by
 obtain⟨q',v,G,rfl,h1,h2,h3,h4,h5⟩:=h;have:q'=q:=by rw[h3]at hq;cases hq;rfl
 subst this;refine bO ?_;rw[ahm];obtain⟨v1,a1,a2⟩:=h5.hi (n:=L.length) (by omega) (by simp) hn st;obtain⟨v2,b1,b2⟩:=h5.lo (n:=L.length) (by omega) (by simp) hn st;obtain⟨c1,c2,c3⟩:=b2.nil.bu;have h1':=h1;simp only[aBi,aAX,aCr]at h1;simp[fH,nV,h4,a1,b1,bt,c2,c3];have hk:Kp (r::q'::G) st (St.set st q' (.cells [v2, .bool false] 238 false)):=(Kp.refl _ st).set _ (.inl (by simp)) (h2 q' (by simp));have hkq:Kp [q'] st (St.set st q' (.cells [v2, .bool false] 238 false)):=(Kp.refl _ st).set _ (.inl (by simp)) (h2 q' (by simp));have hG:∀b∈G,b∉[q']:=fun b hb e=>h1.2.1 (by simp at e;exact e▸hb);have hr:(St.set st q' (.cells [v2, .bool false] 238 false)).mem.get r=st.mem.get r:=ak _ _ _ _ h1.1.1;have e1:ai (L.take n)=(ai L).take (n*1):=by simp[ai]
 have e2:ai (L.drop n)=(ai L).drop (n*1):=by simp[ai]
 refine⟨?_,hk,⟨q',v2,G,rfl,h1',h2,by rw[hr];exact h3,ao _ _ _, ?_⟩,hr⟩
 ·rw[e1];exact(a2.keep hkq hG).mono (fun b hb=>by simp[hb])
 ·rw[e2];exact b2.keep hkq hG
theorem IM {f:Nat}(hf:f=158\/f=159)(h:nP st r F L)(v:CV):R f [.ptr r 0,v, .bool true] st fun x st'=>x=v/\st'=st:=by
 obtain⟨q,v',G,rfl,h1,h2,h3,h4,h5⟩:=h;refine bO ?_ (by rcases hf with rfl|rfl<;>rfl);rcases hf with rfl|rfl
 ·rw[aho];simp[fH,h3,h4]
 ·rw[ahn];simp[fH,h3,h4]
theorem YG (k:Nat)(h:k<256):jz .and .u8 (k:Int) 127=some ((k%128:Nat):Int):=by
 have:∀k:Fin 256,jz .and .u8 ((k.val:Nat):Int) 127=some ((k.val%128:Nat):Int):=by decide+kernel
 exact this ⟨k,h⟩
theorem aaG (a m:Nat)(k:Nat)(h:a<2^k)(hs:a+m*2^k<18446744073709551616):jz .or .u64 (a:Int) ((m*2^k:Nat):Int)=some ((a+m*2^k:Nat):Int):=by
 have e:jz .or .u64 (a:Int) ((m*2^k:Nat):Int)=some (IntKind.u64.wrap ((BitVec.ofInt 64 (a:Int)|||BitVec.ofInt 64 ((m*2^k:Nat):Int)).toNat:Int)):=rfl;rw[e,BitVec.ofInt_natCast,BitVec.ofInt_natCast,BitVec.toNat_or,BitVec.toNat_ofNat,BitVec.toNat_ofNat,aCN (by omega),aCN (by omega),Nat.or_comm,aCT m,<-Nat.two_pow_add_eq_or_of_lt h,sh _ (by rw[aCT];omega),aCT,aDF]
theorem PF {X:List Nat}{v:CV}{n:Nat}(h:Sl st X v 1 (ai (uv n++L)))(hn:n<=2147483647):R 193 [v] st fun x st'=>x= .tuple [.int .u64 n,I (uv n).length]/\st'=st:=by
 refine bO ?_;rw[agQ];have hlen:=h.len (uv n++L).length (by simp) (by omega) st;simp only[db,aK,aL,hlen,af];have Zv:=(jC n hn).2;refine bM (fun m vs s=>∃i u acc:Nat,∃pre,m+i=(uv n).length/\vs=[.int .u64 acc,v,I (uv n++L).length,I i]/\pre++uv u=uv n/\pre.length=i/\acc+u*128^i=n/\acc<128^i/\s=st) ?_ (n:=(uv n).length) ⟨0,n,0,[],by simp,rfl,rfl,rfl,by simp,by simp,rfl⟩;rintro m vs s k ⟨i,u,acc,pre,hm,rfl,hp,hi,ha,hb,rfl⟩ next;have hul:0<(uv u).length:=by by_cases hu:127<u;rw[iv hu];simp;rw[iW (by omega)];simp
 have DQ:i<(uv n).length:=by rw[<-hp,aAY];omega
 have fw:(i:Int)<(uv n++L).length:=by rw[aAY];omega
 have Zl:u<=n:=by
  have:1<=128^i:=Nat.one_le_pow _ _ (by omega);have:=Nat.mul_le_mul_left u this;omega
 have qM:∀hh,(ai (uv n++L))[i]'hh= .int .u8 ((if 127<u then u%128+128 else u:Nat):Int):=by
  intro hh;have e:uv n++L=pre++(uv u++L):=by rw[<-hp,aBE]
  have:(ai (uv n++L))[i]?=some (.int .u8 ((if 127<u then u%128+128 else u:Nat):Int)):=by
   rw[e,bH,aCi (by simp;omega)];simp only[bF,hi,Nat.sub_self]
   by_cases hu:127<u
   ·rw[iv hu,aBb hu];show some (bN _)=_;rw[ji _ (by omega)]
   ·rw[iW (by omega),aAZ hu];show some (bN _)=_;rw[ji _ (by omega)]
  rw[aAV hh]at this;exact aCB this
 have hib:i<(ai (uv n++L)).length:=by simp;omega
 simp only[aK,aL,av,de,af,ag,fw,aBV,aBr];refine h.idx hib _ ?_;rw[qM];have PR:¬(i:Int)=10:=by omega
 have e9:¬(i:Int)=9:=by omega
 simp only[cB,af,PR,e9,aCy,aG,bh,cc,aBk,aAR,aBf,aF,MX,ag,ite_self];have hc:(if 127<u then u%128+128 else u)<256:=by split<;>omega
 generalize FE:(if 127<u then u%128+128 else u)=c at hc;have XT:c%128=u%128:=by rw[<-FE];split<;>omega
 have a1:∀s,aj .and none true (.int .u8 (c:Int)) (.int .u8 127) s= .ok (.int .u8 ((c%128:Nat):Int)) s:=fun s=>by
  have:aj .and none true (.int .u8 (c:Int)) (.int .u8 127) s=(match jz .and .u8 (c:Int) 127 with|some r=> .ok (.int .u8 r) s|none=> .bad):=rfl;rw[this,YG c hc]
 have aqh:128^i<=128^4:=Nat.pow_le_pow_right (by omega) (by omega);have HY:2^(7*i)=128^i:=by rw[Nat.pow_mul]
 have avC:u%128*128^i<=n:=by
  have:u%128*128^i<=u*128^i:=aBM _ (Nat.mod_le _ _);omega
 have a2:∀s,dB (.toInt .u64) (.int .u8 ((c%128:Nat):Int)) s= .ok (.int .u64 ((c%128:Nat):Int)) s:=fun s=>by
  show OR.ok (.int .u64 (IntKind.u64.wrap _)) s=_;rw[sh _ (by omega)]
 have a3:IntKind.i64.wrap (7*(i:Int))=((7*i:Nat):Int):=by rw[bD (by omega)];omega
 have a4:∀s,aj .shl none false (.int .u64 ((c%128:Nat):Int)) (.int .i64 ((7*i:Nat):Int)) s= .ok (.int .u64 ((u%128*2^(7*i):Nat):Int)) s:=fun s=>by
  have e:aj .shl none false (.int .u64 ((c%128:Nat):Int)) (.int .i64 ((7*i:Nat):Int)) s=if ((7*i:Nat):Int)<0 then .bad else .ok (.int .u64 (IntKind.u64.wrap (((c%128:Nat):Int)*2^(min ((7*i:Nat):Int).toNat 64)))) s:=rfl
  rw[e,aAZ (by omega),aDz,aBH (by omega),XT];have e2:((u%128:Nat):Int)*2^(7*i)=((u%128*2^(7*i):Nat):Int):=by simp
  rw[e2,sh _ (by rw[HY];omega)]
 have a5:∀s,aj .or none false (.int .u64 (acc:Int)) (.int .u64 ((u%128*2^(7*i):Nat):Int)) s= .ok (.int .u64 ((acc+u%128*2^(7*i):Nat):Int)) s:=fun s=>by
  have e:aj .or none false (.int .u64 (acc:Int)) (.int .u64 ((u%128*2^(7*i):Nat):Int)) s=(match jz .or .u64 (acc:Int) ((u%128*2^(7*i):Nat):Int)with|some r=> .ok (.int .u64 r) s|none=> .bad):=rfl;rw[e,aaG acc (u%128) (7*i) (by rw[HY];exact hb) (by rw[HY];omega)]
 have a6:IntKind.i64.wrap ((i:Int)+1)=((i+1:Nat):Int):=by rw[bD (by omega)];omega
 have a7:aj .eql (some .int) true (I i) (.int .i64 9) s= .ok (.bool false) s:=by rw[av,cB];simp only[e9,aCy]
 have a8:∀s,aj .lss none true (.int .u8 (c:Int)) (.int .u8 128) s= .ok (.bool (decide (c<128))) s:=fun s=>by
  rw[av,de];congr 2;simp only[aBu];omega
 simp only[a7,af,aG,cc,aAR,aBr,aBf,aBk,aF,ag,a1,a2,jQ,a3,a4,a5,a8,cN,a6];have zm:u=u%128+128*(u/128):=(Nat.mod_add_div u 128).symm
 by_cases hu:127<u
 ·have hc8:¬c<128:=by rw[<-FE,aBb hu];omega
  simp only[hc8,aCy,aAR,aBf]
  have e6:u*128^i=u%128*128^i+u/128*128^(i+1):=by
   conv=>lhs;rw[zm]
   rw[aBZ,aDy,aCT 128 (u/128),Nat.mul_assoc,aCT 128]
  have e7:u%128*128^i<=127*128^i:=aBM _ (by omega);refine next (m-1) _ _ (by omega) ⟨i+1,u/128,acc+u%128*2^(7*i),pre++[UInt8.ofNat (u%128+128)],by omega,rfl, ?_,by simp;omega,by rw[HY];omega,by rw[HY,aDy];omega,rfl⟩;rw[<-hp,iv hu];simp
 ·have hc8:c<128:=by rw[<-FE,aAZ hu];omega
  simp only[hc8,aBV,aBr];have e5:(uv n).length=i+1:=by rw[<-hp,iW (by omega)];simp;omega
  rw[e5];have e6:u%128=u:=by omega
  rw[e6,HY,ha];exact⟨rfl,trivial⟩
end
section
variable {st st':St} {r:Nat} {F:List Nat} {L:List UInt8}
def Qi (r:Nat)(F:List Nat)(L:List UInt8)(st st':St):Prop:=Kp F st st'/\st'.next=st.next/\nP st' r F L
theorem Rp {n:Nat}(h:1<(uv n).length):∃b,(uv n)[(uv n).length-1]?=some b/\b≠0:=by
 have key:∀m n,n<=m->0<n->∃b,(uv n)[(uv n).length-1]?=some b/\b≠0:=by
  intro m
  induction m with
  |zero=>intro n h1 h2;omega
  |succ m ih=>
   intro n h1 h2
   by_cases hn:127<n
   ·obtain⟨b,h3,h4⟩:=ih (n/128) (by omega) (by omega);have hl:0<(uv (n/128)).length:=by by_cases hu:127<n/128;rw[iv hu];simp;rw[iW (by omega)];simp
    refine⟨b, ?_,h4⟩;rw[iv hn,aBt,aCc];obtain⟨k,hk⟩:∃k,(uv (n/128)).length=k+1:=⟨(uv (n/128)).length-1,by omega⟩;rw[hk,aAS];rw[hk,aCc]at h3;exact h3
   ·rw[iW (by omega)];refine⟨_,rfl,fun e=> ?_⟩;have:=congrArg UInt8.toNat e;simp at this;omega
 refine key n n (aAU _) ?_
 by_cases h0:n=0
 ·subst h0;rw[iW (by omega)]at h;simp at h
 ·omega
theorem nP.sl (h:nP st r F L):∃q v,st.mem.get r=some (.cells [.ptr q 0] 240 false)/\st.mem.get q=some (.cells [v, .bool false] 238 false)/\Sl st [] v 1 (ai L):=by
 obtain⟨q,v,G,rfl,h1,h2,h3,h4,h5⟩:=h;exact⟨q,v,h3,h4,h5.nil⟩
theorem VQ {n:Nat}(h:nP st r F (uv n++L))(hn:n<=2147483647):R 157 [.ptr r 0] st fun x st'=>x= .tuple [.int .u64 n, .bool true]/\Qi r F L st st':=by
 refine bO ?_;rw[ahp];refine(pX h).same ?_;obtain⟨q,v,h1,h2,h3⟩:=h.sl;simp[fH,h1,h2];refine(PF h3 hn).same ?_;have hl:=(jC n hn).1;have hl5:=(jC n hn).2;have xf:R 160 [.ptr q 0,I (uv n).length] st fun x3 s3=>Qi r F L st s3:=(IQ h h1 (n:=(uv n).length) (by simp)).mono fun x s ⟨_,k1,k2,k3,_⟩=>⟨k1,k2,by simpa using k3⟩
 have Ft:1<(uv n).length->Lim.idx 1 v (I (((uv n).length-1:Nat):Int)) st fun eX=>∃c:Nat,eX= .int .u8 c/\c≠0:=fun h4=>by
  obtain⟨b,b1,b2⟩:=Rp h4;have hlt:(uv n).length-1<(ai (uv n++L)).length:=by simp;omega
  refine h3.idx hlt _ ?_
  have e4:(ai (uv n++L))[(uv n).length-1]'hlt=bN b:=by
   have:(ai (uv n++L))[(uv n).length-1]?=some (bN b):=by
    rw[bH,aCv (by simp;omega)];simp only[ai,aBN,b1];rfl
   rw[aAV hlt]at this;exact aCB this
  exact⟨b.toNat,e4,fun e=>b2 (by apply UInt8.toNat_inj.1;simp;omega)⟩
 generalize (uv n).length=k at*;have e0:¬k=0:=by omega
 by_cases h4:1<k
 ·have e3:IntKind.i64.wrap ((k:Int)-1)=((k-1:Nat):Int):=by rw[bD (by omega)];omega
  have key:=Ft h4;unfold Lim.idx at key;have e2:(1:Int)<k:=by omega
  simp[e0,e2,e3,ki,zk,h1,h2];refine kO key fun a ha=>kO ha fun x hx=> ?_;obtain⟨c,rfl,hc⟩:=hx;simp[hc,xf]
 ·have e2:¬(1:Int)<k:=by omega
  simp[e0,e2,ki,zk,h1,xf]
theorem kz {n m:Nat}(h:nP st r F (uv n++L))(hn:n<=m)(hm:m<=2147483647):R 119 [.ptr r 0,I m] st fun x st'=>x=I n/\Qi r F L st st':=by
 refine bO ?_;rw[ahT];simp;refine(VQ h (by omega)).mono ?_;rintro _ s1 ⟨rfl,h1,h2,h3⟩
 have e1:dB (.toInt .i64) (.int .u64 (n:Int)) s1= .ok (I n) s1:=by
  show OR.ok (.int .i64 (IntKind.i64.wrap _)) s1=_;rw[bD (by omega)]
 have e2:(n:Int)<=2147483647:=by omega
 have e3:(n:Int)<=m:=by omega
 have e4:(0:Int)<=m:=by omega
 simp[e1,e2,hn];refine(IM (.inl rfl) h3 (I n)).same ?_;exact⟨rfl,h1,h2,h3⟩
theorem Nx {f:Bool}(h:nP st r F (uv (if f=true then 1 else 0)++L)):R 176 [.ptr r 0] st fun x st'=>x= .bool f/\Qi r F L st st':=by
 refine bO ?_;rw[ahd];simp;refine(kz (m:=1) h (by split<;>omega) (by omega)).mono ?_;rintro _ s1 ⟨rfl,h1⟩;cases f<;>simp[h1]
theorem Cv {s:List UInt8}{m:Nat}(h:nP st r F (uv s.length++(s++L)))(hn:s.length<=m)(hm:m<=2147483647):R 120 [.ptr r 0,I m] st fun x st'=>x= .str s/\Qi r F L st st':=by
 refine bO ?_;rw[ahS];simp;refine(kz h hn hm).mono ?_;rintro _ s1 ⟨rfl,h1,h2,h3⟩;refine(pX h3).same ?_;obtain⟨q,v,g1,g2,g3⟩:=h3.sl;have e1:¬((s++L).length:Int)<s.length:=by rw[aAY];omega
 simp[ki,fH,g1,g2,g3.len (s++L).length (by simp) (by omega),e1];have e2:¬((s.length:Int)+L.length<s.length):=by omega
 simp[e2,g1];refine(IQ h3 g1 (n:=s.length) (by simp)).mono ?_;rintro x s2 ⟨k1,k2,k3,k4,k5⟩;have e3:(s++L).take s.length=s:=by simp
 have e4:(s++L).drop s.length=L:=by simp
 rw[e3]at k1;rw[e4]at k4;rw[k1.nil.str,af];refine(IM (.inr rfl) k4 (.str s)).same ?_;exact⟨rfl,h1.trans k2 fun q hq=> .inl hq,by omega,k4⟩
end
