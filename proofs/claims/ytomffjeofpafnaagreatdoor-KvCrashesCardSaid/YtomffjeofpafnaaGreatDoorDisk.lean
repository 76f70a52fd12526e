import Derived.Test.YtomffjeofpafnaaGreatDoorWa
import Derived.Test.YtomffjeofpafnaaGreatDoorLimJ
namespace Lim
open Go
noncomputable section
set_option linter.defProp false
set_option maxRecDepth 100000
section
variable {X:List Nat}{v:CV}{k:Nat}{L:List CV}{i:Int}
def R.same {f:Nat}{args:List CV}{st:St}{x:CV}{Q:CV->St->Prop}(h:R f args st λv st'=>v=x/\st'=st)(b:Q x st):R f args st Q:=R.mono h (by rintro _ _ ⟨rfl,rfl⟩;exact b)
def tB (e:Nat)(z:List CV)(st:St):bC e 0 (cH 0 z) [] st=.ok (.slice st.nx 0 0 0 0) (St.new st (.cells [] e false)):=rfl
def Own.empty (st:St)(k e:Nat):Own (St.new st (.cells [] e false)) (.slice st.nx 0 0 0 0) k e [] [st.nx]:=.inr (.inl ⟨st.nx,[],e,false,rfl,rfl,rfl,wb⟩)
def nE (k e:Nat)(v:CV)(L:List CV)(st:St)(x:CV)(st':St):Prop:=∃F',Kp [] st st'/\Own st' x k e L F'/\(∀b∈F',st.nx<=b/\b<st'.nx)/\(v=.ae->x=.ae)
def Bm {st:St}{e:Nat}(bytes:Nat){z:List CV}(h:Sl st X v k L)(r:0<k)(p:bh L=true)(d:L.length*(bytes+1)<=140737488355328):
 us (aj .eql (some .slice) true v .ae st) λo=>aC o (nE k e v L st .ae st)
  (upon (bC e 0 (cH 0 z) [] st) λm g=>upon (bJ e k bytes m (cT .slice k z v g) g) λl s2=>nE k e v L st l s2):=by
 by_cases c:v=.ae
 .subst c
  have:L=[]:=by
   rcases h with⟨_,h⟩|⟨b,off,len,cap,grow,f,_⟩
   .exact h
   .cases f
  subst this;simp;exact⟨[],Kp.refl _ _,.inl ⟨rfl,rfl,rfl⟩,wb,λ_=>rfl⟩
 .have f:us (aj .eql (some .slice) true v .ae st)=us (.ok (.bool false) st):=by
   rcases h with⟨h,_⟩|⟨b,off,len,cap,grow,h,_⟩
   .exact absurd h c
   .subst h;rfl
  rw[f];have j:Kp [] st (St.new st (.cells [] e false)):=(Kp.refl [] st).new _;have q:=(h.eH (Y:=[]) wb).mono j;obtain⟨n,E,C⟩:=q.src z;obtain⟨v',st',F',B,A,y,x⟩:=(Own.empty st k e).append (bytes:=bytes) (T:=L) r E p wb (by simpa using d);simp only[af,ag,aHH,aHV,tB,aP,C,B];refine⟨F',j.trans y wb,by simpa using A,λb s=>?_,λe=>absurd e c⟩;obtain⟨w,u⟩:=x b s;refine⟨?_,u⟩;simp only[aJb,wP]at w;omega
def xq {st:St}{s:List UInt8}(h:Sl st X v 1 (ai s))(b:s.length<=1000000000):R 113 [v] st (nE 1 5 v (ai s) st):=by
 refine bK ?_;rw[anw];exact Bm 1 h uM (sU s) zS
def akG {st:St}(h:Sl st X v 1 L)(b:bh L=true)(c:L.length<=1000000000):R 64 [v] st (nE 1 4 v L st):=by
 refine bK ?_;rw[w64];exact Bm 1 h uM b uM
def Wb {st:St}(h:Sl st X v 512 L)(b:bh L=true)(c:L.length<=100000000):R 66 [v] st (nE 512 142 v L st):=by
 refine bK ?_;rw[w66];exact Bm 512 h uM b uM
def xp {st:St}(h:Sl st X v 4 L)(b:bh L=true)(c:L.length<=1000000000):R 50 [v] st (nE 4 109 v L st):=by
 refine bK ?_;rw[w50];exact Bm 48 h uM b uM
def Bn {st:St}(h:Sl st X v 1 L)(b:bh L=true)(c:L.length<=1000000000):R 106 [v] st (nE 1 3 v L st):=by
 refine bK ?_;rw[anE];exact Bm 8 h uM b uM
abbrev iT:=List UInt8
abbrev qj:=Nat×iT
structure aU where
 aq:List iT
 waits:List qj
 done:Int
 dead:Bool
 set:Bool
 left:Int
 keep:List Bool
def Hq:List qj->Int->Option Nat
 |[],_=>none
 |w::r,i=>if i=w.1 then some r.length else Hq r i
def oU (l:List qj)(i:Int):Option Nat:=Hq l.reverse i
def vE (i:Int):oU [] i=none:=rfl
def yO (l:List qj)(w:qj)(i:Int):oU (l++[w]) i=if i=w.1 then some l.length else oU l i:=by simp[oU,Hq]
def Qy {l:List qj}(h:Hq l i=some k):k<l.length:=by
 induction l with
 |nil=>cases h
 |cons w r b=>
  simp only[Hq]at h
  split at h
  .cases h;simp
  .have:=b h;simp;omega
def yi {l:List qj}(h:oU l i=some k):k<l.length:=by simpa using Qy h
def aU.cur (D:aU)(i:Nat):iT:=match oU D.waits i with|some k=>(D.waits.getD k (0,[])).2|none=>D.aq.getD i []
def gG (kept:Nat->Bool):Nat->List iT->List qj->List iT
 |_,L,[]=>L
 |i,L,w::r=>gG kept (i+1) (if kept i=true then L.set w.1 w.2 else L) r
def pJ (kept:Nat->Bool)(i:Nat)(L:List iT)(W:List qj):(gG kept i L W).length=L.length:=by
 induction W generalizing i L with
 |nil=>rfl
 |cons w r b=>simp only[gG];rw[b];split<;>simp
def aU.settle (D:aU)(kept:Nat->Bool):aU:={D with aq:=gG kept 0 D.aq D.waits,waits:=[]}
def AP (l:List Bool)(i:Nat):Bool:=l.getD i false
def aU.za (D:aU)(keep:List Bool):aU:={D.settle (AP keep)with dead:=true}
def aU.tick (D:aU):aU:={D with left:=IntKind.i64.wrap (D.left-1),done:=IntKind.i64.wrap (D.done+1)}
def aU.out (D:aU):Prop:=D.set=true/\D.left=0
instance (D:aU):Decidable D.out:=by unfold aU.out;infer_instance
def aU.write (D:aU)(i:Int)(b:iT):Int×aU:=
 if D.dead=true then (20,D)else if i<0\/(D.aq.length:Int)<=i\/b.length≠512 then (1,D)
 else if D.out then (20,{D with waits:=D.waits++[(i.toNat,b)]}.za D.keep)else (0,{D with waits:=D.waits++[(i.toNat,b)]}.tick)
def aU.flush (D:aU):Int×aU:=if D.dead=true then (20,D)else if D.out then (20,D.za D.keep)else (0,(D.tick).settle λ_=>true)
def aU.read (D:aU)(i:Int):Int×iT:=if D.dead=true then (20,[])else if i<0\/(D.aq.length:Int)<=i then (1,[])else (0,D.cur i.toNat)
def kQ (l:List iT):List CV:=(l.map ai).flatten
def vj (w:qj):List CV:=I w.1::ai w.2
def iv (l:List qj):List CV:=(l.map vj).flatten
structure iD (st:St)(a:Nat)(F:List Nat)(D:aU)(vl vw vk:CV)(bl bm:Nat)(Fw Fk:List Nat):Prop where
 eq:F=a::bl::bm::(Fw++Fk)
 nd:F.Nodup
 lt:∀b∈F,b<st.nx
 main:st.m.g a=some (.cells [vl,vw,.map bm,I D.done,.bool D.dead,.bool D.set,I D.left,vk] 137 false)
 aq:Row st vl 512 D.aq.length (kQ D.aq) bl
 waits:Own st vw 513 195 (iv D.waits) Fw
 now:∃m,dd st bm m/\∀i,jE m i=(oU D.waits i).map λk:Nat=>I (Int.ofNat k)
 keep:Own st vk 1 4 (D.keep.map .bool) Fk
 xX:∀s∈D.aq,s.length=512
 xW:∀w∈D.waits,w.2.length=512/\w.1<D.aq.length
 size:D.aq.length<=65536
def cQ (st:St)(a:Nat)(F:List Nat)(D:aU):Prop:=∃vl vw vk bl bm Fw Fk,iD st a F D vl vw vk bl bm Fw Fk
def Ae {l:List iT}(h:∀s∈l,s.length=512):∀x∈l.map ai,x.length=512:=by
 intro x b;obtain⟨s,c,rfl⟩:=aIk.1 b;simpa using h s c
def sE {l:List qj}{n:Nat}(h:∀w∈l,w.2.length=512/\w.1<n):∀x∈l.map vj,x.length=513:=by
 intro x b;obtain⟨s,c,rfl⟩:=aIk.1 b;simpa[vj]using (h s c).1
section
variable {st st':St} {a:Nat} {F:List Nat} {D D':aU} {vl vw vk:CV} {bl bm:Nat} {Fw Fk:List Nat}
def iD.mono (h:iD st a F D vl vw vk bl bm Fw Fk)(d:st.nx<=st'.nx)(e:∀b∈F,st'.m.g b=st.m.g b):iD st' a F D vl vw vk bl bm Fw Fk:=by
 have c:=λb hb=>e b acG;obtain⟨m,j,f⟩:=h.now
 exact⟨h.eq,h.nd,λb hb=>aId (h.lt b hb) d,by rw[c a (.inl rfl)];exact h.main,h.aq.mono (c bl (.inr (.inl rfl))),h.waits.mono λb hb=>c b (.inr (.inr (.inr (.inl hb)))),
  ⟨m,j.mono (c bm (.inr (.inr (.inl rfl)))),f⟩,h.keep.mono λb hb=>c b (.inr (.inr (.inr (.inr hb)))),h.xX,h.xW,h.size⟩
def cQ.keep (h:cQ st a F D)(c:Kp X st st')(e:∀b∈F,b∉X):cQ st' a F D:=by
 obtain⟨vl,vw,vk,bl,bm,Fw,Fk,h⟩:=h;exact⟨vl,vw,vk,bl,bm,Fw,Fk,h.mono c.nx λb d=>c.keep b (h.lt b d) (e b d)⟩
def cQ.lt (h:cQ st a F D):∀b∈F,b<st.nx:=by obtain⟨vl,vw,vk,bl,bm,Fw,Fk,h⟩:=h;exact h.lt
def iD.m (h:iD st a F D vl vw vk bl bm Fw Fk):a∈F:=acR
def iD.apart (h:iD st a F D vl vw vk bl bm Fw Fk):(a≠bl/\a≠bm/\a∉Fw/\a∉Fk)/\(bl≠bm/\bl∉Fw/\bl∉Fk)/\(bm∉Fw/\bm∉Fk)/\Fw.Nodup/\Fk.Nodup/\∀b∈Fw,b∉Fk:=by
 have nd:=h.nd;rw[h.eq]at nd;simp only[aHX,aHJ,aHT,aJf,aIE]at nd;obtain⟨⟨n,m,l,j⟩,⟨g,f,e⟩,⟨d,c⟩,s,q,r⟩:=nd;exact⟨⟨n,m,l,j⟩,⟨g,f,e⟩,⟨d,c⟩,s,q,λb p o=>r b p b o rfl⟩
def iD.aeb (h:iD st a F D vl vw vk bl bm Fw Fk)(d:D'.aq=D.aq)(f:D'.waits=D.waits)(x:D'.keep=D.keep)
 (p:st.nx<=st'.nx) (q:st'.m.g a=some (.cells [vl,vw,.map bm,I D'.done,.bool D'.dead,.bool D'.set,I D'.left,vk] 137 false)) (r:∀b∈F,b≠a->st'.m.g b=st.m.g b):iD st' a F D' vl vw vk bl bm Fw Fk:=by
 obtain⟨⟨o,n,l,j⟩,_⟩:=h.apart;have s:∀b,b=bl\/b=bm\/b∈Fw\/b∈Fk->b∈F:=λb c=>by rw[h.eq];simp only[aHJ,aHT];exact .inr c
 have kp:=λb c=>r b (s b c) (by
  intro e;subst e;rcases c with e|e|e|e
  .exact o e
  .exact n e
  .exact l e
  .exact j e)
 obtain⟨m,w,u⟩:=h.now
 exact⟨h.eq,h.nd,λb c=>aId (h.lt b c) p,q,by rw[d];exact h.aq.mono (kp bl (.inl rfl)),by rw[f];exact h.waits.mono λb c=>kp b (.inr (.inr (.inl c))),
  ⟨m,w.mono (kp bm (.inr (.inl rfl))),by rw[f];exact u⟩,by rw[x];exact h.keep.mono λb c=>kp b (.inr (.inr (.inr c))),
  by rw[d];exact h.xX,by rw[d,f];exact h.xW,by rw[d];exact h.size⟩
def xy (h:cQ st a F D):R 63 [.ptr a 0] st λv st'=>v=I (if D.dead=true then 20 else 0)/\st'=st:=by
 obtain⟨vl,vw,vk,bl,bm,Fw,Fk,h⟩:=h;refine bK ?_;rw[w63];simp[eQ,h.main]
def vD (h:cQ st a F D):R 18 [.ptr a 0] st λv st'=>v=I D.aq.length/\st'=st:=by
 obtain⟨vl,vw,vk,bl,bm,Fw,Fk,h⟩:=h;obtain⟨t,g,gr,b,e,d,c⟩:=h.aq;refine bK ?_;rw[w18];subst b;simp[eQ,h.main]
def xi (h:cQ st a F D):R 20 [.ptr a 0] st λv st'=>v=.bool D.dead/\st'=st:=by
 obtain⟨vl,vw,vk,bl,bm,Fw,Fk,h⟩:=h;refine bK ?_;rw[w20];simp[jV,h.main]
def IC (h:iD st a F D vl vw vk bl bm Fw Fk):
 R 134 [.ptr a 0] st λv st'=>if D.out then v=.bool true/\st'=st else v=.bool false/\Kp F st st'/\st'.nx=st.nx/\iD st' a F D.tick vl vw vk bl bm Fw Fk:=by
 refine bK ?_;rw[anf]
 by_cases d:D.set=true<;>by_cases c:D.left=0<;>
  simp[eQ,zx,sy,BU,mc,h.main,bz,dB,cE,rq,mJ,Bq,iY,andThen,gY,d,c,aU.out]
 all_goals exact⟨(Kp.refl F st).set _ (.inl h.m) (h.lt a h.m),h.aeb rfl rfl rfl (aHK _) (by simp[d,c,aU.tick]) λb f e=>ak _ _ _ _ e⟩
end
end
section
variable {st st':St} {a:Nat} {F:List Nat} {D D':aU} {vl vw vk:CV} {bl bm:Nat} {Fw Fk:List Nat}
def zI {b:Type}{l:List b}{i:Nat}(h:i<l.length)(d:b):l.getD i d=l[i]:=by simp[List.getD,h]
def VY (h:iD st a F D vl vw vk bl bm Fw Fk){i:Nat}(hi:i<D.aq.length):(D.cur i).length=512:=by
 unfold aU.cur;cases hx:oU D.waits i with
 |none=>
  show(D.aq.getD i []).length=_;rw[zI hi];exact h.xX _ (aIc ..)
 |some k=>
  have:=yi hx;show((D.waits.getD k (0,[])).2).length=_;rw[zI this];exact(h.xW _ (aIc ..)).1
def bu (s:iT):bh (ai s)=true:=sU s
def dU (l t:List CV)(h:t.length=l.length):bz l 0 t=t:=by
 unfold bz;rw[aJG,aIm,aIp uM,aIJ]
def Row.AJ {v:CV}{k n b:Nat}{L:List (List CV)}(h:Row st v k n L.flatten b)(c:∀x∈L,x.length=k)(j:L.length=n){i:Nat}(hi:i<n)(Q:CV->Prop)(d:Q (.agg L[i])):Lim.gU k k v (I i) st Q:=by
 obtain⟨t,g,gr,rfl,l,f,e⟩:=h;unfold Lim.gU;rw[gp hi (.inr (aHK _))];simp only[af,qv,e,ar,wL,aHN];rw[th c i uM]
 exact⟨by rw[f];calc i*k+k=(i+1)*k:=by rw[aIV,aJV]
  _<=n*k:=aIB k hi,d⟩
def Own.row {v:CV}{k e:Nat}{L:List CV}{F:List Nat}(h:Own st v k e L F)(c:0<L.length):∃b n,F=[b]/\Row st v k n L b/\v=.slice b 0 n n k/\L.length=n*k/\st.m.g b=some (.cells L e true):=by
 rcases h with⟨rfl,rfl,rfl⟩|⟨b,l,t,g,rfl,rfl,rfl,i⟩|⟨b,m,rfl,j,f,rfl,d⟩
 .simp at c
 .simp at c
 .exact⟨b,m,rfl,⟨e,true,k,rfl,.inr rfl,f,d⟩,rfl,f,d⟩
def tL (h:iD st a F D vl vw vk bl bm Fw Fk)(f:0<D.waits.length):∃b,Fw=[b]/\vw=.slice b 0 D.waits.length D.waits.length 513/\st.m.g b=some (.cells (iv D.waits) 195 true):=by
 have i:(iv D.waits).length=D.waits.length*513:=by
  unfold iv;rw[fg (sE h.xW)];simp
 obtain⟨b,n,e,k,d,j,c⟩:=h.waits.row uM;have:n=D.waits.length:=uM
 subst this;exact⟨b,e,d,c⟩
def Got (s:iT)(st:St)(v:CV)(st':St):Prop:=Kp [] st st'/\s.length=512/\∃b,v=.tuple [.slice b 0 512 512 1,I 0]/\st'.m.g b=some (.cells (ai s) 5 true)/\st.nx<=b/\b<st'.nx
def wA (h:cQ st a F D)(i:Int):R 67 [.ptr a 0,I i] st λv st'=>if (D.read i).1=0 then Got (D.read i).2 st v st' else v=.tuple [.ae,I (D.read i).1]/\st'=st:=by
 have h0:=h;obtain⟨vl,vw,vk,bl,bm,Fw,Fk,h⟩:=h;refine bK ?_;rw[w67];refine(xy h0).mono ?_;rintro _ _ ⟨rfl,rfl⟩;rename_i c;unfold aU.read
 by_cases q:D.dead=true
 .simp[q]
 .obtain⟨t,g,gr,Z,h1,h2,h3⟩:=h.aq;have f:∀s:St,bt .slice vl s=.ok (I D.aq.length) s:=by intro s;subst Z;rfl
  by_cases B:i<0
  .simp[q,B,jV]
  .by_cases HT:(D.aq.length:Int)<=i
   .simp[q,B,HT,jV,h.main,f]
   .obtain⟨n,rfl⟩:∃n:Nat,i=n:=⟨i.toNat,uM⟩;have u:n<D.aq.length:=by omega
    have X:=h.aq;have te:=h.lt bl acR;have ha:=h.lt a h.m;have z:=h.lt bm acR;have j:=VY h u;obtain⟨m,E9,OQ⟩:=h.now
    have p:∀d:St,Kp [] c d->c.nx<d.nx->d.m.g c.nx=some (.cells (ai (D.cur n)) 142 false)->
     us (bT 512 1 (.ptr c.nx 0) none none d) λeJ=>R 113 [eJ] d λeE P=>Got (D.cur n) c (.tuple [eE,I 0]) P:=by
     intro d l hb hg;have e:bT 512 1 (.ptr c.nx 0) none none d=.ok (.slice c.nx 0 512 512 0) d:=rfl;rw[e,af];have Y:Sl d [] (.slice c.nx 0 512 512 0) 1 (ai (D.cur n)):=.inr ⟨c.nx,0,512,512,0,rfl,by simp[j],⟨aHK _,.inl rfl⟩,.inr ⟨wb,hb,_,142,false,hg,by simp[j],by rw[aIn,aHS (by simp[j])]⟩⟩;refine(xq Y uM).mono ?_;rintro x O ⟨F',W,V,E,k4⟩;refine⟨l.trans W wb,j,?_⟩;obtain⟨b,U,C,q2,T,S,Q⟩:=V.row (by simp[j]);have:U=512:=by simp[j]at S;omega
     subst this;exact⟨b,by rw[T],Q,aIz l.nx (E b (by simp[C])).1,(E b (by simp[C])).2⟩
    simp[q,B,jV,eQ,h.main,f,Int.not_le.mpr (show(n:Int)<D.aq.length by omega)];refine X.AJ (L:=D.aq.map ai) (Ae h.xX) wb u _ ?_;have w:(St.new c (.cells (zr 512) 142 false)).m.g a=_:=(aX _ _ _ ha).trans h.main;have J:(ai (D.aq[n])).length=512:=by simpa using h.xX _ (aIc ..)
    have A:a≠c.nx:=uM
    have M:(St.set (St.new c (.cells (zr 512) 142 false)) c.nx (.cells (bz (zr 512) 0 (ai D.aq[n])) 142 false)).m.g bm=c.m.g bm:=by rw[ak _ _ _ _ uM,aX _ _ _ z]
    have K:=(IsMap.lookup (.inl E9) (.int .i64 0) true n _ M);rw[aHP rfl,OQ]at K;simp[aT,J,bu,ak _ _ _ _ A,w,K];have o:∀blk,Kp [] c (St.set (St.new c (.cells (zr 512) 142 false)) c.nx blk):=λblk=>((Kp.refl [] c).new _).set blk (.inr (aHK _)) wb;have G:(zr 512).length=512:=aIF;cases hx:oU D.waits n with
    |none=>
     simp;refine p _ (o _) wb ?_;rw[an,dU _ _ (by rw[J,G])];have e:D.cur n=D.aq[n]:=by unfold aU.cur;rw[hx];exact zI u _
     rw[e]
    |some k=>
     have l:=yi hx;obtain⟨H,QO,FQ,Tm⟩:=tL h uM;have y:=h.lt H (by rw[h.eq,QO];simp);have Zu:(ai (D.waits[k]).2).length=512:=by simpa using (h.xW _ (aIc ..)).1
     have N:(((iv D.waits).drop (k*513+1)).take 512)=ai (D.waits[k]).2:=by
      unfold iv;rw[R6 (sE h.xW) k (by simpa using l) 1 512 uM];simp only[aJw,vj,aKv,aIn];rw[aHS uM]
     have r:k*513+1+512<=(iv D.waits).length:=by
      unfold iv;rw[fg (sE h.xW)];simp;omega
     simp[Xh,FQ,gp l (.inr (aHK _)),ak _ _ _ _ (show H≠c.nx from uM),aX _ _ _ y,Tm,N,r,bu];refine⟨uM,p _ (o _) wb ?_⟩;rw[an,dU _ _ (by rw[mU _ _ _ uM,Zu,G])];have e:D.cur n=(D.waits[k]).2:=by unfold aU.cur;rw[hx];exact congrArg Prod.snd (zI l _)
     rw[e]
end
section
variable {st st':St} {a:Nat} {F:List Nat} {D D':aU} {vl vw vk:CV} {bl bm:Nat} {Fw Fk:List Nat}
def aje (st:St)(F:List Nat)(f:CV)(n:Nat)(kept:Nat->Bool):Prop:=∀i<n,∀s,Kp F st s->∀Q:CV->St->Prop,Q (.bool (kept i)) s->fA R f [I i] s Q
def Wj (a:Nat)(F:List Nat)(st:St)(D:aU)(v:CV)(st':St):Prop:=v=.undef/\Kp F st st'/\∃F',cQ st' a F' D/\(∀b∈F',b∈F\/st.nx<=b)
def CN {f:CV}{kept:Nat->Bool}(h:iD st a F D vl vw vk bl bm Fw Fk)(X:D.waits.length<=1000000000)(hf:aje st [a,bl] f D.waits.length kept):R 111 [.ptr a 0,f] st (Wj a F st (D.settle kept)):=by
 refine bK ?_;rw[anz]
 have Zu:∀s:St,bt .slice vw s=.ok (I D.waits.length) s:=by
  intro s
  by_cases h0:0<D.waits.length
  .obtain⟨b,h1,h2,J⟩:=tL h h0;subst h2;rfl
  .have e:iv D.waits=[]:=by
    have:D.waits=[]:=aIh.1 uM;rw[this];rfl
   have M:D.waits.length=0:=uM
   rcases h.waits with⟨rfl,_⟩|⟨b,l,t,g,rfl,_⟩|⟨b,n,rfl,h2,J,_⟩
   .rw[M];rfl
   .rw[M];rfl
   .rw[e]at J;simp at J;omega
 simp[eQ,h.main,Zu];refine bG (λn S s=>∃i L,i+n=D.waits.length/\S=[.ptr a 0,f,vw,I D.waits.length,I i]/\Kp [a,bl] st s/\iD s a F {D with aq:=L} vl vw vk bl bm Fw Fk/\L.length=D.aq.length/\gG kept i L (D.waits.drop i)=(D.settle kept).aq) ?_ (n:=D.waits.length) ⟨0,D.aq,wb,rfl,Kp.refl _ _,h,rfl,by simp[aU.settle]⟩;rintro n S s k ⟨i,L,hi,rfl,u,c,Z,hs⟩ next;obtain⟨⟨E,n2,n3,W⟩,⟨n5,n6,V⟩,⟨n8,n9⟩,I4,Ti,LI⟩:=c.apart
 have d:∀b,b=a\/b=bl\/b=bm\/b∈Fw\/b∈Fk->b∈F/\b<s.nx:=λb hb=>by
  have:b∈F:=acG
  exact⟨this,c.lt b this⟩
 by_cases hc:i<D.waits.length
 .have eT:(i:Int)<D.waits.length:=by omega
  obtain⟨bw,QO,C,Tm⟩:=tL c (by simpa using Nat.lt_of_le_of_lt (aJL _) hc);simp at C Tm;have aa:=d bw (by simp[QO]);have y:=sE c.xW
  have jT:((iv D.waits).drop (i*513)).take 513=vj D.waits[i]:=by
   unfold iv;rw[th y i I2];simp
  have Rf:i*513+513<=(iv D.waits).length:=by unfold iv;rw[fg y];simp;omega
  have j:=c.xW _ (aIc (l:=D.waits) hc);have T:(vj D.waits[i]).length=513:=by simp[vj,j.1]
  have ku:bh (vj D.waits[i])=true:=by simp[vj,bu]
  have hz:([CV.int .i64 0]++zr 512).length=513:=wb
  have Q:IntKind.i64.wrap ((i:Int)+1)=((i+1:Nat):Int):=abG
  simp[eT,gU,C,gp hc (.inr (aHK _)),Tm,jT,Rf,ku];rw[dU _ _ (by rw[T];simp)];refine⟨uM,hf i hc _ ((u.new _).set _ (.inr u.nx) wb) _ ?_⟩;have v:=c.main;have r:=d a (.inl rfl);have U:=d bl (.inr (.inl rfl));obtain⟨t,g,gr,Y,e1,M,e3⟩:=c.aq;simp at Y;have B:(D.waits[i]).1<L.length:=j.2;have Ff:Kp [a,bl] st (St.set (St.new s (.cells (CV.int .i64 0::zr 512) 195 false)) s.nx (.cells (vj D.waits[i]) 195 false)):=(u.new _).set _ (.inr u.nx) wb
  have o:iD (St.set (St.new s (.cells (CV.int .i64 0::zr 512) 195 false)) s.nx (.cells (vj D.waits[i]) 195 false)) a F {D with aq:=L} vl vw vk bl bm Fw Fk:=c.mono wb λb hb=>by
   have:=c.lt b hb;rw[ak _ _ _ _ uM,aX _ _ _ this]
  have O:=(show bl∈F/\bl<_ from⟨U.1,o.lt bl U.1⟩);have Ro:=aIe hc;rw[Ro]at hs;simp only[gG]at hs;cases A4:kept i with
  |false=>
   rw[A4]at hs;simp[Q];exact next (n-1) _ _ uM ⟨i+1,L,uM,by simp[C],Ff,o,Z,aco⟩
  |true=>
   rw[A4]at hs;have FY:(ai (D.waits[i]).2).length=512:=by simpa using j.1
   have z:=Ae (l:=L) c.xX;have Xz:(D.waits[i]).1*512+512<=(kQ L).length:=by unfold kQ;rw[fg z];simp;omega
   have G:∀h:0<(vj (D.waits[i]'hc)).length,(vj (D.waits[i]'hc))[0]'h=I (D.waits[i]'hc).1:=λ_=>rfl
   have Zv:List.take 512 (vj D.waits[i]).tail=ai (D.waits[i]).2:=by
    show List.take 512 (ai (D.waits[i]).2)=_;rw[aHS uM]
   have OQ:=o.main;have I9:=o.aq;obtain⟨t',g',K,FT,N,ab,A⟩:=I9;simp only at A;simp[OQ,G,T,Zv,Y,gp B (.inr (aHK _)),A,Xz,FY,bu,Q];refine next (n-1) _ _ uM ⟨i+1,L.set (D.waits[i]).1 (D.waits[i]).2,uM,by simp[C],Ff.set _ (.inl wb) O.2,?_,by simpa using Z,aco⟩
   have wZ:bz (kQ L) ((D.waits[i]).1*512) (ai (D.waits[i]).2)=kQ (L.set (D.waits[i]).1 (D.waits[i]).2):=by
    unfold kQ;rw[yq z _ (by simpa using B) _ FY,List.map_set]
   rw[wZ];obtain⟨m,E9,P⟩:=o.now;refine⟨o.eq,o.nd,o.lt,?_,⟨t',g',K,by simpa using FT,N,?_,wb⟩,o.waits.mono λb hb=>ak _ _ _ _ λe=>n6 (e▸hb),⟨m,E9.mono (ak _ _ _ _ (aIG n5)),P⟩,o.keep.mono λb hb=>ak _ _ _ _ λe=>V (e▸hb),?_,?_,?_⟩
   .rw[ak _ _ _ _ E];exact o.main
   .have:∀x∈L.set (D.waits[i]).1 (D.waits[i]).2,x.length=512:=λx p=>by
     rcases aJN p with p|rfl
     .exact c.xX x p
     .exact j.1
    unfold kQ;rw[fg (Ae this)];simp
   .intro x p;rcases aJN p with p|rfl
    .exact c.xX x p
    .exact j.1
   .intro w X;simpa using c.xW w X
   .simpa using c.size
 .have eT:¬(i:Int)<D.waits.length:=by omega
  have r:=d a (.inl rfl);have v:(St.new s (.map [] 0)).m.g a=_:=(aX _ _ _ r.2).trans c.main;simp[eT,mc,v,bz];have yV:i=D.waits.length:=uM
  rw[yV,List.drop_length]at hs;simp only[gG]at hs;have H:Kp F st (St.set (St.new s (.map [] 0)) a (.cells [vl,.ae,.map s.nx,I D.done,.bool D.dead,.bool D.set,I D.left,vk] 137 false)):=((u.mono (by simp only[aHJ,aIo,aJj];rintro q (rfl|rfl);exact .inl r.1;exact .inl (d _ wb).1)).new _).set _ (.inl r.1) (by have:=r.2;simp;omega);refine⟨rfl,H,a::bl::s.nx::([]++Fk),⟨vl,.ae,vk,bl,s.nx,[],Fk,rfl,?_,?_,by simp[aU.settle],?_,.inl ⟨rfl,rfl,rfl⟩,⟨[],?_,λi=>rfl⟩,?_,?_,by simp[aU.settle],?_⟩,?_⟩
  .have hF:∀b∈Fk,b≠s.nx:=λb hb=>Nat.ne_of_lt (d b TL).2;simp only[aHX,aHJ,aIm,aJf];exact⟨⟨E,Nat.ne_of_lt r.2,W⟩,⟨Nat.ne_of_lt (d bl wb).2,V⟩,λh=>hF _ h rfl,Ti⟩
  .intro b hb;simp only[aHJ,aIm]at hb;simp;rcases hb with rfl|rfl|rfl|hb
   .omega
   .have:=(d b wb).2;omega
   .omega
   .have:=(d b TL).2;omega
  .have:=c.aq;have uF:L=gG kept 0 D.aq D.waits:=hs;simp only[aU.settle,<-uF];exact this.mono ((ak _ _ _ _ (aIG E)).trans (aX _ _ _ (d bl wb).2))
  .refine(dd.new s).mono ?_;exact ak _ _ _ _ uM
  .refine c.keep.mono λb hb=>?_;exact(ak _ _ _ _ (λe:b=a=>W (e▸hb))).trans (aX _ _ _ (d b TL).2)
  .simp only[aU.settle]at hs⊢;rw[<-hs];exact c.xX
  .simp only[aU.settle,pJ];exact h.size
  .intro b hb;simp only[aHJ,aIm]at hb;rcases hb with rfl|rfl|rfl|hb
   .exact .inl r.1
   .exact .inl (d b wb).1
   .exact .inr u.nx
   .exact .inl (d b TL).1
end
section
variable {st st':St} {a:Nat} {F:List Nat} {D D':aU} {vl vw vk:CV} {bl bm:Nat} {Fw Fk:List Nat}
abbrev tD (l:List Bool):List CV:=l.map .bool
def Sl.bL {X:List Nat}{v:CV}{k:Nat}{L:List CV}(h:Sl st X v k L):v.isAny=false/\cF v=true/\v.cK=[v]:=by
 rcases h with⟨rfl,_⟩|⟨b,off,len,cap,grow,rfl,_⟩<;>exact⟨rfl,rfl,rfl⟩
def UU {v:CV}{keep:List Bool}{b:Nat}(h:Sl st [] v 1 (tD keep))(d:st.m.g b=some (.cells [v] 53 false))(i:Nat){Q:CV->St->Prop}(c:Q (.bool (AP keep i)) st):R 112 [I i,.ptr b 0] st Q:=by
 refine bK ?_;rw[anx];have hl:=h.len keep.length wb uM st;simp only[az,d,ar,aHG,aw,hl,af]
 by_cases hi:i<keep.length
 .simp[hi,d];have:AU (some true) 1 v (I i) st=Lim.idx 1 v (I i) st:=rfl;rw[this];refine h.idx Yy _ ?_
  simpa[AP,List.getD,hi]using c
 .simp[hi,AU,cV]
  simpa[AP,List.getD,aIN (show keep.length<=i from uM)]using c
def vW (a:Nat)(F:List Nat)(st:St)(D:aU)(st':St):Prop:=Kp F st st'/\∃F',cQ st' a F' D/\(∀b∈F',b∈F\/st.nx<=b)
def Iw (h:iD st a F D vl vw vk bl bm Fw Fk){v:CV}{keep:List Bool}(l:D.waits.length<=1000000000)(g:Sl st [a,bl] v 1 (tD keep)):R 65 [.ptr a 0,v] st λ_ st'=>vW a F st (D.za keep) st':=by
 refine bK ?_;rw[w65];obtain⟨k,q,j⟩:=g.bL;have r:=h.lt a h.m;simp[k];rw[j];have d:Kp [] st (St.new st (.cells [v] 53 false)):=(Kp.refl [] st).new _;have h1:=h.mono d.nx λb e=>aX _ _ _ (h.lt b e);refine(CN h1 l (kept:=AP keep) ?_).mono ?_
 .intro i hi s hs Q n;rw[dM];refine UU (v:=v) (keep:=keep) ?_ (b:=st.nx) ?_ i n
  .exact((g.mono (d.mono wb)).mono hs).eH wb
  .rw[hs.keep _ wb (by simp;exact⟨uM,by have:=h.lt bl acR;omega⟩)];simp
 .rintro _ s ⟨rfl,h2,F',c,o⟩;obtain⟨vl,vw,vk,bl,bm,Fw,Fk,c⟩:=c;have f:=λb e=>(o b e).imp id λh=>aIz d.nx h;simp[mc,c.main,bz];refine⟨((d.mono (G:=F) wb).trans h2 afk).set _ (.inl h.m) (c.lt a c.m),F',⟨vl,vw,vk,bl,bm,Fw,Fk,c.aeb rfl rfl rfl (aHK _) ?_ λb e p=>ak _ _ _ _ p⟩,f⟩;simp[aU.za,aU.settle]
def LX (h:iD st a F D vl vw vk bl bm Fw Fk):Sl st [a,bl] vk 1 (tD D.keep):=h.keep.sl λb c=>by
 obtain⟨⟨l,k,j,f⟩,⟨i,g,d⟩,_⟩:=h.apart;refine⟨?_,h.lt b (by rw[h.eq];simp[c])⟩;simp only[aHJ,aIo,aJj,aJf];exact⟨λe=>f (e▸c),λe=>d (e▸c)⟩
def xe (h:cQ st a F D)(e:D.waits.length<=1000000000):R 88 [.ptr a 0] st λx st'=>x=I D.flush.1/\vW a F st D.flush.2 st':=by
 have g:=h;obtain⟨vl,vw,vk,bl,bm,Fw,Fk,h⟩:=h;refine bK ?_;rw[w88];refine(xy g).mono ?_;rintro _ _ ⟨rfl,rfl⟩;rename_i o;unfold aU.flush
 by_cases f:D.dead=true
 .simp[f];exact⟨Kp.refl _ _,F,g,afk⟩
 .simp[f];refine(IC h).mono ?_;intro v s2 c
  by_cases d:D.out
  .rw[aHP d]at c;obtain⟨rfl,rfl⟩:=c;simp[d,eQ,h.main];exact Iw h e (LX h)
  .rw[aHM d]at c;obtain⟨rfl,k,p,n⟩:=c;simp[d];refine(CN n (kept:=λ_=>true) e ?_).mono ?_
   .intro i hi s hs Q j;rw[dM];refine bK ?_;simp only[aIm,aIJ];rw[anc];exact j
   .rintro _ s ⟨rfl,h3,F',m,l⟩;exact⟨k.trans h3 afk,F',m,λb c=>(l b c).imp id λh=>uM⟩
end
section
variable {st st':St} {a:Nat} {F:List Nat} {D D':aU} {vl vw vk:CV} {bl bm:Nat} {Fw Fk:List Nat}
def wg (h:cQ st a F D){i:Int}{v:CV}{s:iT}(jH:eA st)(z:D.waits.length<100000000)(hv:Sl st F v 1 (ai s))(hs:s.length=512):R 86 [.ptr a 0,I i,v] st λx st'=>x=I (D.write i s).1/\vW a F st (D.write i s).2 st':=by
 have S:=h;obtain⟨vl,vw,vk,bl,bm,Fw,Fk,h⟩:=h;refine bK ?_;rw[w86];refine(xy S).mono ?_;rintro _ _ ⟨rfl,rfl⟩;rename_i s1;unfold aU.write;have X:vW a F s1 D s1:=⟨Kp.refl _ _,F,S,afk⟩
 by_cases H:D.dead=true
 .simp[H,X]
 .obtain⟨t,g,gr,aa,K,f,k⟩:=h.aq;have r:∀s:St,bt .slice vl s=.ok (I D.aq.length) s:=by intro s;subst aa;rfl
  by_cases XB:i<0
  .simp[H,XB,X,jV]
  .by_cases HT:(D.aq.length:Int)<=i
   .simp[H,XB,HT,jV,h.main,r,X]
   .obtain⟨n,rfl⟩:∃n:Nat,i=n:=⟨i.toNat,uM⟩;have hn:n<D.aq.length:=by omega
    obtain⟨o,off,cap,grow,M⟩:∃o off cap grow,v=.slice o off 512 cap grow:=by
     rcases hv with⟨_,h⟩|⟨b,off,len,cap,grow,rfl,f,_⟩
     .have:=congrArg List.length h;simp[hs]at this
     .have:len=512:=by simp[hs]at f;omega
      subst this;exact⟨b,off,cap,grow,rfl⟩
    obtain⟨A,al,l,tv,gv,G,Xi,L0⟩:o∉F/\o<s1.nx/\∃l t g,s1.m.g o=some (.cells l t g)/\off+512<=l.length/\(l.drop off).take 512=ai s:=by
     rcases hv with⟨h,_⟩|⟨b,off,len,cap,grow,h,f,k,j⟩
     .rw[M]at h;cases h
     .rw[M]at h;cases h;rcases j with j|j
      .cases j
      .exact j
    obtain⟨m,E9,OQ⟩:=h.now
    have Rf:∀s:St,bt .slice vw s=.ok (I D.waits.length) s:=by
     intro s
     by_cases S:0<D.waits.length
     .obtain⟨b,K,f,k⟩:=tL h S;subst f;rfl
     .have e:iv D.waits=[]:=by
       have:D.waits=[]:=aIh.1 uM;rw[this];rfl
      have V:D.waits.length=0:=uM
      rcases h.waits with⟨rfl,_⟩|⟨b,l,t,g,rfl,_⟩|⟨b,n,rfl,f,k,_⟩
      .rw[V];rfl
      .rw[V];rfl
      .rw[e]at k;simp at k;omega
    obtain⟨blk,ab,Zz,Tn⟩:=IsMap.update (.inl E9) n (I D.waits.length);have ha:=h.lt a h.m;have ae:=h.lt bm acR;obtain⟨⟨n1,E,P,n4⟩,⟨n5,n6,n7⟩,⟨Y,n9⟩,I4,Ti,LI⟩:=h.apart;have L:o≠bm:=λe=>A (by rw[h.eq,e];simp);have ao:o≠a:=λe=>A (by rw[e];exact h.m);have e1:(St.set s1 bm blk).m.g a=s1.m.g a:=ak _ _ _ _ E;have V:(St.set s1 bm blk).m.g o=s1.m.g o:=ak _ _ _ _ L
    have am:grow=0\/1<=cap/\512<=cap:=by
     rcases hv with⟨h,_⟩|⟨b,off,len,cap,grow,h,f,k,j⟩
     .rw[M]at h;cases h
     .rw[M]at h;cases h;omega
    have OW:(ai s).length=512:=aco
    have jD:(St.skip (St.set s1 bm blk)).m.g s1.nx=none:=by
     rw[Gv,ak _ _ _ _ uM];exact jH _ (aHK _)
    have A8:gC [(0,513,.agg (I n::ai s))] (cH 1 (I 0::zr 512))=some (I n::ai s):=by
     simp[cE,cH,bz,OW]
    have mo:aZ (I 0::zr 512) [(0,1,I n),(1,512,.agg (ai s))] (St.skip (St.set s1 bm blk))=.ok (.agg (I n::ai s)) (St.skip (St.set s1 bm blk)):=by
     rw[dB];simp[cE,bz,OW]
    have uY:=jO (e:=195) (n:=1) jD A8;simp[H,XB,jV,eQ,h.main,r,Int.not_le.mpr (show(n:Int)<D.aq.length by omega),M,Rf,ab,e1,V,G,pM,L0];refine⟨am,Xi,?_⟩;rw[mo,af,uY,aP];have Z:Kp (bm::Fw) s1 (St.set (St.skip (St.set s1 bm blk)) s1.nx (.cells (I n::ai s) 195 false)):=(((Kp.refl _ s1).set _ (.inl wb) ae).skip).set _ (.inr (aHK _)) wb
    have Cm:cT .slice 513 (I 0::zr 512) (.slice s1.nx 0 1 1 0) (St.set (St.skip (St.set s1 bm blk)) s1.nx (.cells (I n::ai s) 195 false))=some (1,I n::ai s):=
     GZ (an _ _ _) uM (by simp[hs])
    rw[Cm]
    have ah:Own (St.set (St.skip (St.set s1 bm blk)) s1.nx (.cells (I n::ai s) 195 false)) vw 513 195 (iv D.waits) Fw:=h.waits.mono λb hb=>by
     have:=h.lt b (by rw[h.eq];simp[hb]);exact(ak _ _ _ _ uM).trans (ak _ _ _ _ (λe:b=bm=>Y (e▸hb)))
    obtain⟨v',u,c,RE,FZ,VH,J⟩:=ah.append (n:=1) (bytes:=520) (T:=I n::ai s) uM (by simp[hs]) (by simp[bu]) (λb hb=>by
     have:=h.lt b (by rw[h.eq];simp[hb]);simp;omega) (by
     have e:(iv D.waits).length=D.waits.length*513:=by unfold iv;rw[fg (sE h.xW)];simp
     rw[e];simp[hs];omega)
    rw[RE,aP];obtain⟨o1,o2⟩:=FZ.cF;have C:=Z.trans VH λq hq=>.inl aaa;have ac:u.m.g a=_:=(C.keep a ha (by simp;exact⟨E,P⟩)).trans h.main;have ad:=(Z.keep a ha (by simp;exact⟨E,P⟩)).trans h.main;have ag:=(Z.keep o al (by simp;exact⟨L,λe=>A (by rw[h.eq];simp[e])⟩)).trans G;simp[ac,ad,ag,o1,o2,Xi,L0,bz];have nj:D.dead=false:=by simpa using H
    have ed:({aq:=D.aq,waits:=D.waits++[(n,s)],done:=D.done,dead:=false,set:=D.set,left:=D.left,keep:=D.keep}:aU)={D with waits:=D.waits++[(n,s)]}:=by rw[<-nj]
    rw[ed,aHP hs];have d:∀b,b=a\/b=bl\/b=bm\/b∈Fw\/b∈Fk->b∈F:=λb hb=>acG
    have iS:∀b∈c,(b∈Fw\/s1.nx<=b):=λb hb=>(J b hb).1.imp id λh=>by simp at h;omega
    have N:=h.lt
    have B:iD (St.set u a (.cells [vl,v',.map bm,I D.done,.bool D.dead,.bool D.set,I D.left,vk] 137 false)) a (a::bl::bm::(c++Fk)) {D with waits:=D.waits++[(n,s)]} vl v' vk bl bm c Fk:=by
     have gV:∀b∈Fk,b<s1.nx:=λb hb=>N b (d b TL);have W:=λb hb=>aId (N b hb) C.nx;have U:∀b,b≠a->(St.set u a (.cells [vl,v',.map bm,I D.done,.bool D.dead,.bool D.set,I D.left,vk] 137 false)).m.g b=u.m.g b:=λb hb=>ak _ _ _ _ hb;have Rl:∀b∈F,b≠bm->b∉Fw->u.m.g b=s1.m.g b:=λb K f k=>C.keep b (N b K) (by simp;exact⟨f,k⟩);refine⟨rfl,?_,?_,wb,h.aq.mono ?_,?_,⟨_,(Tn E9).mono ?_,?_⟩,h.keep.mono ?_,h.xX,?_,h.size⟩
     .have aj:c.Nodup:=by rcases FZ with⟨_,_,rfl⟩|⟨_,_,_,_,_,_,rfl,_⟩|⟨_,_,_,_,_,rfl,_⟩<;>simp
      have p:∀b,b∈F->b∉Fw->b∉c:=λb K f k=>by
       rcases iS b k with j|j
       .exact f j
       .have:=N b K;omega
      simp only[aHX,aHJ,aHT,aJf,aIE];exact⟨⟨n1,E,p a h.m P,n4⟩,⟨n5,p bl (d _ wb) n6,n7⟩,⟨p bm (d _ wb) Y,n9⟩,aj,Ti,λx hx y hy e=>p y (d y (by simp[hy])) (λh=>LI y h hy) (e▸hx)⟩
     .intro b hb;show b<u.nx;simp only[aHJ,aHT]at hb;rcases hb with rfl|rfl|rfl|hb|hb
      .exact W _ h.m
      .exact W _ (d _ wb)
      .exact W _ (d _ wb)
      .exact(J b hb).2
      .exact W _ (d _ TL)
     .exact(U _ (aIG n1)).trans (Rl bl (d _ wb) n5 n6)
     .have e:iv (D.waits++[(n,s)])=iv D.waits++(I n::ai s):=by simp[iv,vj]
      show Own _ v' 513 195 (iv (D.waits++[(n,s)])) c;rw[e]
      exact FZ.mono λb hb=>U b λe=>by
       rcases iS b hb with j|j
       .exact P (e▸j)
       .omega
     .rw[U _ (aIG E),VH.keep bm zS Y,ak _ _ _ _ uM,Gv]
     .intro i;show _=Option.map _ (oU (D.waits++[(n,s)]) i);rw[Hg,yO]
      split
      .rfl
      .exact OQ i
     .intro b hb;exact(U _ (λe=>n4 (e▸hb))).trans (Rl b (d _ TL) (λe=>n9 (e▸hb)) (λh=>LI b h hb))
     .intro w z;rcases aHT.1 z with z|z
      .exact h.xW w z
      .simp only[aJb]at z;subst z;exact⟨hs,hn⟩
    have HQ:Kp F s1 (St.set u a (.cells [vl,v',.map bm,I D.done,.bool D.dead,.bool D.set,I D.left,vk] 137 false)):=(C.mono λq hq=>.inl (d q (by simp at hq;rcases hq with rfl|hq<;>simp[*]))).set _ (.inl h.m) (aId ha C.nx)
    have O:∀b∈a::bl::bm::(c++Fk),b∈F\/s1.nx<=b:=by
     intro b hb;simp only[aHJ,aHT]at hb;rcases hb with rfl|rfl|rfl|hb|hb
     .exact .inl h.m
     .exact .inl (d _ wb)
     .exact .inl (d _ wb)
     .exact(iS b hb).imp (λh=>d _ aaX) id
     .exact .inl (d _ TL)
    refine(IC B).mono ?_;intro x s6 hb
    by_cases Q:D.out
    .rw[aHP (show aU.out {D with waits:=D.waits++[(n,s)]}from Q)]at hb;obtain⟨rfl,rfl⟩:=hb;simp[Q];refine(Iw B zS (LX B)).mono ?_;rintro _ s7 ⟨h7,F',h8,h9⟩;exact⟨HQ.trans h7 O,F',h8,λb hb=>(h9 b hb).elim (O b) λh=>.inr (aIz HQ.nx h)⟩
    .rw[aHM (show¬aU.out {D with waits:=D.waits++[(n,s)]}from Q)]at hb;obtain⟨rfl,hk,hn,f⟩:=hb;simp[Q];exact⟨HQ.trans hk O,_,⟨_,_,_,_,_,_,_,f⟩,O⟩
def mH (L:List iT):aU:=⟨L,[],0,false,false,0,[]⟩
def BB (L:List iT)(st:St)(v:CV)(st':St):Prop:=Kp [] st st'/\∃a F,v=.tuple [.ptr a 0,I 0]/\cQ st' a F (mH L)/\∀b∈F,st.nx<=b
def LJ {c:St}{x:CV}{L:List iT}{t:TypeId}{g:Bool}{gr b:Nat}(f:Kp [] st c)(k:x=.slice b 0 L.length L.length gr)(e:gr=0\/gr=512)(n:c.m.g b=some (.cells (kQ L) t g))(p:st.nx<=b)(o:b<c.nx)(j:∀s∈L,s.length=512)(l:L.length<=65536):
 BB L st (.tuple [.ptr (c.nx+1) 0,I 0]) (St.new (St.new c (.map [] 0)) (.cells [x,.ae,.map c.nx,I 0,.bool false,.bool false,I 0,.ae] 137 false)):=by
 refine⟨(f.new _).new _,c.nx+1,(c.nx+1)::b::c.nx::([]++[]),rfl,⟨x,.ae,.ae,b,c.nx,[],[],rfl,?_,?_,?_,⟨t,g,gr,k,e,?_,?_⟩,.inl ⟨rfl,rfl,rfl⟩,⟨[],?_,λi=>rfl⟩,.inl ⟨rfl,rfl,rfl⟩,j,?_,l⟩,?_⟩
 .simp;omega
 .intro q d;simp at d;simp;rcases d with rfl|rfl|rfl<;>omega
 .exact au _ _
 .show(kQ L).length=_;unfold kQ;rw[fg (Ae j)];simp[mH]
 .show(St.new (St.new c _) _).m.g b=_;rw[aX _ _ _ zS,aX _ _ _ o];exact n
 .refine(dd.new c).mono ?_;rw[aX _ _ _ wb]
 .intro w hw;simp[mH]at hw
 .intro q d;have:=f.nx;simp at d;rcases d with rfl|rfl|rfl<;>omega
def Ng (h:cQ st a F D)(p:D.dead=true)(w:0<D.aq.length):R 22 [.ptr a 0] st λv st'=>BB D.aq st v st':=by
 have y:=h;obtain⟨vl,vw,vk,bl,bm,Fw,Fk,h⟩:=h;refine bK ?_;rw[w22];have d:(kQ D.aq).length=D.aq.length*512:=by unfold kQ;rw[fg (Ae h.xX)];simp
 have hs:=h.size
 have i:bh (kQ D.aq)=true:=by
  simp only[bh,aKd,kQ,List.mem_flatten,aIk];rintro x ⟨l,⟨s,_,rfl⟩,o⟩;obtain⟨b,_,rfl⟩:=aIk.1 o;rfl
 simp[eQ,h.main,p];refine(Wb (h.aq.sl (X:=[]) wb (h.lt bl acR)) i uM).mono ?_;rintro x s2 ⟨F',m,k,j,u⟩;obtain⟨b,n,g,r,f,q,e⟩:=k.row uM;have:n=D.aq.length:=uM
 subst this;have c:=j b (by simp[g]);simp[dB,cE,bz,f];exact LJ m rfl (.inr rfl) e c.1 c.2 h.xX h.size
def lO:iT:=List.replicate 512 0
def qy:lO.length=512:=aIF
def aeC (n:Nat):cH n (zr 512)=kQ (List.replicate n lO):=by
 unfold cH kQ lO;rw[List.map_replicate]
 congr 2
def Qn {n:Nat}(f:1<=n)(h2:n<=65536):R 29 [I n] st λv st'=>BB (List.replicate n lO) st v st':=by
 refine bK ?_;rw[w29];have e:¬(n:Int)<1:=uM
 have d:¬(65536:Int)<n:=uM
 simp[e,d,qD,dB,cE,bz];refine⟨uM,?_⟩;have c:Kp [] st (St.new st (.cells (cH n (zr 512)) 142 false)):=(Kp.refl [] st).new _;refine LJ (x:=.slice st.nx 0 n n 0) c wb (.inl rfl) (b:=st.nx) (g:=false) (t:=142) ?_ (aHK _) wb ?_ abm
 .rw[<-aeC];exact au st _
 .intro s hs;rw[List.eq_of_mem_replicate hs];exact qy
end
def pZ (st:St)(X:List Nat)(v:CV)(L:List Bool):Prop:=(v=.ae/\L=[])\/∃b off cap,v=.slice b off L.length cap 0/\(L=[]\/(b∉X/\b<st.nx/\∃l o,st.m.g b=some (.ro l o)/\off+L.length<=l.length/\(l.drop off).take L.length=tD L))
section
variable {st st':St} {a:Nat} {F:List Nat} {D D':aU} {vl vw vk v:CV} {bl bm:Nat} {Fw Fk X:List Nat} {keep:List Bool}
def pZ.mono (h:pZ st X v keep)(c:Kp X st st'):pZ st' X v keep:=by
 rcases h with h|⟨b,off,cap,j,i⟩
 .exact .inl h
 .refine .inr ⟨b,off,cap,j,i.imp id ?_⟩;rintro⟨e,d,l,t,g,f⟩;exact⟨e,aId d c.nx,l,t,by rw[c.keep b d e];exact g,f⟩
def pZ.eH {Y:List Nat}(h:pZ st X v keep)(c:∀q∈Y,q∈X\/st.nx<=q):pZ st Y v keep:=by
 rcases h with h|⟨b,off,cap,j,i⟩
 .exact .inl h
 .refine .inr ⟨b,off,cap,j,i.imp id ?_⟩;rintro⟨g,f,e⟩;exact⟨λd=>by rcases c b d with h|h;exact g h;omega,f,e⟩
def pZ.len (h:pZ st X v keep)(s:St):bt .slice v s=.ok (I keep.length) s:=by
 rcases h with⟨rfl,rfl⟩|⟨b,off,cap,rfl,_⟩<;>rfl
def pZ.src (h:pZ st X v keep)(z:List CV):cT .slice 1 z v st=some (keep.length,tD keep):=by
 rcases h with⟨rfl,rfl⟩|⟨b,off,cap,rfl,g⟩
 .rfl
 .have e:cT .slice 1 z (.slice b off keep.length cap 0) st=(match dE 1 keep.length (.slice b off keep.length cap 0) st with|some s=>some (keep.length,s)|none=>none):=rfl;rw[e,kg];rcases g with rfl|⟨_,_,l,o,f,d,c⟩
  .rfl
  .by_cases h0:keep.length=0
   .rw[aHP h0];rw[aIh.1 h0];rfl
   .rw[aHM h0,aHP (.inl rfl),f];simp only[aJr];unfold gY;rw[aHP d,c]
def Sw (h:pZ st X v keep)(g:keep.length<=140737488355328):R 64 [v] st (nE 1 4 v (tD keep) st):=by
 refine bK ?_;rw[w64]
 by_cases c:v=.ae
 .subst c
  have:keep=[]:=by
   rcases h with⟨_,h⟩|⟨b,off,cap,f,_⟩
   .exact h
   .cases f
  subst this;simp;exact⟨[],Kp.refl _ _,.inl ⟨rfl,rfl,rfl⟩,wb,λ_=>rfl⟩
 .have f:us (aj .eql (some .slice) true v .ae st)=us (.ok (.bool false) st):=by
   rcases h with⟨h,_⟩|⟨b,off,cap,rfl,_⟩
   .exact absurd h c
   .rfl
  rw[f];have d:Kp [] st (St.new st (.cells [] 4 false)):=(Kp.refl [] st).new _;have j:=((h.eH (Y:=[]) wb).mono d).src [.bool false];simp only[af,ag,aHH,aHV,tB,aP,j]
  by_cases i:keep=[]
  .subst i;have e:bJ 4 1 1 (.slice st.nx 0 0 0 0) (some (([]:List Bool).length,tD [])) (St.new st (.cells [] 4 false))=.ok (.slice st.nx 0 0 0 0) (St.new st (.cells [] 4 false)):=rfl;rw[e,aP];exact⟨[st.nx],d,Own.empty st 1 4,wb,λe=>absurd e c⟩
  .have hp:=aJu.2 i;have l:Nat.beq keep.length 0=false:=by cases h:Nat.beq keep.length 0 with|false=>rfl|true=>rw[aIs]at h;omega
   have e:bJ 4 1 1 (.slice st.nx 0 0 0 0) (some (keep.length,tD keep)) (St.new st (.cells [] 4 false))=.ok (.slice (st.nx+1) 0 keep.length keep.length 1) (St.new (St.new st (.cells [] 4 false)) (.cells (tD keep) 4 true)):=by
    unfold bJ;simp only[l,aO,aHH,aHV,dH];have k:Nat.add 0 keep.length=keep.length:=aHN _;rw[k,aHM acd,aHP (by simp only[aIf,aIr,Nat.mul_eq,aJr];exact⟨uM,g,g⟩),au];simp[gY,St.new]
   rw[e,aP];refine⟨[st.nx+1],(d.new _),.inr (.inr ⟨st.nx+1,keep.length,rfl,hp,wb,rfl,au _ _⟩),wb,λe=>absurd e c⟩
def RX (h:cQ st a F D){i:Int}(hi:0<=i)(s:D.dead=false)(J:keep.length<=140737488355328)(H:pZ st X v keep):R 19 [.ptr a 0,I i,v] st λx st'=>x=I 0/\vW a F st {D with set:=true,left:=i,keep:=keep} st':=by
 have K:=h;obtain⟨vl,vw,vk,bl,bm,Fw,Fk,h⟩:=h;refine bK ?_;rw[w19];refine(xy K).mono ?_;rintro _ _ ⟨rfl,rfl⟩;rename_i u;simp[s,Int.not_lt.mpr hi,dB,cE,bz];refine(Sw H J).mono ?_;rintro x s2 ⟨f,n,l,k,S⟩;have h2:=h.mono n.nx λb hb=>n.keep b (h.lt b hb) wb;obtain⟨A,z⟩:=l.cF;obtain⟨⟨r,q,p,Q⟩,⟨E,C,P⟩,⟨B,O⟩,M,T,U⟩:=h.apart
 have c:∀b,b=a\/b=bl\/b=bm\/b∈Fw\/b∈Fk->b∈F/\b<u.nx:=λb hb=>by
  have:b∈F:=acG
  exact⟨this,h.lt b this⟩
 simp[mc,h2.main,bz,A,z,s];have j:∀blk b,b≠a->(St.set s2 a blk).m.g b=s2.m.g b:=λblk b hb=>ak _ _ _ _ hb;have d:∀b∈f,b∉F:=λb hb w=>by have:=(k b hb).1;have:=h.lt b w;omega
 refine⟨(n.mono wb).set _ (.inl h.m) (h2.lt a h.m),a::bl::bm::(Fw++f),⟨vl,vw,x,bl,bm,Fw,f,rfl,?_,?_,wb,h2.aq.mono (j _ _ (aIG r)),h2.waits.mono λb hb=>j _ _ (λe=>p (e▸hb)),?_,l.mono λb hb=>j _ _ λe=>d b hb (e▸h.m),h.xX,h.xW,h.size⟩,?_⟩
 .have o:f.Nodup:=by rcases l with⟨_,_,rfl⟩|⟨_,_,_,_,_,_,rfl,_⟩|⟨_,_,_,_,_,rfl,_⟩<;>simp
  simp only[aHX,aHJ,aHT,aJf,aIE];exact⟨⟨r,q,p,λh=>d a h (c a wb).1⟩,⟨E,C,λh=>d bl h (c bl wb).1⟩,⟨B,λh=>d bm h (c bm wb).1⟩,M,o,λx hx y G e=>d y G (e▸(c x aba).1)⟩
 .intro b hb;simp only[aHJ,aHT]at hb;show b<s2.nx;rcases hb with rfl|rfl|rfl|hb|hb
  .exact h2.lt _ (c _ wb).1
  .exact h2.lt _ (c _ wb).1
  .exact h2.lt _ (c _ wb).1
  .exact h2.lt _ (c _ TL).1
  .exact(k b hb).2
 .obtain⟨m,N,L⟩:=h2.now;exact⟨m,N.mono (j _ _ (aIG q)),L⟩
 .intro b hb;simp only[aHJ,aHT]at hb;rcases hb with rfl|rfl|rfl|hb|hb
  .exact .inl (c _ wb).1
  .exact .inl (c _ wb).1
  .exact .inl (c _ wb).1
  .exact .inl (c _ TL).1
  .exact .inr (k b hb).1
end
section
variable {v:CV}{X:List Nat}{n:Nat}
def aeP (k:Nat)(h:k<256):kD .or .u8 (k:Int) 128=some ((k%128+128:Nat):Int):=by
 have:∀k:Fin 256,kD .or .u8 ((k.val:Nat):Int) 128=some ((k.val%128+128:Nat):Int):=by decide+kernel
 exact this ⟨k,h⟩
def Pa (k:Nat):IntKind.u8.wrap (k:Int)=((k%256:Nat):Int):=by
 unfold IntKind.wrap;simp[IntKind.bits,IntKind.signed]
def tK (k:Nat)(h:k<18446744073709551616):IntKind.u64.wrap (k:Int)=(k:Int):=by
 unfold IntKind.wrap;simp[IntKind.bits,IntKind.signed];omega
def jY (k:Nat)(h:k<256):bP (UInt8.ofNat k)=.int .u8 (k:Int):=by
 unfold bP;have:(UInt8.ofNat k).toNat=k:=zS
 rw[this]
def Qf (k:Nat)(h:k<256)(d:Option kK)(c:Bool)(st:St):aj .or d c (.int .u8 (k:Int)) (.int .u8 128) st=.ok (.int .u8 ((k%128+128:Nat):Int)) st:=by
 have:aj .or d c (.int .u8 (k:Int)) (.int .u8 128) st=(match kD .or .u8 (k:Int) 128 with|some r=>.ok (.int .u8 r) st|none=>.bad):=rfl;rw[this,aeP k h]
def No (k:Nat)(d:Option kK)(c:Bool)(st:St):aj .shr d c (.int .u64 (k:Int)) (.int .u64 7) st=.ok (.int .u64 ((k/128:Nat):Int)) st:=by
 have:aj .shr d c (.int .u64 (k:Int)) (.int .u64 7) st=.ok (.int .u64 ((k:Int).fdiv 128)) st:=rfl;rw[this]
 congr 2
 rw[Int.fdiv_eq_ediv_of_nonneg _ uM];omega
section
variable {st st':St}
def nE.made {k e:Nat}{L:List CV}{x:CV}(h:nE k e v L st x st'):Made k e L st x st':=by obtain⟨F,c,b,a,_⟩:=h;exact⟨F,c,b,a⟩
def bI (a b:List UInt8):ai (a++b)=ai a++ai b:=ack
def Ji {b:List UInt8}(h:Sl st X v 1 (ai b))(P:b.length<=1000000)(H:n<=2147483647):R 166 [v,.int .u64 n] st (Made 1 5 (ai (b++uv n)) st):=by
 refine bK ?_;rw[amD];simp only[cM,aK,aL];refine(xq h uM).mono ?_;intro x O I;obtain⟨N,L,K,J⟩:=I.made;have E:∀m k,k<=m->k<=2147483647->(uv k).length<=5:=λm k _ h=>(kF k h).2;refine bG (λm z s=>∃u:Nat,∃x F a,m=u/\z=[.int .u64 u,x]/\a++uv u=uv n/\Kp [] st s/\Own s x 1 5 (ai (b++a)) F/\∀q∈F,st.nx<=q/\q<s.nx) ?_ (n:=n) ⟨n,x,N,[],rfl,rfl,rfl,L,by simpa using K,J⟩;rintro m z s k ⟨u,x,F,a,C,rfl,j,g,B,e⟩ next;have D:=C;clear C;subst D;have y:∃u,u=m:=⟨m,rfl⟩;obtain⟨u,y⟩:=y;subst y;have M:a.length<=5:=by have:=congrArg List.length j;have i:=(kF n H).2;rw[aHR]at this;omega
 have A:([CV.int .u8 0]:List CV).length=1:=rfl
 by_cases G:127<u
 .have d:(127:Int)<u:=by omega
  simp only[aK,aL,av,dh,af,ag,d,aIS,aIj]
  have w:dw (.toInt .u8) (.int .u64 u) s=.ok (.int .u8 ((u%256:Nat):Int)) s:=by
   show OR.ok (.int .u8 (IntKind.u8.wrap u)) s=_;rw[Pa]
  rw[w,af,Qf _ uM,af];refine KT 1 B uM (λq c=>(e q c).2) A rfl rfl rfl zS ?_;intro v' s' F' r p o;have f:=No u none true s';rw[av]at f;rw[f,af];refine next (u/128) _ _ uM ⟨u/128,v',F',a++[UInt8.ofNat (u%128+128)],rfl,rfl,?_,g.trans p λq c=>.inr (e q c).1,?_,λq c=>?_⟩
  .rw[<-j,jb G];simp
  .have:ai (b++(a++[UInt8.ofNat (u%128+128)]))=ai (b++a)++(CV.int .u8 ((u%256%128+128:Nat):Int)).cK:=by
    rw[<-aIq,bI (b++a)]
    congr 1
    show [bP _]=[_];rw[jY _ uM]
    congr 3;omega
   rw[this];exact r
  .obtain⟨l,i⟩:=o q c;exact⟨l.elim (λh=>(e q h).1) (λh=>aIz g.nx h),i⟩
 .have d:¬(127:Int)<u:=by omega
  simp only[aK,aL,av,dh,af,ag,d,aJm,aHH,aHV]
  have w:dw (.toInt .u8) (.int .u64 u) s=.ok (.int .u8 ((u%256:Nat):Int)) s:=by
   show OR.ok (.int .u8 (IntKind.u8.wrap u)) s=_;rw[Pa]
  rw[w,af];refine KT 1 B uM (λq c=>(e q c).2) A rfl rfl rfl zS ?_;intro v' s' F' r p o;refine⟨F',g.trans p λq c=>.inr (e q c).1,?_,λq c=>?_⟩
  .have:ai (b++uv n)=ai (b++a)++(CV.int .u8 ((u%256:Nat):Int)).cK:=by
    rw[<-j,<-aIq,bI (b++a),jL uM]
    congr 1
   rw[this];exact r
  .obtain⟨l,i⟩:=o q c;exact⟨l.elim (λh=>(e q h).1) (λh=>aIz g.nx h),i⟩
def tn {b:List UInt8}(h:Sl st X v 1 (ai b))(c:b.length<=1000000)(a:n<=2147483647):R 129 [v,I n] st (Made 1 5 (ai (b++uv n)) st):=by
 refine bK ?_;rw[ani];have f:¬(n:Int)<0:=uM
 have e:¬(2147483647:Int)<n:=uM
 have d:dw (.toInt .u64) (I n) st=.ok (.int .u64 n) st:=by
  show OR.ok (.int .u64 (IntKind.u64.wrap n)) st=_;rw[tK n uM]
 simp[f,e,d];exact Ji h c a
def R8 {b:List UInt8}{f:Bool}(h:Sl st X v 1 (ai b))(a:b.length<=1000000):R 188 [v,.bool f] st (Made 1 5 (ai (b++uv (if f=true then 1 else 0))) st):=by
 refine bK ?_;rw[amn];cases f
 .simp;exact tn (n:=0) h a uM
 .simp;exact tn (n:=1) h a uM
def D8 {b s:List UInt8}(h:Sl st X v 1 (ai b))(a:b.length<=1000000)(p:s.length<=1000000):R 128 [v,.str s] st (Made 1 5 (ai (b++(uv s.length++s))) st):=by
 refine bK ?_;rw[anj];have k:¬(2147483647:Int)<s.length:=uM
 simp[k];refine(tn h a uM).mono ?_;rintro x f ⟨F,d,i,c⟩;have hl:=(kF s.length uM).2;obtain⟨v',s2,F',o,m,l,e⟩:=i.append (n:=s.length) (bytes:=1) (T:=ai s) uM wb (bu s) (λb a=>(c b a).2) zS;have j:cT .str 1 [(.int .u8 0)] (.str s) f=some (s.length,ai s):=rfl;rw[j,o,aP];refine⟨F',d.trans l λq g=>.inr (c q g).1,by simpa[ai]using m,λb a=>⟨(e b a).1.elim (λh=>(c b h).1) (λh=>by have:=d.nx;omega),(e b a).2⟩⟩
end
end
section
variable {X:List Nat}{v:CV}{k n l:Nat}
section
variable {st st':St}
def lS (st:St)(F:List Nat)(v:CV)(k:Nat)(L:List CV):Prop:=∀X,(∀b∈F,b∉X)->Sl st X v k L
def lS.keep {F:List Nat}{L:List CV}(h:lS st F v k L)(e:Kp X st st')(d:∀b∈F,b∉X):lS st' F v k L:=λY c=>by
 have h1:=h (X++Y) λb a=>by simp;exact⟨d b a,c b a⟩
 exact(h1.mono (e.mono λq hq=>.inl aaa)).eH λq hq=>.inl aaa
def Own.aev {e:Nat}{L:List CV}{F:List Nat}(h:Own st v k e L F)(c:∀b∈F,b<st.nx):lS st F v k L:=λX d=>h.sl λb a=>⟨d b a,c b a⟩
def lS.nil {F:List Nat}{L:List CV}(h:lS st F v k L):Sl st [] v k L:=h [] wb
def lS.lo {F:List Nat}{L:List CV}(h:lS st F v k L)(c:0<k)(a:L.length=n*k)(b:l<=n)(s:St):∃v',aR k v (some (I l)) none s=.ok v' s/\lS st F v' k (L.drop (l*k)):=by
 obtain⟨v',e,_⟩:=h.nil.lo c a b s;refine⟨v',e,λX f=>?_⟩;obtain⟨i,d,g⟩:=(h X f).lo c a b s;rw[e]at d;cases d;exact g
def lS.hi {F:List Nat}{L:List CV}(h:lS st F v k L)(c:0<k)(a:L.length=n*k)(b:l<=n)(s:St):∃v',aR k v none (some (I l)) s=.ok v' s/\lS st F v' k (L.take (l*k)):=by
 obtain⟨v',e,_⟩:=h.nil.hi c a b s;refine⟨v',e,λX f=>?_⟩;obtain⟨i,d,g⟩:=(h X f).hi c a b s;rw[e]at d;cases d;exact g
def pq (st:St)(r:Nat)(F:List Nat)(L:List UInt8):Prop:=∃q v G,F=r::q::G/\F.Nodup/\(∀b∈F,b<st.nx)/\st.m.g r=some (.cells [.ptr q 0] 240 false)/\st.m.g q=some (.cells [v,.bool false] 238 false)/\lS st G v 1 (ai L)
def pq.keep {r:Nat}{F:List Nat}{L:List UInt8}(h:pq st r F L)(a:Kp X st st')(c:∀b∈F,b∉X):pq st' r F L:=by
 obtain⟨q,v,G,rfl,i,d,g,f,e⟩:=h;exact⟨q,v,G,rfl,i,λb hb=>aId (d b hb) a.nx,by rw[a.keep r (d r wb) (c r wb)];exact g,by rw[a.keep q (d q wb) (c q wb)];exact f,e.keep a λb hb=>c b TL⟩
def wQ {L:List UInt8}(h:Sl st X v 1 (ai L))(q:L.length<=1000000):R 116 [v] st λx st'=>∃r F,x=.ptr r 0/\Kp [] st st'/\pq st' r F L/\∀b∈F,st.nx<=b:=by
 refine bK ?_;rw[ant];refine(xq h uM).mono ?_;intro x f m;obtain⟨g,i,d,c⟩:=m.made;obtain⟨p,j⟩:=d.cF;have o3:=(d.sl (X:=[]) λb a=>⟨wb,(c b a).2⟩).bL.1;simp[dB,cE,bz,j,o3];have o:g.Nodup:=by rcases d with⟨_,_,rfl⟩|⟨_,_,_,_,_,_,rfl,_⟩|⟨_,_,_,_,_,rfl,_⟩<;>simp
 refine⟨(i.new _).new _,(f.nx+1)::f.nx::g,⟨f.nx,x,g,rfl,?_,?_,au _ _,?_,?_⟩,?_⟩
 .simp only[aHX,aHJ,aJf];exact⟨⟨uM,λh=>by have:=(c _ h).2;omega⟩,λh=>by have:=(c _ h).2;omega,o⟩
 .intro b a;simp only[aHJ]at a;simp;rcases a with rfl|rfl|a
  .omega
  .omega
  .have:=(c b a).2;omega
 .rw[aX _ _ _ wb];exact au _ _
 .refine Own.aev (e:=5) (d.mono λb a=>?_) λb a=>?_
  .have:=(c b a).2;rw[aX _ _ _ zS,aX _ _ _ this]
  .have:=(c b a).2;simp;omega
 .intro b a;have:=i.nx;simp only[aHJ]at a;rcases a with rfl|rfl|a
  .omega
  .omega
  .exact(c b a).1
variable {r:Nat} {F:List Nat} {L:List UInt8}
def rm (h:pq st r F L):R 117 [.ptr r 0] st λv st'=>v=.bool true/\st'=st:=by
 obtain⟨q,v,G,rfl,e,d,b,a,c⟩:=h;refine bK ?_;rw[ans];simp[jV,b];refine bK ?_;rw[amL];simp[jV,a]
def LV (h:pq st r F L):R 156 [.ptr r 0] st λv st'=>v=I L.length/\st'=st:=by
 obtain⟨q,v,G,rfl,e,d,c,b,a⟩:=h;refine bK ?_;rw[amK];simp[eQ,c];refine bK ?_;rw[amk];simp[eQ,jV,b,a.nil.len L.length wb uM]
def VX (h:pq st r F L):R 118 [.ptr r 0] st λv st'=>v=.bool (decide (L=[]))/\st'=st:=by
 refine bK ?_;rw[anr];refine(rm h).mono ?_;rintro _ _ ⟨rfl,rfl⟩;simp;refine(LV h).mono ?_;rintro _ _ ⟨rfl,rfl⟩;simp
def lS.mono {F G:List Nat}{L:List CV}(h:lS st G v k L)(c:∀b∈G,b∈F):lS st F v k L:=λX a=>h X λb d=>a b (c b d)
def Lj (h:pq st r F L){q:Nat}(p:st.m.g r=some (.cells [.ptr q 0] 240 false))(s:n<=L.length):R 160 [.ptr q 0,I n] st λx st'=>lS st' F x 1 (ai (L.take n))/\Kp F st st'/\st'.nx=st.nx/\pq st' r F (L.drop n)/\st'.m.g r=st.m.g r:=by
 obtain⟨a,v,G,rfl,f,i,y,B,w⟩:=h;have:a=q:=by rw[y]at p;cases p;rfl
 subst this;refine bK ?_;rw[amG];obtain⟨N,M,K⟩:=w.hi (n:=L.length) uM wb s st;obtain⟨d,J,z⟩:=w.lo (n:=L.length) uM wb s st;obtain⟨O,H,E⟩:=z.nil.bL;have j:=f;simp only[aHX,aHJ,aJf]at f;simp[eQ,mc,B,M,J,bz,H,E];have A:Kp (r::a::G) st (St.set st a (.cells [d,.bool false] 238 false)):=(Kp.refl _ st).set _ (.inl wb) (i a wb);have c:Kp [a] st (St.set st a (.cells [d,.bool false] 238 false)):=(Kp.refl _ st).set _ (.inl wb) (i a wb);have u:∀b∈G,b∉[a]:=λb hb e=>f.2.1 (by simp at e;exact e▸hb);have o:(St.set st a (.cells [d,.bool false] 238 false)).m.g r=st.m.g r:=ak _ _ _ _ f.1.1;have D:ai (L.take n)=(ai L).take (n*1):=ack
 have C:ai (L.drop n)=(ai L).drop (n*1):=ack
 refine⟨?_,A,⟨a,d,G,rfl,j,i,by rw[o];exact y,an _ _ _,?_⟩,o⟩
 .rw[D];exact(K.keep c u).mono (λb hb=>TL)
 .rw[C];exact z.keep c u
def Lh {f:Nat}(a:f=158\/f=159)(h:pq st r F L)(v:CV):R f [.ptr r 0,v,.bool true] st λx st'=>x=v/\st'=st:=by
 obtain⟨q,v',G,rfl,g,e,c,b,d⟩:=h;refine bK ?_ (by rcases a with rfl|rfl<;>rfl);rcases a with rfl|rfl
 .rw[amI];simp[eQ,c,b]
 .rw[amH];simp[eQ,c,b]
def abI (k:Nat)(h:k<256):kD .and .u8 (k:Int) 127=some ((k%128:Nat):Int):=by
 have:∀k:Fin 256,kD .and .u8 ((k.val:Nat):Int) 127=some ((k.val%128:Nat):Int):=by decide+kernel
 exact this ⟨k,h⟩
def aeO (a m:Nat)(k:Nat)(h:a<2^k)(b:a+m*2^k<18446744073709551616):kD .or .u64 (a:Int) ((m*2^k:Nat):Int)=some ((a+m*2^k:Nat):Int):=by
 have e:kD .or .u64 (a:Int) ((m*2^k:Nat):Int)=some (IntKind.u64.wrap ((BitVec.ofInt 64 (a:Int)|||BitVec.ofInt 64 ((m*2^k:Nat):Int)).toNat:Int)):=rfl;rw[e,BitVec.ofInt_natCast,BitVec.ofInt_natCast,BitVec.toNat_or,BitVec.toNat_ofNat,BitVec.toNat_ofNat,aJC uM,aJC uM,Nat.or_comm,aJO m,<-Nat.two_pow_add_eq_or_of_lt h,tK _ (by rw[aJO];omega),aJO,aKL]
def R9 (h:Sl st X v 1 (ai (uv n++L)))(D:n<=2147483647):R 193 [v] st λx st'=>x=.tuple [.int .u64 n,I (uv n).length]/\st'=st:=by
 refine bK ?_;rw[amj];have hlen:=h.len (uv n++L).length wb uM st;simp only[cM,aK,aL,hlen,af];have C:=(kF n D).2;refine bG (λm w s=>∃i u a:Nat,∃b,m+i=(uv n).length/\w=[.int .u64 a,v,I (uv n++L).length,I i]/\b++uv u=uv n/\b.length=i/\a+u*128^i=n/\a<128^i/\s=st) ?_ (n:=(uv n).length) ⟨0,n,0,[],wb,rfl,rfl,rfl,wb,wb,rfl⟩;rintro m w s k ⟨i,u,a,b,hm,rfl,j,hi,G,E,rfl⟩ next;have B:0<(uv u).length:=by by_cases d:127<u;rw[jb d];simp;rw[jL uM];simp
 have FW:i<(uv n).length:=by rw[<-j,aHR];omega
 have H:(i:Int)<(uv n++L).length:=aeU
 have A:u<=n:=by
  have:1<=128^i:=Nat.one_le_pow _ _ uM;have:=Nat.mul_le_mul_left u this;omega
 have A6:∀hh,(ai (uv n++L))[i]'hh=.int .u8 ((if 127<u then u%128+128 else u:Nat):Int):=by
  intro hh;have e:uv n++L=b++(uv u++L):=by rw[<-j,aIq]
  have:(ai (uv n++L))[i]?=some (.int .u8 ((if 127<u then u%128+128 else u:Nat):Int)):=by
   rw[e,bI,aIY zS];simp only[bF,hi,Nat.sub_self]
   by_cases d:127<u
   .rw[jb d,aHP d];show some (bP _)=_;rw[jY _ uM]
   .rw[jL uM,aHM d];show some (bP _)=_;rw[jY _ uM]
  rw[aHO hh]at this;exact aJX this
 have o:i<(ai (uv n++L)).length:=zS
 simp only[aK,aL,av,c8,af,ag,H,aIS,aIj];refine h.idx o _ ?_;rw[A6];have Z:¬(i:Int)=10:=uM
 have J:¬(i:Int)=9:=uM
 simp only[cC,af,Z,aJm,aG,ba,aHY,aHH,aHV,aF];have y:(if 127<u then u%128+128 else u)<256:=acs
 generalize q:(if 127<u then u%128+128 else u)=c at y;have p:c%128=u%128:=by rw[<-q];split<;>omega
 have Y:∀s,aj .and none true (.int .u8 (c:Int)) (.int .u8 127) s=.ok (.int .u8 ((c%128:Nat):Int)) s:=λs=>by
  have:aj .and none true (.int .u8 (c:Int)) (.int .u8 127) s=(match kD .and .u8 (c:Int) 127 with|some r=>.ok (.int .u8 r) s|none=>.bad):=rfl;rw[this,abI c y]
 have N:128^i<=128^4:=aKm uM uM;have g:2^(7*i)=128^i:=by rw[Nat.pow_mul]
 have O:u%128*128^i<=n:=by
  have:u%128*128^i<=u*128^i:=aIB _ (Nat.mod_le _ _);omega
 have W:∀s,dw (.toInt .u64) (.int .u8 ((c%128:Nat):Int)) s=.ok (.int .u64 ((c%128:Nat):Int)) s:=λs=>by
  show OR.ok (.int .u64 (IntKind.u64.wrap _)) s=_;rw[tK _ uM]
 have V:IntKind.i64.wrap (7*(i:Int))=((7*i:Nat):Int):=abG
 have U:∀s,aj .shl none false (.int .u64 ((c%128:Nat):Int)) (.int .i64 ((7*i:Nat):Int)) s=.ok (.int .u64 ((u%128*2^(7*i):Nat):Int)) s:=λs=>by
  have e:aj .shl none false (.int .u64 ((c%128:Nat):Int)) (.int .i64 ((7*i:Nat):Int)) s=if ((7*i:Nat):Int)<0 then .bad else .ok (.int .u64 (IntKind.u64.wrap (((c%128:Nat):Int)*2^(min ((7*i:Nat):Int).toNat 64)))) s:=rfl
  rw[e,aHM uM,aJS,aIC uM,p];have M:((u%128:Nat):Int)*2^(7*i)=((u%128*2^(7*i):Nat):Int):=wb
  rw[M,tK _ (by rw[g];omega)]
 have T:∀s,aj .or none false (.int .u64 (a:Int)) (.int .u64 ((u%128*2^(7*i):Nat):Int)) s=.ok (.int .u64 ((a+u%128*2^(7*i):Nat):Int)) s:=λs=>by
  have e:aj .or none false (.int .u64 (a:Int)) (.int .u64 ((u%128*2^(7*i):Nat):Int)) s=(match kD .or .u64 (a:Int) ((u%128*2^(7*i):Nat):Int)with|some r=>.ok (.int .u64 r) s|none=>.bad):=rfl;rw[e,aeO a (u%128) (7*i) (by rw[g];exact E) (by rw[g];omega)]
 have S:IntKind.i64.wrap ((i:Int)+1)=((i+1:Nat):Int):=abG
 have Q:aj .eql (some .int) true (I i) (.int .i64 9) s=.ok (.bool false) s:=by rw[av,cC];simp only[J,aJm]
 have P:∀s,aj .lss none true (.int .u8 (c:Int)) (.int .u8 128) s=.ok (.bool (decide (c<128))) s:=λs=>by
  rw[av,c8];congr 2;simp only[aIi];omega
 simp only[Q,af,aG,bU,aHH,aIj,aHV,aHY,aF,ag,Y,W,jj,V,U,T,P,cI,S];have AW:=(Nat.mod_add_div u 128).symm
 by_cases d:127<u
 .have f:¬c<128:=by rw[<-q,aHP d];omega
  simp only[f,aJm,aHH,aHV]
  have z:u*128^i=u%128*128^i+u/128*128^(i+1):=by
   conv=>lhs;rw[AW]
   rw[aIV,aKt,aJO 128 (u/128),Nat.mul_assoc,aJO 128]
  have e7:u%128*128^i<=127*128^i:=aIB _ uM;refine next (m-1) _ _ uM ⟨i+1,u/128,a+u%128*2^(7*i),b++[UInt8.ofNat (u%128+128)],uM,rfl,?_,zS,by rw[g];omega,by rw[g,aKt];omega,rfl⟩;rw[<-j,jb d];simp
 .have f:c<128:=by rw[<-q,aHM d];omega
  simp only[f,aIS,aIj];have K:(uv n).length=i+1:=by rw[<-j,jL uM];simp;omega
  rw[K];have z:u%128=u:=uM
  rw[z,g,G];exact⟨rfl,afp⟩
end
end
section
variable {st st':St} {r:Nat} {F:List Nat} {L:List UInt8}
def SN (r:Nat)(F:List Nat)(L:List UInt8)(st st':St):Prop:=Kp F st st'/\st'.nx=st.nx/\pq st' r F L
def TT {n:Nat}(h:1<(uv n).length):∃b,(uv n)[(uv n).length-1]?=some b/\b≠0:=by
 have a:∀m n,n<=m->0<n->∃b,(uv n)[(uv n).length-1]?=some b/\b≠0:=by
  intro m
  induction m with
  |zero=>intro n l j;omega
  |succ m d=>
   intro n l j
   by_cases g:127<n
   .obtain⟨b,h3,i⟩:=d (n/128) uM uM;have p:0<(uv (n/128)).length:=by by_cases f:127<n/128;rw[jb f];simp;rw[jL uM];simp
    refine⟨b,?_,i⟩;rw[jb g,aIg,aJh];obtain⟨k,c⟩:∃k,(uv (n/128)).length=k+1:=⟨(uv (n/128)).length-1,uM⟩;rw[c,aHI];rw[c,aJh]at h3;exact h3
   .rw[jL uM];refine⟨_,rfl,λe=>?_⟩;have:=congrArg UInt8.toNat e;simp at this;omega
 refine a n n (aHK _) ?_
 by_cases o:n=0
 .subst o;rw[jL uM]at h;simp at h
 .omega
def pq.sl (h:pq st r F L):∃q v,st.m.g r=some (.cells [.ptr q 0] 240 false)/\st.m.g q=some (.cells [v,.bool false] 238 false)/\Sl st [] v 1 (ai L):=by
 obtain⟨q,v,G,rfl,e,d,c,b,a⟩:=h;exact⟨q,v,c,b,a.nil⟩
def YI {n:Nat}(h:pq st r F (uv n++L))(g:n<=2147483647):R 157 [.ptr r 0] st λx st'=>x=.tuple [.int .u64 n,.bool true]/\SN r F L st st':=by
 refine bK ?_;rw[amJ];refine(rm h).same ?_;obtain⟨q,v,f,m,l⟩:=h.sl;simp[eQ,f,m];refine(R9 l g).same ?_;have hl:=(kF n g).1;have y:=(kF n g).2;have p:R 160 [.ptr q 0,I (uv n).length] st λJ s3=>SN r F L st s3:=(Lj h f (n:=(uv n).length) wb).mono λx s ⟨_,k1,u,k3,_⟩=>⟨k1,u,by simpa using k3⟩
 have H:1<(uv n).length->Lim.idx 1 v (I (((uv n).length-1:Nat):Int)) st λB=>∃c:Nat,B=.int .u8 c/\c≠0:=λi=>by
  obtain⟨b,G,E⟩:=TT i;have d:(uv n).length-1<(ai (uv n++L)).length:=zS
  refine l.idx d _ ?_
  have C:(ai (uv n++L))[(uv n).length-1]'d=bP b:=by
   have:(ai (uv n++L))[(uv n).length-1]?=some (bP b):=by
    rw[bI,aJi zS];simp only[ai,aIu,G];rfl
   rw[aHO d]at this;exact aJX this
  exact⟨b.toNat,C,λe=>E (by apply UInt8.toNat_inj.1;simp;omega)⟩
 generalize (uv n).length=k at*;have o:¬k=0:=uM
 by_cases i:1<k
 .have D:IntKind.i64.wrap ((k:Int)-1)=((k-1:Nat):Int):=by rw[bA uM];omega
  have key:=H i;unfold Lim.idx at key;have j:(1:Int)<k:=uM
  simp[o,j,D,jV,AU,f,m];refine lT key λa A=>lT A λx w=>?_;obtain⟨c,rfl,z⟩:=w;simp[z,p]
 .have j:¬(1:Int)<k:=by omega
  simp[o,j,jV,AU,f,p]
def lB {n m:Nat}(h:pq st r F (uv n++L))(b:n<=m)(g:m<=2147483647):R 119 [.ptr r 0,I m] st λx st'=>x=I n/\SN r F L st st':=by
 refine bK ?_;rw[anq];simp;refine(YI h uM).mono ?_;rintro _ s1 ⟨rfl,d,c,a⟩
 have f:dw (.toInt .i64) (.int .u64 (n:Int)) s1=.ok (I n) s1:=by
  show OR.ok (.int .i64 (IntKind.i64.wrap _)) s1=_;rw[bA uM]
 have e:(n:Int)<=2147483647:=uM
 have j:(n:Int)<=m:=uM
 have i:(0:Int)<=m:=uM
 simp[f,e,b];refine(Lh (.inl rfl) a (I n)).same ?_;exact⟨rfl,d,c,a⟩
def PS {f:Bool}(h:pq st r F (uv (if f=true then 1 else 0)++L)):R 176 [.ptr r 0] st λx st'=>x=.bool f/\SN r F L st st':=by
 refine bK ?_;rw[amw];simp;refine(lB (m:=1) h acs uM).mono ?_;rintro _ b ⟨rfl,a⟩;cases f<;>simp[a]
def El {s:List UInt8}{m:Nat}(h:pq st r F (uv s.length++(s++L)))(f:s.length<=m)(g:m<=2147483647):R 120 [.ptr r 0,I m] st λx st'=>x=.str s/\SN r F L st st':=by
 refine bK ?_;rw[anp];simp;refine(lB h f g).mono ?_;rintro _ u ⟨rfl,i,z,b⟩;refine(rm b).same ?_;obtain⟨q,v,d,k,j⟩:=b.sl;have A:¬((s++L).length:Int)<s.length:=aeU
 simp[jV,eQ,d,k,j.len (s++L).length wb uM];have p:¬((s.length:Int)+L.length<s.length):=uM
 simp[p];refine(Lj b d (n:=s.length) wb).mono ?_;rintro x s2 ⟨c,e,y,a,w⟩;have o:(s++L).take s.length=s:=wb
 have l:(s++L).drop s.length=L:=wb
 rw[o]at c;rw[l]at a;rw[c.nil.str,af];refine(Lh (.inr rfl) a (.str s)).same ?_;exact⟨rfl,i.trans e afk,uM,a⟩
end
