import Derived.Test.YtomffjeofpafnaaGreatDoorLimF
namespace Lim
open Go
noncomputable section
abbrev I (n:Int):CV:= .int .i64 n
def ai (l:List UInt8):List CV:=l.map bN
@[simp] theorem bF (l:List UInt8):(ai l).length=l.length:=by simp[ai]
def Sl (st:St)(X:List Nat)(v:CV)(k:Nat)(L:List CV):Prop:=
 (v= .ae/\L=[])\/
 ∃b off len cap grow,v= .slice b off len cap grow/\L.length=len*k/\(len<=cap/\(grow=0\/grow=k))/\
  (len=0\/(b∉X/\b<st.next/\∃l t g,st.mem.get b=some (.cells l t g)/\off+len*k<=l.length/\(l.drop off).take (len*k)=L))
theorem Sl.mono {st st':St}{X:List Nat}{v:CV}{k:Nat}{L:List CV}(h:Sl st X v k L)(hk:Kp X st st'):Sl st' X v k L:=by
 rcases h with h|⟨b,off,len,cap,grow,h1,h2,h3,h4⟩
 ·exact .inl h
 ·refine .inr ⟨b,off,len,cap,grow,h1,h2,h3, ?_⟩;rcases h4 with h4|⟨h5,h6,l,t,g,h7,h8⟩
  ·exact .inl h4
  ·exact .inr ⟨h5,aBs h6 hk.next,l,t,g,by rw[hk.keep b h6 h5];exact h7,h8⟩
theorem Sl.ef {st:St}{X Y:List Nat}{v:CV}{k:Nat}{L:List CV}(h:Sl st X v k L)(hy:∀q∈Y,q∈X\/st.next<=q):Sl st Y v k L:=by
 rcases h with h|⟨b,off,len,cap,grow,h1,h2,h3,h4⟩
 ·exact .inl h
 ·refine .inr ⟨b,off,len,cap,grow,h1,h2,h3, ?_⟩;rcases h4 with h4|⟨h5,h6,h7⟩
  ·exact .inl h4
  ·exact .inr ⟨fun hq=>by rcases hy b hq with h|h;exact h5 h;omega,h6,h7⟩
theorem Sl.len {st:St}{X:List Nat}{v:CV}{k:Nat}{L:List CV}(h:Sl st X v k L)(n:Nat)(hn:L.length=n*k)(hk:0<k)(s:St):bo .slice v s= .ok (I n) s:=by
 rcases h with⟨rfl,rfl⟩|⟨b,off,len,cap,grow,rfl,h2,_⟩
 ·have:n=0:=by
   rcases Nat.mul_eq_zero.1 (show n*k=0 from by simpa using hn.symm)with h|h<;>omega
  subst this;rfl
 ·have:len=n:=aBX hk (by rw[<-h2,hn]);subst this;rfl
theorem lz (k n b off len cap grow:Nat)(st:St):dH k n (.slice b off len cap grow) st=if n=0 then some []else if grow=0\/n<=len then (match st.mem.get b with|some (.cells s _ _)=>gX s off (n*k)|some (.ro s _)=>gX s off (n*k)|_=>none)else none:=by
 have e:dH k n (.slice b off len cap grow) st=bC (Nat.beq n 0) (some []) (bC (Bool.or (Nat.beq grow 0) (Nat.ble n len)) (match st.mem.get b with|some (.cells s _ _)=>gX s off (n*k)|some (.ro s _)=>gX s off (n*k)|_=>none) none):=rfl;rw[e];simp only[aM,aBB,aBS,aBy]
theorem Sl.cells {st:St}{X:List Nat}{b off len cap grow k:Nat}{L:List CV}(h:Sl st X (.slice b off len cap grow) k L):L.length=len*k/\dH k len (.slice b off len cap grow) st=some L:=by
 rcases h with⟨h,_⟩|⟨b',df,ajy,eZ,art,h1,h2,h3,h4⟩
 ·cases h
 ·cases h1;refine⟨h2, ?_⟩;rw[lz]
  by_cases h0:len=0
  ·subst h0;have:L=[]:=by apply aBn.1;simpa using h2
   subst this;rfl
  ·rcases h4 with h4|⟨_,_,l,t,g,h7,h8,h9⟩
   ·exact absurd h4 h0
   ·rw[aAZ h0,aBb (.inr (aAU _)),h7];unfold gX;dsimp only;rw[aBb h8,h9]
theorem Sl.src {st:St}{X:List Nat}{v:CV}{k:Nat}{L:List CV}(h:Sl st X v k L)(z:List CV):∃n,L.length=n*k/\dg .slice k z v st=some (n,L):=by
 have h':=h;rcases h with⟨rfl,rfl⟩|⟨b,off,len,cap,grow,rfl,h2,h3,h4⟩
 ·exact⟨0,by simp,rfl⟩
 ·refine⟨len,h2, ?_⟩;have e:dg .slice k z (.slice b off len cap grow) st=(match dH k len (.slice b off len cap grow) st with|some s=>some (len,s)|none=>none):=rfl;rw[e,h'.cells.2]
theorem Sl.idx {st:St}{X:List Nat}{v:CV}{L:List CV}(h:Sl st X v 1 L){i:Nat}(hi:i<L.length)(k:CV->Prop)(hk:k L[i]):Lim.idx 1 v (I i) st k:=by
 rcases h with⟨rfl,rfl⟩|⟨b,off,len,cap,grow,rfl,h2,h3,h4⟩
 ·simp at hi
 ·have hl:L.length=len:=by simpa using h2
  rcases h4 with h4|⟨_,_,l,t,g,h7,h8,h9⟩
  ·omega
  ·have hc:(Bool.and (Nat.ble (Nat.succ i) len) (Bool.or (Nat.beq grow 0) (Nat.ble len cap)))=true:=by
    simp only[aBp,aBS,aBy,aBB];exact⟨by omega, .inr h3.1⟩
   have e:cU 1 (.slice b off len cap grow) (I i) st= .ok (.ptr b (off+i*1)) st:=by
    show bC _ _ _=_;rw[aM,aBb hc];rfl
   unfold Lim.idx;rw[e];simp only[af,az,h7,ar,aCF]
   have:l[off+i]?=some L[i]:=by
    have h9':L=(l.drop off).take (len*1):=h9.symm;rw[aAV (by omega)]
    congr 1
    subst h9';simp
   rw[this];exact hk
def Own (st:St)(v:CV)(k e:Nat)(L:List CV)(F:List Nat):Prop:=
 (v= .ae/\L=[]/\F=[])\/
 (∃b l t g,v= .slice b 0 0 0 0/\L=[]/\F=[b]/\st.mem.get b=some (.cells l t g))\/
 (∃b n,v= .slice b 0 n n k/\0<n/\L.length=n*k/\F=[b]/\st.mem.get b=some (.cells L e true))
theorem Own.mono {st st':St}{v:CV}{k e:Nat}{L:List CV}{F:List Nat}(h:Own st v k e L F)(hk:∀b∈F,st'.mem.get b=st.mem.get b):Own st' v k e L F:=by
 rcases h with h|⟨b,l,t,g,h1,h2,h3,h4⟩|⟨b,n,h1,h2,h3,h4,h5⟩
 ·exact .inl h
 ·exact .inr (.inl ⟨b,l,t,g,h1,h2,h3,by rw[hk b (by simp[h3])];exact h4⟩)
 ·exact .inr (.inr ⟨b,n,h1,h2,h3,h4,by rw[hk b (by simp[h4])];exact h5⟩)
theorem Own.sl {st:St}{X:List Nat}{v:CV}{k e:Nat}{L:List CV}{F:List Nat}(h:Own st v k e L F)(hx:∀b∈F,b∉X/\b<st.next):Sl st X v k L:=by
 rcases h with⟨h1,h2,_⟩|⟨b,l,t,g,h1,h2,h3,h4⟩|⟨b,n,h1,h2,h3,h4,h5⟩
 ·exact .inl ⟨h1,h2⟩
 ·exact .inr ⟨b,0,0,0,0,h1,by simp[h2],⟨aAU _, .inl rfl⟩, .inl rfl⟩
 ·exact .inr ⟨b,0,n,n,k,h1,h3,⟨aAU _, .inr rfl⟩, .inr ⟨(hx b (by simp[h4])).1,(hx b (by simp[h4])).2,L,e,true,h5,by omega,by rw[aBx,aBa (by omega)]⟩⟩
theorem Own.cq {st:St}{v:CV}{k e:Nat}{L:List CV}{F:List Nat}(h:Own st v k e L F):cq v=true/\v.cK=[v]:=by
 rcases h with⟨rfl,_⟩|⟨b,l,t,g,rfl,_⟩|⟨b,n,rfl,_⟩<;>exact⟨rfl,rfl⟩
theorem Own.append {st:St}{v:CV}{k e n bytes:Nat}{L T:List CV}{F:List Nat}(h:Own st v k e L F)(hk:0<k)(hT:T.length=n*k)(jS:aX T=true)(hF:∀b∈F,b<st.next)
 (hsz:(L.length+T.length)*(bytes+1)<=140737488355328):∃v' st' F',bQ e k bytes v (some (n,T)) st= .ok v' st'/\Own st' v' k e (L++T) F'/\Kp F st st'/\(∀b∈F',(b∈F\/b=st.next)/\b<st'.next):=by
 have hm:∀m,m*k<=L.length+T.length->m*bytes<=140737488355328/\m<=140737488355328:=by
  intro m hm;have h1:m<=L.length+T.length:=aCq (by simpa using Nat.mul_le_mul_left m hk) hm;have h2:m*bytes<=(L.length+T.length)*(bytes+1):=aDC h1 (by omega);have h3:m<=(L.length+T.length)*(bytes+1):=aCq h1 (by simpa using Nat.mul_le_mul_left (L.length+T.length) (show 1<=bytes+1 by omega));exact⟨by omega,by omega⟩
 by_cases h0:n=0
 ·subst h0;have:T=[]:=by apply aBn.1;simpa using hT
  subst this;rw[aBQ];refine⟨v,st,F, ?_,h,Kp.refl _ _,fun b hb=>⟨.inl hb,hF b hb⟩⟩;rcases h with⟨rfl,_⟩|⟨b,l,t,g,rfl,_⟩|⟨b,m,rfl,_⟩
  ·rfl
  ·rfl
  ·show bC (Nat.beq 0 0) (bC (Nat.ble m m) _ _) _=_;rw[show Nat.ble m m=true by rw[aBy];exact aAU _];rfl
 ·have FI:Nat.beq n 0=false:=by cases h:Nat.beq n 0 with|false=>rfl|true=>rw[aBB]at h;exact absurd h h0
  have oV:Nat.ble 1 k=true:=by rw[aBy];exact hk
  rcases h with⟨rfl,rfl,rfl⟩|⟨b,l,t,g,rfl,rfl,rfl,h4⟩|⟨b,m,rfl,h2,h3,rfl,h5⟩
  ·obtain⟨q1,q2⟩:=hm n (by simp[hT]);refine⟨.slice st.next 0 n n k,⟨st.mem.put st.next (some (.cells T e true)),st.next+1⟩,[st.next], ?_, ?_,(Kp.refl [] st).new _,fun b hb=>⟨.inr (by simpa using hb),by simp at hb;simp;omega⟩⟩
   ·show bC _ _ _=_;rw[FI,oV,show Nat.ble (Nat.mul n bytes) 140737488355328=true by rw[aBy];exact q1,show Nat.ble n 140737488355328=true by rw[aBy];exact q2];rfl
   ·exact .inr (.inr ⟨st.next,n,rfl,by omega,by simpa using hT,rfl,PT.cP _ _ _⟩)
  ·obtain⟨q1,q2⟩:=hm n (by simp[hT]);refine⟨.slice st.next 0 n n k,⟨st.mem.put st.next (some (.cells T e true)),st.next+1⟩,[st.next], ?_, ?_,(Kp.refl [b] st).new _,fun b hb=>⟨.inr (by simpa using hb),by simp at hb;simp;omega⟩⟩
   ·unfold bQ;simp only[FI,aM,aAR,aBf,dE];have e1:Nat.add 0 n=n:=aAT n;rw[e1,aAZ (by rw[aBy];omega),aBb (by simp only[aBp,aBy];exact⟨hk,q1,q2⟩),h4];simp[gX]
   ·exact .inr (.inr ⟨st.next,n,rfl,by omega,by simpa using hT,rfl,PT.cP _ _ _⟩)
  ·have hlt:=hF b (by simp);obtain⟨q1,q2⟩:=hm (m+n) (by rw[aBZ,<-h3,<-hT];exact aAU _);refine⟨.slice st.next 0 (m+n) (m+n) k,⟨(st.mem.put b none).put st.next (some (.cells (L++T) e true)),st.next+1⟩,[st.next], ?_, ?_, ?_,fun b hb=>⟨.inr (by simpa using hb),by simp at hb;simp;omega⟩⟩
   ·unfold bQ;simp only[FI,aM,aAR,aBf,dE];rw[show Nat.add m n=m+n from rfl,aAZ (by rw[aBy];omega),aBb (by simp only[aBp,aBy];exact⟨hk,q1,q2⟩),h5];have e2:gX L 0 (m*k)=some L:=by unfold gX;rw[aBb (by omega),aBx,aBa (by omega)]
    dsimp only;rw[e2];dsimp only;rw[aAZ (by rw[aBB];omega),aBb (by simp only[aBp,aBB,aBy];exact⟨trivial,trivial,trivial,jS,h2⟩)]
   ·exact .inr (.inr ⟨st.next,m+n,rfl,by omega,by rw[aAY,h3,hT,aBZ],rfl,PT.cP _ _ _⟩)
   ·refine⟨by simp,fun q h1 h2=> ?_,fun hf q hq=> ?_⟩
    ·show((st.mem.put b none).put st.next _).get q=_;rw[PT.cZ _ _ _ _ (by omega),PT.cZ _ _ _ _ (by simpa using h2)]
    ·show((st.mem.put b none).put st.next _).get q=_;simp only at hq;rw[PT.cZ _ _ _ _ (by omega),PT.cZ _ _ _ _ (by omega)];exact hf q (by omega)
abbrev MZ:=List (Int×CV)
def kS:MZ->Int->Option (Nat×CV)
 |[],_=>none
 |p::r,i=>if i=p.1 then some (0,p.2)else (kS r i).map fun q=>(q.1+1,q.2)
def iS:MZ->Int->Option CV
 |[],_=>none
 |p::r,i=>if i=p.1 then some p.2 else iS r i
def mq:MZ->Int->CV->MZ
 |[],i,x=>[(i,x)]
 |p::r,i,x=>if i=p.1 then (i,x)::r else p::mq r i x
def qd:MZ->Int->MZ
 |[],_=>[]
 |p::r,i=>if i=p.1 then r else p::qd r i
theorem Br (m:MZ)(i:Int):iS m i=(kS m i).map (·.2):=by
 induction m with
 |nil=>rfl
 |cons p r ih=>
  simp only[iS,kS]
  split
  ·rfl
  ·rw[ih];cases kS r i<;>rfl
theorem ER (m:MZ)(i j:Int)(x:CV):iS (mq m i x) j=if j=i then some x else iS m j:=by
 induction m with
 |nil=>simp[mq,iS]
 |cons p r ih=>
  simp only[mq]
  split
  ·rename_i h;subst h;simp only[iS];split<;>simp_all
  ·rename_i h;simp only[iS,ih]
   split
   ·rename_i h2;subst h2;rw[aAZ (fun e=>h e.symm)]
   ·rfl
theorem ud {m:MZ}{i:Int}{j:Nat}{u:CV}(h:kS m i=some (j,u)):m[j]?=some (i,u)/\∀x,mq m i x=m.set j (i,x)/\qd m i=m.eraseIdx j:=by
 induction m generalizing j with
 |nil=>cases h
 |cons p r ih=>
  simp only[kS]at h
  split at h
  ·rename_i e;cases h;subst e;exact⟨rfl,fun x=>⟨by simp[mq],by simp[qd]⟩⟩
  ·rename_i e;cases hf:kS r i with
   |none=>rw[hf]at h;cases h
   |some q=>
    rw[hf]at h;obtain⟨q1,q2⟩:=q;cases h;obtain⟨h1,h2⟩:=ih hf;exact⟨h1,fun x=>⟨by simp[mq,e,(h2 x).1],by simp[qd,e,(h2 x).2]⟩⟩
theorem qc {m:MZ}{i:Int}(h:kS m i=none):i∉m.map (·.1)/\∀x,mq m i x=m++[(i,x)]/\qd m i=m:=by
 induction m with
 |nil=>exact⟨by simp,fun x=>⟨rfl,rfl⟩⟩
 |cons p r ih=>
  simp only[kS]at h
  split at h
  ·cases h
  ·rename_i e;obtain⟨h1,h2⟩:=ih (by cases hf:kS r i with|none=>rfl|some q=>rw[hf]at h;cases h);exact⟨by simp only[aBA,aAX,aCr];exact⟨e,h1⟩,fun x=>⟨by simp[mq,e,(h2 x).1],by simp[qd,e,(h2 x).2]⟩⟩
theorem mem_keys {m:MZ}{i:Int}:i∈m.map (·.1)↔(iS m i).isSome=true:=by
 induction m with
 |nil=>simp[iS]
 |cons p r ih=>
  simp only[aBA,aAX,iS]
  split
  ·rename_i e;simp[e]
  ·rename_i e;rw[<-ih];simp[e]
theorem nw {m:MZ}(h:(m.map (·.1)).Nodup)(i:Int)(x:CV):((mq m i x).map (·.1)).Nodup:=by
 induction m with
 |nil=>simp[mq]
 |cons p r ih=>
  simp only[mq];simp only[aBA,aBi]at h
  split
  ·rename_i e;subst e;simpa using h
  ·rename_i e;simp only[aBA,aBi];refine⟨fun h2=> ?_,ih h.2⟩;rw[mem_keys,ER]at h2
   split at h2
   ·rename_i e2;exact e e2.symm
   ·exact h.1 (mem_keys.2 h2)
theorem Of {m:MZ}(h:(m.map (·.1)).Nodup)(i j:Int):iS (qd m i) j=if j=i then none else iS m j:=by
 induction m with
 |nil=>simp[qd,iS]
 |cons p r ih=>
  simp only[aBA,aBi]at h;simp only[qd]
  split
  ·rename_i e;subst e
   split
   ·rename_i e2;subst e2;cases hg:iS r p.1 with
    |none=>rfl
    |some u=>exact absurd (mem_keys.2 (by rw[hg];rfl)) h.1
   ·rename_i e2;simp[iS,e2]
  ·rename_i e;simp only[iS,ih h.2]
   split
   ·rename_i e2;subst e2;rw[aAZ (fun e3=>e e3.symm)]
   ·rfl
theorem HN {m:MZ}(h:(m.map (·.1)).Nodup)(i:Int):((qd m i).map (·.1)).Nodup:=by
 induction m with
 |nil=>exact h
 |cons p r ih=>
  have h':=h;simp only[aBA,aBi]at h;simp only[qd]
  split
  ·exact h.2
  ·rename_i e;simp only[aBA,aBi];refine⟨fun h2=> ?_,ih h.2⟩;rw[mem_keys,Of h.2]at h2
   split at h2
   ·cases h2
   ·exact h.1 (mem_keys.2 h2)
def cQ (es:List eE)(m:MZ):Prop:=es.map (fun e=>(e.1,e.2.1))=m.map (fun p=>(I p.1,p.2))
theorem sP {es:List eE}{m:MZ}(h:cQ es m)(i:Int)(j:Nat):kV .int (I i) es j=some ((kS m i).map fun q=>(j+q.1,q.2)):=by
 induction es generalizing m j with
 |nil=>cases m with
  |nil=>rfl
  |cons p r=>simp[cQ]at h
 |cons e es ih=>
  cases m with
  |nil=>simp[cQ]at h
  |cons p r=>
   simp only[cQ,aBA,aCC,aCD]at h;obtain⟨⟨h1,h2⟩,h3⟩:=h;have e0:kV .int (I i) (e::es) j=Option.rec none (fun b=>bC b (some (some (j,e.2.1))) (kV .int (I i) es (Nat.succ j))) (mh .int (I i) e.1):=rfl;rw[e0,h1];have e1:mh .int (I i) (I p.1)=some (decide (i=p.1)):=by simp[mh]
   rw[e1];simp only[aM,aCp,kS,ih h3 (j+1),Nat.succ_eq_add_one]
   split
   ·simp[h2]
   ·cases kS r i with
    |none=>rfl
    |some q=>simp only[aCf];congr 3;omega
theorem wj (es:List eE)(i:Nat)(e:eE):wV es i e=es.set i e:=by
 induction es generalizing i with
 |nil=>rfl
 |cons x r ih=>cases i with
  |zero=>rfl
  |succ i=>show x::wV r i e=_;rw[ih];rfl
theorem BM (es:List eE)(i:Nat):BN es i=es[i]?:=by
 induction es generalizing i with
 |nil=>rfl
 |cons x r ih=>cases i with
  |zero=>rfl
  |succ i=>show BN r i=_;rw[ih];rfl
theorem F9 (es:List eE)(i:Nat):Ga es i=es.eraseIdx i:=by
 induction es generalizing i with
 |nil=>rfl
 |cons x r ih=>cases i with
  |zero=>rfl
  |succ i=>show x::Ga r i=_;rw[ih];rfl
theorem pA (i:Int):tC .int (I i)=true:=by simp[tC,abc,mh]
def c8 (st:St)(b:Nat)(m:MZ):Prop:=∃es c,st.mem.get b=some (.map es c)/\cQ es m/\(m.map (·.1)).Nodup/\(es.map (·.2.2)).Nodup/\∀e∈es,e.2.2<c
def IsMap (st:St)(b:Nat)(m:MZ):Prop:=c8 st b m\/∃es,st.mem.get b=some (.lmap es)/\cQ es m/\(m.map (·.1)).Nodup
theorem c8.nd {st:St}{b:Nat}{m:MZ}(h:c8 st b m):(m.map (·.1)).Nodup:=by obtain⟨es,c,_,_,h,_⟩:=h;exact h
theorem IsMap.nd {st:St}{b:Nat}{m:MZ}(h:IsMap st b m):(m.map (·.1)).Nodup:=by rcases h with h|⟨es,_,_,h⟩;exact h.nd;exact h
theorem c8.mono {st st':St}{b:Nat}{m:MZ}(h:c8 st b m)(hk:st'.mem.get b=st.mem.get b):c8 st' b m:=by
 obtain⟨es,c,h1,h2⟩:=h;exact⟨es,c,by rw[hk];exact h1,h2⟩
theorem IsMap.mono {st st':St}{b:Nat}{m:MZ}(h:IsMap st b m)(hk:st'.mem.get b=st.mem.get b):IsMap st' b m:=by
 rcases h with h|⟨es,h1,h2⟩
 ·exact .inl (h.mono hk)
 ·exact .inr ⟨es,by rw[hk];exact h1,h2⟩
theorem c8.new (st:St):c8 (St.new st (.map [] 0)) st.next []:=⟨[],0,by simp,rfl,by simp,by simp,by simp⟩
theorem EW {es:List eE}{m:MZ}(h:cQ es m)(i:Int):vm i es=iS m i:=by
 induction es generalizing m with
 |nil=>cases m with
  |nil=>rfl
  |cons p r=>simp[cQ]at h
 |cons e es ih=>
  cases m with
  |nil=>simp[cQ]at h
  |cons p r=>
   simp only[cQ,aBA,aCC,aCD]at h;obtain⟨⟨h1,h2⟩,h3⟩:=h;have e0:vm i (e::es)=bC (Da i e.1) (some e.2.1) (vm i es):=rfl;rw[e0,h1,ih h3,h2];simp only[Da,aM,iS,aCp]
theorem IsMap.lookup {st:St}{b:Nat}{m:MZ}(h:IsMap st b m)(z:CV)(ok:Bool)(i:Int)(s:St)(hs:s.mem.get b=st.mem.get b):iA .int z ok (.map b) (I i) s=
 if ok=true then .ok (.tuple [(iS m i).getD z, .bool (iS m i).isSome]) s else .ok ((iS m i).getD z) s:=by
 unfold iA;rw[pA,aM,aBb rfl];rcases h with⟨es,c,h1,h2,_⟩|⟨es,h1,h2,_⟩
 ·have e1:qi (.map b) s=none:=by simp[qi,hs,h1]
  have e2:zF (.map b) s=some es:=by simp[zF,hs,h1]
  rw[e1,e2];simp only[sP h2,Br];cases kS m i with
  |none=>simp
  |some q=>simp
 ·have e1:qi (.map b) s=some es:=by simp[qi,hs,h1]
  rw[e1];simp only[uS,HQ,EW h2];cases iS m i with
  |none=>simp
  |some u=>simp
theorem cQ.len {es:List eE}{m:MZ}(h:cQ es m):es.length=m.length:=by simpa using congrArg List.length h
theorem IsMap.len {st:St}{b:Nat}{m:MZ}(h:IsMap st b m):bo .map (.map b) st= .ok (I m.length) st:=by
 rcases h with⟨es,c,h1,h2,_⟩|⟨es,h1,h2,_⟩
 ·simp[bo,h1,h2.len]
 ·simp[bo,h1,h2.len]
theorem cQ.set {es:List eE}{m:MZ}(h:cQ es m)(j:Nat)(i:Int)(x:CV)(bn:Nat):cQ (es.set j (I i,x,bn)) (m.set j (i,x)):=by
 unfold cQ at*;rw[List.map_set,List.map_set,h]
theorem cQ.snoc {es:List eE}{m:MZ}(h:cQ es m)(i:Int)(x:CV)(bn:Nat):cQ (es++[(I i,x,bn)]) (m++[(i,x)]):=by
 unfold cQ at*;simp[h]
theorem cQ.at {es:List eE}{m:MZ}(h:cQ es m){j:Nat}{i:Int}{u:CV}(hj:m[j]?=some (i,u)):∃bn,es[j]?=some (I i,u,bn):=by
 have h1:(es.map fun e=>(e.1,e.2.1))[j]?=some (I i,u):=by rw[h,aBN,hj];rfl
 rw[aBN]at h1;cases he:es[j]? with
 |none=>rw[he]at h1;cases h1
 |some e=>
  rw[he]at h1;simp only[aCf,aCs,aCD]at h1;exact⟨e.2.2,by rw[<-h1.1,<-h1.2]⟩
theorem yv {es:List eE}{j:Nat}{e e':eE}(h:es[j]?=some e)(hb:e'.2.2=e.2.2):(es.set j e').map (·.2.2)=es.map (·.2.2):=by
 rw[List.map_set];apply aCY;intro k;rw[List.getElem?_set]
 split
 ·rename_i e1;subst e1;obtain⟨h1,h2⟩:=aBg.1 h;simp[hb,h1,h2]
 ·rfl
theorem IsMap.update {st:St}{b:Nat}{m:MZ}(h:IsMap st b m)(i:Int)(x:CV):∃blk,eC .int (.map b) (I i) x st= .ok .undef (St.set st b blk)/\IsMap (St.set st b blk) b (mq m i x)/\(c8 st b m->c8 (St.set st b blk) b (mq m i x)):=by
 rcases h with⟨es,c,h1,h2,h3,h4,h5⟩|⟨es,h1,h2,h3⟩
 ·have key:∃blk,eC .int (.map b) (I i) x st= .ok .undef (St.set st b blk)/\c8 (St.set st b blk) b (mq m i x):=by
   unfold eC;rw[pA,aM,aBb rfl];simp only[h1,sP h2];cases hf:kS m i with
   |none=>
    simp only[Option.map_none,dE];refine⟨.map (es++[(I i,x,c)]) (c+1),rfl,es++[(I i,x,c)],c+1,by simp, ?_,nw h3 i x, ?_, ?_⟩
    ·rw[((qc hf).2 x).1];exact h2.snoc i x c
    ·rw[aCj,aBP];refine⟨h4,by simp,fun a ha b hb=> ?_⟩;simp only[aBA,List.map_nil,aCg]at hb;obtain⟨e,he,rfl⟩:=aBv.1 ha;have:=h5 e he;omega
    ·intro e he;rcases aBe.1 he with he|he
     ·have:=h5 e he;omega
     ·simp only[aCg]at he;subst he;exact Nat.lt_succ_self c
   |some q=>
    obtain⟨j,u⟩:=q;obtain⟨m1,m2⟩:=ud hf;obtain⟨bn,he⟩:=h2.at m1;simp only[aCf,aAT,BM,he,wj];rw[show wQ (I i) (I i)=true by simp[wQ,Bc],aM,aBb rfl];refine⟨.map (es.set j (I i,x,bn)) c,rfl,es.set j (I i,x,bn),c,by simp, ?_,nw h3 i x, ?_, ?_⟩
    ·rw[(m2 x).1];exact h2.set j i x bn
    ·rw[yv (e':=(I i,x,bn)) he rfl];exact h4
    ·intro e hm;rcases aCR hm with hm|rfl
     ·exact h5 e hm
     ·exact h5 (I i,u,bn) (aBO he)
  obtain⟨blk,k1,k2⟩:=key;exact⟨blk,k1, .inl k2,fun _=>k2⟩
 ·have qJ:¬c8 st b m:=fun ⟨es',c,h,_⟩=>by rw[h1]at h;cases h
  unfold eC;rw[pA,aM,aBb rfl];simp only[h1,yM,HQ,EW h2]
  have Dg:∀(es:List eE) (m:MZ),cQ es m->iS m i=none->qg i x es=es:=by
   intro es
   induction es with
   |nil=>intro m _ _;rfl
   |cons e es ih=>
    intro m h hs;cases m with
    |nil=>simp[cQ]at h
    |cons p r=>
     simp only[cQ,aBA,aCC,aCD]at h;obtain⟨⟨g1,g2⟩,g3⟩:=h;have e0:qg i x (e::es)=bC (Da i e.1) ((e.1,x,e.2.2)::qg i x es) (e::qg i x es):=rfl;simp only[iS]at hs
     split at hs
     ·cases hs
     ·rename_i gT;have hA:Da i e.1=false:=by rw[g1];simp[Da,gT]
      rw[e0,hA,ih r g3 hs];rfl
  have ajY:∀(es:List eE) (m:MZ),cQ es m->(m.map (·.1)).Nodup->(iS m i).isSome=true->cQ (qg i x es) (mq m i x):=by
   intro es
   induction es with
   |nil=>intro m h hd hs;cases m with
    |nil=>cases hs
    |cons p r=>simp[cQ]at h
   |cons e es ih=>
    intro m h hd hs;cases m with
    |nil=>cases hs
    |cons p r=>
     simp only[cQ,aBA,aCC,aCD]at h;obtain⟨⟨g1,g2⟩,g3⟩:=h;simp only[aBA,aBi]at hd;have e0:qg i x (e::es)=bC (Da i e.1) ((e.1,x,e.2.2)::qg i x es) (e::qg i x es):=rfl
     by_cases hi:i=p.1
     ·have hA:Da i e.1=true:=by rw[g1];simp[Da,hi]
      have hn:iS r i=none:=by
       cases hg:iS r i with
       |none=>rfl
       |some u=>exact absurd (mem_keys.2 (by rw[<-hi,hg];rfl)) hd.1
      rw[e0,hA,Dg es r g3 hn];simp only[aM,aBr,mq,aBb hi,cQ,aBA,aCC,aCD];exact⟨⟨by rw[g1,hi],trivial⟩,g3⟩
     ·have hA:Da i e.1=false:=by rw[g1];simp[Da,hi]
      have tD:(iS r i).isSome=true:=by simpa[iS,hi]using hs
      rw[e0,hA];simp only[aM,aAR,aBf,mq,aAZ hi,cQ,aBA,aCC,aCD];exact⟨⟨g1,g2⟩,ih r g3 hd.2 tD⟩
  cases hg:iS m i with
  |none=>
   have hf:kS m i=none:=by
    rw[Br]at hg;cases hf:kS m i with
    |none=>rfl
    |some q=>rw[hf]at hg;cases hg
   refine⟨.lmap (es++[(I i,x,0)]),rfl, .inr ⟨es++[(I i,x,0)],by simp, ?_,nw h3 i x⟩,fun h=>absurd h qJ⟩;rw[((qc hf).2 x).1];exact h2.snoc i x 0
  |some u=>exact⟨.lmap (qg i x es),rfl, .inr ⟨qg i x es,by simp,ajY es m h2 h3 (by rw[hg];rfl),nw h3 i x⟩,fun h=>absurd h qJ⟩
theorem LM {es:List eE}{j:Nat}{e:eE}(h:es[j]?=some e)(hn:(es.map (·.2.2)).Nodup):∀k,rU e.2.2 es k=some (k+j,e):=by
 induction es generalizing j with
 |nil=>simp at h
 |cons x r ih=>
  intro k;have e0:rU e.2.2 (x::r) k=bC (Nat.beq x.2.2 e.2.2) (some (k,x)) (rU e.2.2 r (Nat.succ k)):=rfl;rw[e0];simp only[aM,aBB];simp only[aBA,aBi]at hn;cases j with
  |zero=>simp at h;subst h;simp
  |succ j=>
   have h':r[j]?=some e:=by simpa using h
   rw[aAZ (fun e1=>hn.1 (aBv.2 ⟨e,aBO h',e1.symm⟩)),ih h' hn.2]
   congr 2
   show k+1+j=k+(j+1);omega
theorem c8.entry {st:St}{b:Nat}{m:MZ}(h:c8 st b m)(z:CV)(i:Int):∃v bn blk,fC .int z (.map b) (I i) st= .ok (.tuple [v,I bn]) (St.set st b blk)/\
 ∀y s,s.mem.get b=some blk->∃lJ,dP (.map b) (I bn) y s= .ok .undef (St.set s b lJ)/\c8 (St.set s b lJ) b (mq m i y):=by
 obtain⟨es,c,h1,h2,h3,h4,h5⟩:=h;unfold fC;rw[pA,aM,aBb rfl];simp only[h1,sP h2]
 have fin:∀(es2:List eE) (c2 j bn:Nat) (u:CV),es2[j]?=some (I i,u,bn)->(es2.map (·.2.2)).Nodup->(∀e∈es2,e.2.2<c2)->(∀y,cQ (es2.set j (I i,y,bn)) (mq m i y))->
  ∀y s,s.mem.get b=some (.map es2 c2)->∃lJ,dP (.map b) (I bn) y s= .ok .undef (St.set s b lJ)/\c8 (St.set s b lJ) b (mq m i y):=by
  intro es2 c2 j bn u g1 g2 g3 g4 y s hs;refine⟨.map (es2.set j (I i,y,bn)) c2, ?_,es2.set j (I i,y,bn),c2,by simp,g4 y,nw h3 i y, ?_, ?_⟩
  ·have e0:dP (.map b) (I bn) y s=(match s.mem.get b with
    |some (.map es clock)=>(match rU bn es 0 with
     |some (i,(k,_,bn))=> .ok .undef ⟨s.mem.put b (some (.map (wV es i (k,y,bn)) clock)),s.next⟩
     |none=> .bad)
    |_=> .bad):=rfl
   rw[e0,hs];dsimp only;have:=LM g1 g2 0;dsimp only at this;rw[this];simp only[aAT,wj]
   rfl
  ·rw[yv (e':=(I i,y,bn)) g1 rfl];exact g2
  ·intro e he;rcases aCR he with he|rfl
   ·exact g3 e he
   ·exact g3 (I i,u,bn) (aBO g1)
 cases hf:kS m i with
 |none=>
  simp only[Option.map_none,dE];refine⟨z,c, .map (es++[(I i,z,c)]) (c+1),rfl,fin _ _ es.length c z (by simp) ?_ ?_ ?_⟩
  ·rw[aCj,aBP];refine⟨h4,by simp,fun a ha b hb=> ?_⟩;simp only[aBA,List.map_nil,aCg]at hb;obtain⟨e,he,rfl⟩:=aBv.1 ha;have:=h5 e he;omega
  ·intro e he;rcases aBe.1 he with he|he
   ·have:=h5 e he;omega
   ·simp only[aCg]at he;subst he;exact Nat.lt_succ_self c
  ·intro y;rw[((qc hf).2 y).1];have:(es++[(I i,z,c)]).set es.length (I i,y,c)=es++[(I i,y,c)]:=by simp
   rw[this];exact h2.snoc i y c
 |some q=>
  obtain⟨j,u⟩:=q;obtain⟨m1,m2⟩:=ud hf;obtain⟨bn,he⟩:=h2.at m1;simp only[aCf,aAT,BM,he,wj];rw[show wQ (I i) (I i)=true by simp[wQ,Bc],aM,aBb rfl];refine⟨u,bn, .map (es.set j (I i,u,bn)) c,rfl,fin _ _ j bn u (by rw[List.getElem?_set_self (aBg.1 he).1]) ?_ ?_ ?_⟩
  ·rw[yv (e':=(I i,u,bn)) he rfl];exact h4
  ·intro e hm;rcases aCR hm with hm|rfl
   ·exact h5 e hm
   ·exact h5 (I i,u,bn) (aBO he)
  ·intro y;rw[List.set_set,(m2 y).1];exact h2.set j i y bn
theorem oO {α β:Type}(f:α->β)(l:List α)(j:Nat):(l.eraseIdx j).map f=(l.map f).eraseIdx j:=by
 induction l generalizing j with
 |nil=>rfl
 |cons a l ih=>cases j with
  |zero=>rfl
  |succ j=>simp[ih]
theorem c8.delete {st:St}{b:Nat}{m:MZ}(h:c8 st b m)(i:Int):∃st',oB .int (.map b) (I i) st= .ok .undef st'/\(st'=st\/∃blk,st'=St.set st b blk)/\c8 st' b (qd m i):=by
 have h0:=h;obtain⟨es,c,h1,h2,h3,h4,h5⟩:=h;unfold oB;rw[pA,aM,aBb rfl];simp only[h1,sP h2];cases hf:kS m i with
 |none=>exact⟨st,rfl, .inl rfl,by rw[((qc hf).2 .undef).2];exact h0⟩
 |some q=>
  obtain⟨j,u⟩:=q;obtain⟨m1,m2⟩:=ud hf;simp only[aCf,aAT,F9];refine⟨St.set st b (.map (es.eraseIdx j) c),rfl, .inr ⟨_,rfl⟩,es.eraseIdx j,c,by simp, ?_,HN h3 i, ?_, ?_⟩
  ·rw[(m2 .undef).2];unfold cQ at*;rw[oO,oO,h2]
  ·rw[oO];exact h4.sublist (List.eraseIdx_sublist _ _)
  ·intro e he;exact h5 e (List.mem_of_mem_eraseIdx he)
theorem fA {α:Type}{L:List (List α)}{w:Nat}(h:∀x∈L,x.length=w):L.flatten.length=L.length*w:=by
 induction L with
 |nil=>simp
 |cons a L ih=>
  rw[aCo,aAY,ih (fun x hx=>h x (aCd _ hx)),h a (aBW ..),aBt,aBZ,aDa,aDF]
theorem pE {α:Type}{L:List (List α)}{w:Nat}(h:∀x∈L,x.length=w)(i:Nat)(hi:i<=L.length):L.flatten.drop (i*w)=(L.drop i).flatten:=by
 induction L generalizing i with
 |nil=>simp
 |cons a L ih=>
  cases i with
  |zero=>simp
  |succ i=>
   rw[aCo,aBZ,aDa,List.drop_append,aBC (by rw[h a (aBW ..)];omega),aBw,h a (aBW ..),aCc,
    ih (fun x hx=>h x (aCd _ hx)) i (by simpa using hi)]
   rfl
theorem sI {α:Type}{L:List (List α)}{w:Nat}(h:∀x∈L,x.length=w)(i:Nat)(hi:i<=L.length):L.flatten.take (i*w)=(L.take i).flatten:=by
 induction L generalizing i with
 |nil=>simp
 |cons a L ih=>
  cases i with
  |zero=>simp
  |succ i=>
   rw[aCo,aBZ,aDa,aCM,aBa (by rw[h a (aBW ..)];omega),h a (aBW ..),aCc,
    ih (fun x hx=>h x (aCd _ hx)) i (by simpa using hi)]
   rfl
theorem rK {α:Type}{L:List (List α)}{w:Nat}(h:∀x∈L,x.length=w)(i:Nat)(hi:i<L.length):(L.flatten.drop (i*w)).take w=L[i]:=by
 rw[pE h i (Nat.le_of_lt hi),aBj hi,aCo,aCM,aBa (by rw[h _ (aBq ..)];omega),h _ (aBq ..)];simp
theorem PB {α:Type}{L:List (List α)}{w:Nat}(h:∀x∈L,x.length=w)(i:Nat)(hi:i<L.length)(o n:Nat)(ho:o+n<=w):(L.flatten.drop (i*w+o)).take n=(L[i].drop o).take n:=by
 rw[<-rK h i hi,aCH,aDk,aCh,aBH (by omega)]
theorem PD {α:Type}{L:List (List α)}{w:Nat}(h:∀x∈L,x.length=w)(i:Nat)(hi:i<L.length)(o:Nat)(ho:o<w):L.flatten[i*w+o]?=L[i][o]?:=by
 rw[<-rK h i hi,aCU,aBb ho,aDs]
theorem sJ {L:List (List CV)}{w:Nat}(h:∀x∈L,x.length=w)(i:Nat)(hi:i<L.length)(x:List CV)(hx:x.length=w):bt L.flatten (i*w) x=(L.set i x).flatten:=by
 unfold bt;rw[sI h i (Nat.le_of_lt hi),hx,show i*w+w=(i+1)*w by rw[aBZ,aDa],pE h (i+1) hi,aCJ,aBb hi];simp
theorem bM {body:List CV->St->(List CV->St->Prop)->Prop}(Inv:Nat->List CV->St->Prop)(step:∀n vs s k,Inv n vs s->(∀n' A3 s',n'<n->Inv n' A3 s'->k A3 s')->body vs s k){n:Nat}{vs:List CV}{s:St}(h:Inv n vs s):dn body vs s:=by
 have key:∀m n vs s,n<m->Inv n vs s->EU body m vs s:=by
  intro m
  induction m with
  |zero=>intro n vs s h;omega
  |succ m ih=>intro n vs s h hi;exact step n vs s _ hi fun n' A3 s' hn fw=>ih n' A3 s' (by omega) fw
 exact⟨n+1,key (n+1) n vs s (by omega) h⟩
def Row (st:St)(v:CV)(k n:Nat)(L:List CV)(b:Nat):Prop:=
 ∃t g gr,v= .slice b 0 n n gr/\(gr=0\/gr=k)/\L.length=n*k/\st.mem.get b=some (.cells L t g)
theorem Row.mono {st st':St}{v:CV}{k n b:Nat}{L:List CV}(h:Row st v k n L b)(hk:st'.mem.get b=st.mem.get b):Row st' v k n L b:=by
 obtain⟨t,g,gr,h1,h2,h3,h4⟩:=h;exact⟨t,g,gr,h1,h2,h3,by rw[hk];exact h4⟩
theorem Row.sl {st:St}{X:List Nat}{v:CV}{k n b:Nat}{L:List CV}(h:Row st v k n L b)(hx:b∉X)(hb:b<st.next):Sl st X v k L:=by
 obtain⟨t,g,gr,h1,h2,h3,h4⟩:=h;exact .inr ⟨b,0,n,n,gr,h1,h3,⟨aAU _,h2⟩, .inr ⟨hx,hb,L,t,g,h4,by omega,by rw[aBx,aBa (by omega)]⟩⟩
theorem gu {size b off len cap grow:Nat}{i:Nat}(h:i<len)(hg:grow=0\/len<=cap)(st:St):cU size (.slice b off len cap grow) (I i) st= .ok (.ptr b (off+i*size)) st:=by
 have hc:(Bool.and (Nat.ble (Nat.succ i) len) (Bool.or (Nat.beq grow 0) (Nat.ble len cap)))=true:=by
  simp only[aBp,aBS,aBy,aBB];exact⟨by omega,hg⟩
 show bC _ _ _=_;rw[aM,aBb hc];rfl
theorem Kp.get {F:List Nat}{st st':St}(h:Kp F st st'){b:Nat}{blk:qS}(hb:st.mem.get b=some blk)(hl:b<st.next)(hn:b∉F):st'.mem.get b=some blk:=by rw[h.keep b hl hn];exact hb
theorem Own.keep {F:List Nat}{st st':St}{v:CV}{k e:Nat}{L:List CV}{G:List Nat}(h:Own st v k e L G)(hk:Kp F st st')(hl:∀b∈G,b<st.next/\b∉F):Own st' v k e L G:=
 h.mono fun b hb=>hk.keep b (hl b hb).1 (hl b hb).2
def Made (k e:Nat)(L:List CV)(st:St)(x:CV)(st':St):Prop:=∃F,Kp [] st st'/\Own st' x k e L F/\∀b∈F,st.next<=b/\b<st'.next
theorem Made.sl {k e:Nat}{L:List CV}{st st':St}{x:CV}(h:Made k e L st x st')(X:List Nat)(hX:∀b∈X,b<st.next):Sl st' X x k L:=by
 obtain⟨F,h1,h2,h3⟩:=h;exact h2.sl fun b hb=>⟨fun h=>by have:=hX b h;have:=h3 b hb;omega,(h3 b hb).2⟩
theorem sS (n d cap:Nat):DG (some (I n)) d cap=if n<=cap then some n else none:=by
 have e:DG (some (I n)) d cap=bC (Nat.ble n cap) (some n) none:=rfl;rw[e,aM];simp only[aBy]
theorem pF (l h len cap:Nat):mS (some (I l)) (some (I h)) len cap=if l<=h/\h<=cap then some (l,h)else none:=by
 unfold mS;rw[sS]
 by_cases h1:h<=cap<;>by_cases h2:l<=h<;>simp[h1,h2,sS]
theorem ye (l len cap:Nat):mS (some (I l)) none len cap=if l<=len then some (l,len)else none:=by
 unfold mS;have e:DG none len cap=some len:=rfl;rw[e]
 by_cases h2:l<=len<;>simp[h2,sS]
theorem sR (h len cap:Nat):mS none (some (I h)) len cap=if h<=cap then some (0,h)else none:=by
 unfold mS;have e:DG none 0 h=some 0:=rfl
 by_cases h2:h<=cap<;>simp[h2,sS,e]
theorem iZ {k b off len cap grow l h:Nat}{lo hi:Option CV}{st:St}(hb:mS lo hi len cap=some (l,h))(hc:len<=cap)(hg:grow=0\/grow=k):
 ∃df,aN k (.slice b off len cap grow) lo hi st= .ok (.slice b df (h-l) (cap-l) grow) st/\(df=off+l*k\/(l=cap/\df=off)):=by
 have e:aN k (.slice b off len cap grow) lo hi st=bC (Nat.ble len cap) (match mS lo hi len cap with
  |some (l,h)=>nS (Nat.sub h l) fun n=>nS (Nat.sub cap l) fun c=>
   bC (Bool.and (Nat.beq grow 0) (Nat.beq l cap)) (.ok (.slice b off n c grow) st) (nS (Nat.add off (Nat.mul l k)) fun o=>bC (Bool.or (Nat.beq grow 0) (Nat.beq grow k)) (.ok (.slice b o n c grow) st) .bad)
  |none=> .bad) .bad:=rfl
 rw[e,hb];simp only[dE,aM,aBy,aBp,aBS,aBB];rw[aBb hc]
 by_cases h1:grow=0/\l=cap
 ·rw[aBb h1];exact⟨off,rfl, .inr ⟨h1.2,rfl⟩⟩
 ·rw[aAZ h1,aBb hg];exact⟨_,rfl, .inl rfl⟩
theorem Sl.part {st:St}{X:List Nat}{v:CV}{k n:Nat}{L:List CV}(hs:Sl st X v k L)(hk:0<k)(hn:L.length=n*k){l h:Nat}(h1:l<=h)(h2:h<=n){lo hi:Option CV}(hb:∀cap,n<=cap->mS lo hi n cap=some (l,h))(FI:n=0->mS lo hi 0 0=some (0,0))(s:St):
 ∃v',aN k v lo hi s= .ok v' s/\Sl st X v' k ((L.drop (l*k)).take ((h-l)*k)):=by
 rcases hs with⟨rfl,rfl⟩|⟨b,off,len,cap,grow,rfl,g2,g3,g4⟩
 ·have:n=0:=by
   rcases Nat.mul_eq_zero.1 (show n*k=0 from by simpa using hn.symm)with h|h<;>omega
  refine⟨.ae, ?_, .inl ⟨rfl,by simp⟩⟩;show(match mS lo hi 0 0 with|some _=>OR.ok .ae s|none=> .bad)=_;rw[FI this]
 ·have:len=n:=aBX hk (by rw[<-g2,hn]);subst this;obtain⟨df,e1,e2⟩:=iZ (k:=k) (b:=b) (off:=off) (st:=s) (hb cap g3.1) g3.1 g3.2;have zp:l*k+(h-l)*k=h*k:=by rw[<-aBZ];congr 1;omega
  have hhk:h*k<=len*k:=aBM k h2;refine⟨_,e1, .inr ⟨b,df,h-l,cap-l,grow,rfl, ?_,⟨by omega,g3.2⟩, ?_⟩⟩
  ·rw[aBh,aBo,hn];omega
  ·by_cases h0:h-l=0
   ·exact .inl h0
   ·right;rcases g4 with g4|⟨g5,g6,c,t,g,g7,g8,g9⟩
    ·omega
    ·have e3:df=off+l*k:=by rcases e2 with e2|⟨e2,_⟩;exact e2;omega
     subst e3;refine⟨g5,g6,c,t,g,g7,by omega, ?_⟩;rw[<-g9,aCH,aDk,aCh,aBH (by omega)]
theorem Sl.lo {st:St}{X:List Nat}{v:CV}{k n:Nat}{L:List CV}(hs:Sl st X v k L)(hk:0<k)(hn:L.length=n*k){l:Nat}(h:l<=n)(s:St):∃v',aN k v (some (I l)) none s= .ok v' s/\Sl st X v' k (L.drop (l*k)):=by
 obtain⟨v',h1,h2⟩:=hs.part hk hn (l:=l) (h:=n) h (aAU _) (lo:=some (I l)) (hi:=none) (fun cap hc=>by rw[ye,aBb h]) (fun h0=>by rw[ye,aBb (by omega)];congr 2;omega) s;refine⟨v',h1, ?_⟩
 rwa [aBa (by rw[aBo,hn,Nat.sub_mul];exact aAU _)]at h2
theorem Sl.hi {st:St}{X:List Nat}{v:CV}{k n:Nat}{L:List CV}(hs:Sl st X v k L)(hk:0<k)(hn:L.length=n*k){h:Nat}(hh:h<=n)(s:St):∃v',aN k v none (some (I h)) s= .ok v' s/\Sl st X v' k (L.take (h*k)):=by
 obtain⟨v',h1,h2⟩:=hs.part hk hn (l:=0) (h:=h) (aDD _) hh (lo:=none) (hi:=some (I h)) (fun cap hc=>by rw[sR,aBb (by omega)]) (fun h0=>by rw[sR,aBb (by omega)];congr 2;omega) s;exact⟨v',h1,by simpa using h2⟩
theorem Sl.both {st:St}{X:List Nat}{v:CV}{k n:Nat}{L:List CV}(hs:Sl st X v k L)(hk:0<k)(hn:L.length=n*k){l h:Nat}(hl:l<=h)(hh:h<=n)(s:St):∃v',aN k v (some (I l)) (some (I h)) s= .ok v' s/\Sl st X v' k ((L.drop (l*k)).take ((h-l)*k)):=
 hs.part hk hn hl hh (fun cap hc=>by rw[pF,aBb ⟨hl,by omega⟩]) (fun h0=>by rw[pF,aBb ⟨hl,by omega⟩];congr 2<;>omega) s
theorem Sl.str {st:St}{X:List Nat}{v:CV}{l:List UInt8}(hs:Sl st X v 1 (ai l)):dB .strOf v st= .ok (.str l) st:=by
 rcases hs with⟨rfl,h⟩|⟨b,off,len,cap,grow,rfl,g2,g3,g4⟩
 ·have:l=[]:=by cases l with|nil=>rfl|cons a l=>cases h
  subst this;rfl
 ·have tD:Sl st X (.slice b off len cap grow) 1 (ai l):= .inr ⟨b,off,len,cap,grow,rfl,g2,g3,g4⟩
  have e:dB .strOf (.slice b off len cap grow) st=(match dH 1 len (.slice b off len cap grow) st with
   |some t=>(match GG t with|some l=> .ok (.str l) st|none=> .bad)
   |_=> .bad):=rfl
  rw[e,tD.cells.2];show(match GG (l.map bN)with|some l=>OR.ok (.str l) st|none=> .bad)=_;rw[Cf]
theorem rT {e k:Nat}{z:List CV}{x:CV}(hz:z.length=k)(hx:x.cK.length=k)(ha:x.isAny=false)(st:St):bT e 1 (cO 1 z) [(0,k,x)] st= .ok (.slice st.next 0 1 1 0) (St.new st (.cells x.cK e false)):=by
 have e1:fY [(0,k,x)] (cO 1 z)=some x.cK:=by
  have:cO 1 z=z:=by simp[cO]
  rw[cI,aBb ⟨⟨hx,ha⟩,by rw[this];omega⟩,this];simp[bt,aBC (show z.length<=x.cK.length by omega)]
 unfold bT;rw[e1];rfl
theorem YE {st:St}{v:CV}{k e:Nat}(bytes:Nat){L z:List CV}{F:List Nat}{x:CV}{K:CV->St->Prop}(h:Own st v k e L F)(hk:0<k)(hF:∀b∈F,b<st.next)(hz:z.length=k)(hx:x.cK.length=k)(ha:x.isAny=false)(jS:aX x.cK=true)
 (hsz:(L.length+k)*(bytes+1)<=140737488355328) (hK:∀v' st' F',Own st' v' k e (L++x.cK) F'->Kp F st st'->(∀b∈F',(b∈F\/st.next<=b)/\b<st'.next)->K v' st'):
 upon (bT e 1 (cO 1 z) [(0,k,x)] st) fun x8 s3=>upon (bQ e k bytes v (dg .slice k z x8 s3) s3) K:=by
 rw[rT hz hx ha,aT];have oV:Kp F st (St.new st (.cells x.cK e false)):=(Kp.refl F st).new _;have h1:Own (St.new st (.cells x.cK e false)) v k e L F:=h.mono fun b hb=>aW _ _ _ (hF b hb);have h2:=EI (k:=k) (n:=1) (z:=z) (aq st (.cells x.cK e false)) (by omega) (by omega);obtain⟨v',st',F',e1,e2,e3,e4⟩:=h1.append (n:=1) (bytes:=bytes) (T:=x.cK) hk (by omega) jS (fun b hb=>by have:=hF b hb;simp;omega) (by rw[hx];exact hsz);rw[h2,e1,aT];refine hK v' st' F' e2 (oV.trans e3 fun q hq=> .inl hq) fun b hb=>⟨(e4 b hb).1.imp id fun h=>by simp at h;omega,(e4 b hb).2⟩
theorem kO {r:OR}{k k':CV->Prop}(h:us r k)(hk:∀v,k v->k' v):us r k':=by
 cases r with
 |ok v s=>exact hk v h
 |bad=>exact h
theorem jU {k:List CV->St->Prop}{body:(List CV->St->Prop)->Prop}(Inv:List CV->St->Prop)(h1:∀k',(∀vs s,Inv vs s->k' vs s)->body k')(h2:∀vs s,Inv vs s->k vs s):ew k body:=h1 k h2
theorem Sl.P8 {st:St}{X:List Nat}{v:CV}{k:Nat}{L:List CV}(h:Sl st X v k L)(hk:0<k)(n:Nat)(hn:L.length=n*k):dH k n v st=some L/\EX v=some n:=by
 rcases h with⟨rfl,rfl⟩|⟨b,off,len,cap,grow,rfl,g2,g3,g4⟩
 ·have:n=0:=by
   rcases Nat.mul_eq_zero.1 (show n*k=0 from by simpa using hn.symm)with h|h<;>omega
  subst this;exact⟨rfl,rfl⟩
 ·have:len=n:=aBX hk (by rw[<-g2,hn]);subst this;exact⟨(Sl.cells (.inr ⟨b,off,len,cap,grow,rfl,g2,g3,g4⟩)).2,rfl⟩
theorem NR {st:St}{X:List Nat}{v:CV}{T L:List CV}{b off n cap:Nat}{t:TypeId}{g:Bool}(h:Sl st X v 1 T)(hb:st.mem.get b=some (.cells L t g))(hn:T.length<=n)(hl:off+T.length<=L.length)(ho:aX T=true):
 ∃st',gC false 1 (.slice b off n cap 0) v st= .ok (I T.length) st'/\st'.next=st.next/\st'.mem.get b=some (.cells (bt L off T) t g)/\(∀q,q≠b->st'.mem.get q=st.mem.get q):=by
 obtain⟨h1,h2⟩:=h.P8 (by omega) T.length (by omega)
 have e:gC false 1 (.slice b off n cap 0) v st=(match EX v with
  |some m=>(match cellsOf false 1 (min m n) v st with
   |some t=>bC (Nat.beq (min m n) 0) (ya .i64 st 0)
    (bC (Bool.and (aX t) (Bool.or (Nat.beq 0 0) (Nat.ble 1 cap)))
     (match st.mem.get b with
     |some (.cells s ty g)=>Option.rec (Option.rec .bad (fun s'=>ya .i64 ⟨st.mem.put b (some (.cells s' ty g)),st.next⟩ (min m n)) (AQ s off t (off+cap*0))) (fun s'=>ya .i64 ⟨st.mem.put b (some (.cells s' ty g)),st.next⟩ (min m n)) (dR s off t)
     |_=> .bad) .bad)
   |none=> .bad)
  |none=> .bad):=by
  unfold gC;cases EX v<;>rfl
 rw[e,h2];dsimp only;rw[aBH hn];have e2:cellsOf false 1 T.length v st=some T:=h1;rw[e2];dsimp only;rw[ho,hb]
 by_cases h0:T.length=0
 ·have:T=[]:=aBn.1 h0;subst this;refine⟨st,rfl,rfl, ?_,fun q _=>rfl⟩;rw[hb];simp[bt]
 ·have FI:Nat.beq T.length 0=false:=by cases h:Nat.beq T.length 0 with|false=>rfl|true=>rw[aBB]at h;omega
  rw[FI];have e3:dR L off T=some (bt L off T):=by unfold dR;rw[aBb hl];rfl
  dsimp only;rw[e3];refine⟨St.set st b (.cells (bt L off T) t g),rfl,rfl,ao _ _ _,fun q hq=>ak _ _ _ _ hq⟩
theorem pZ {n b l h:Nat}(h1:l<=h)(h2:h<=n)(h3:l<n)(st:St):bP n 1 (.ptr b 0) (some (I l)) (some (I h)) st= .ok (.slice b l (h-l) (n-l) 0) st:=by
 have e:bP n 1 (.ptr b 0) (some (I l)) (some (I h)) st=(match mS (some (I l)) (some (I h)) n n with
  |some (l,h)=>nS (Nat.sub h l) fun k=>nS (Nat.sub n l) fun c=>bC (Nat.beq n l) (.ok (.slice b 0 k c 0) st) (nS (Nat.add 0 (Nat.mul l 1)) fun o=> .ok (.slice b o k c 0) st)
  |none=> .bad):=rfl
 rw[e,pF,aBb ⟨h1,h2⟩];simp only[dE,aM,aBB];rw[aAZ (by omega)];have:Nat.add 0 (Nat.mul l 1)=l:=by simp
 rw[this];rfl
theorem jq {b t:Nat}{z:List CV}{g:Bool}{st:St}(h:st.mem.get b=some (.cells z t g)):iO b z t st= .ok (.ptr b 0) st:=by
 unfold iO;rw[h];simp
theorem gq {b off n:Nat}{l:List CV}{t:TypeId}{g:Bool}{st:St}(h:st.mem.get b=some (.cells l t g))(hn:off+n<=l.length):aI n (.ptr b off) st= .ok (.agg ((l.drop off).take n)) st:=by
 have e:gX l off n=some ((l.drop off).take n):=by unfold gX;rw[aBb hn]
 unfold aI;simp only[h,e]
theorem aO {b n:Nat}{l:List CV}{t:TypeId}{g:Bool}{st:St}(h:st.mem.get b=some (.cells l t g))(hn:l.length=n):aI n (.ptr b 0) st= .ok (.agg l) st:=by
 rw[gq h (by omega),aBx,aBa (by omega)]
def uv (n:Nat):List UInt8:=if 127<n then UInt8.ofNat (n%128+128)::uv (n/128)else [UInt8.ofNat n]
termination_by n
decreasing_by omega
theorem iv {n:Nat}(h:127<n):uv n=UInt8.ofNat (n%128+128)::uv (n/128):=by rw[uv,aBb h]
theorem iW {n:Nat}(h:n<=127):uv n=[UInt8.ofNat n]:=by rw[uv,aAZ (by omega)]
theorem jC (n:Nat)(h:n<=2147483647):1<=(uv n).length/\(uv n).length<=5:=by
 have key:∀k n,n<128^(k+1)->1<=(uv n).length/\(uv n).length<=k+1:=by
  intro k
  induction k with
  |zero=>intro n h;rw[iW (by omega)];simp
  |succ k ih=>
   intro n h
   by_cases hn:127<n
   ·rw[iv hn];have:=ih (n/128) (Nat.div_lt_of_lt_mul (by rw[aDy,aCT]at h;exact h));simp;omega
   ·rw[iW (by omega)];simp
 have:=key 4 n (by omega);omega
