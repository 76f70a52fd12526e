import Derived.Test.YtomffjeofpafnaaGreatDoorLimF
namespace Lim
open Go
noncomputable section
set_option linter.defProp false
section
variable {st st':St}{X:List Nat}{v:CV}{k:Nat}{L:List CV}{e:Nat}{F:List Nat}
abbrev I (n:Int):CV:=.int .i64 n
def ai (l:List UInt8):List CV:=l.map bP
@[simp] def bF (l:List UInt8):(ai l).length=l.length:=ack
def Sl (st:St)(X:List Nat)(v:CV)(k:Nat)(L:List CV):Prop:=
 (v=.ae/\L=[])\/
 ∃b off len cap grow,v=.slice b off len cap grow/\L.length=len*k/\(len<=cap/\(grow=0\/grow=k))/\
  (len=0\/(b∉X/\b<st.nx/\∃l t g,st.m.g b=some (.cells l t g)/\off+len*k<=l.length/\(l.drop off).take (len*k)=L))
def Sl.mono (h:Sl st X v k L)(c:Kp X st st'):Sl st' X v k L:=by
 rcases h with h|⟨b,off,len,cap,grow,o,n,m,a⟩
 .exact .inl h
 .refine .inr ⟨b,off,len,cap,grow,o,n,m,?_⟩;rcases a with a|⟨f,d,l,t,g,j,i⟩
  .exact .inl a
  .exact .inr ⟨f,aId d c.nx,l,t,g,by rw[c.keep b d f];exact j,i⟩
def Sl.eH {Y:List Nat}(h:Sl st X v k L)(c:∀q∈Y,q∈X\/st.nx<=q):Sl st Y v k L:=by
 rcases h with h|⟨b,off,len,cap,grow,m,l,j,a⟩
 .exact .inl h
 .refine .inr ⟨b,off,len,cap,grow,m,l,j,?_⟩;rcases a with a|⟨i,g,f⟩
  .exact .inl a
  .exact .inr ⟨λd=>by rcases c b d with h|h;exact i h;omega,g,f⟩
def Sl.len (h:Sl st X v k L)(n:Nat)(hn:L.length=n*k)(a:0<k)(s:St):bt .slice v s=.ok (I n) s:=by
 rcases h with⟨rfl,rfl⟩|⟨b,off,len,cap,grow,rfl,c,_⟩
 .have:n=0:=by
   rcases Nat.mul_eq_zero.1 (show n*k=0 from aem)with h|h<;>omega
  subst this;rfl
 .have:len=n:=aIT a (by rw[<-c,hn]);subst this;rfl
def kg (k n b off len cap grow:Nat)(st:St):dE k n (.slice b off len cap grow) st=if n=0 then some []else if grow=0\/n<=len then (match st.m.g b with|some (.cells s _ _)=>gY s off (n*k)|some (.ro s _)=>gY s off (n*k)|_=>none)else none:=by
 have e:dE k n (.slice b off len cap grow) st=bE (Nat.beq n 0) (some []) (bE (Bool.or (Nat.beq grow 0) (Nat.ble n len)) (match st.m.g b with|some (.cells s _ _)=>gY s off (n*k)|some (.ro s _)=>gY s off (n*k)|_=>none) none):=rfl;rw[e];simp only[aO,aIs,aIK,aIr]
def Sl.cells {b off len cap grow:Nat}(h:Sl st X (.slice b off len cap grow) k L):L.length=len*k/\dE k len (.slice b off len cap grow) st=some L:=by
 rcases h with⟨h,_⟩|⟨s,r,o,q,n,m,d,p,a⟩
 .cases h
 .cases m;refine⟨d,?_⟩;rw[kg]
  by_cases c:len=0
  .subst c;have:L=[]:=by apply aIh.1;simpa using d
   subst this;rfl
  .rcases a with a|⟨_,_,l,t,g,j,i,f⟩
   .exact absurd a c
   .rw[aHM c,aHP (.inr (aHK _)),j];unfold gY;dsimp only;rw[aHP i,f]
def Sl.src (h:Sl st X v k L)(z:List CV):∃n,L.length=n*k/\cT .slice k z v st=some (n,L):=by
 have c:=h;rcases h with⟨rfl,rfl⟩|⟨b,off,len,cap,grow,rfl,a,f,d⟩
 .exact⟨0,wb,rfl⟩
 .refine⟨len,a,?_⟩;have e:cT .slice k z (.slice b off len cap grow) st=(match dE k len (.slice b off len cap grow) st with|some s=>some (len,s)|none=>none):=rfl;rw[e,c.cells.2]
def Sl.idx (h:Sl st X v 1 L){i:Nat}(hi:i<L.length)(k:CV->Prop)(d:k L[i]):Lim.idx 1 v (I i) st k:=by
 rcases h with⟨rfl,rfl⟩|⟨b,off,len,cap,grow,rfl,n,m,c⟩
 .simp at hi
 .have hl:L.length=len:=by simpa using n
  rcases c with c|⟨_,_,l,t,g,j,o,f⟩
  .omega
  .have hc:(Bool.and (Nat.ble (Nat.succ i) len) (Bool.or (Nat.beq grow 0) (Nat.ble len cap)))=true:=by
    simp only[aIf,aIK,aIr,aIs];exact⟨uM,.inr m.1⟩
   have e:cV 1 (.slice b off len cap grow) (I i) st=.ok (.ptr b (off+i*1)) st:=by
    show bE _ _ _=_;rw[aO,aHP hc];rfl
   unfold Lim.idx;rw[e];simp only[af,az,j,ar,aJr]
   have:l[off+i]?=some L[i]:=by
    have a:=f.symm;rw[aHO uM]
    congr 1
    subst a;simp
   rw[this];exact d
def Own (st:St)(v:CV)(k e:Nat)(L:List CV)(F:List Nat):Prop:=
 (v=.ae/\L=[]/\F=[])\/
 (∃b l t g,v=.slice b 0 0 0 0/\L=[]/\F=[b]/\st.m.g b=some (.cells l t g))\/
 (∃b n,v=.slice b 0 n n k/\0<n/\L.length=n*k/\F=[b]/\st.m.g b=some (.cells L e true))
def Own.mono (h:Own st v k e L F)(i:∀b∈F,st'.m.g b=st.m.g b):Own st' v k e L F:=by
 rcases h with h|⟨b,l,t,g,f,d,c,a⟩|⟨b,n,f,d,c,a,j⟩
 .exact .inl h
 .exact .inr (.inl ⟨b,l,t,g,f,d,c,by rw[i b (by simp[c])];exact a⟩)
 .exact .inr (.inr ⟨b,n,f,d,c,a,by rw[i b (by simp[a])];exact j⟩)
def Own.sl (h:Own st v k e L F)(d:∀b∈F,b∉X/\b<st.nx):Sl st X v k L:=by
 rcases h with⟨a,h2,_⟩|⟨b,l,t,g,a,h2,f,c⟩|⟨b,n,a,h2,f,c,i⟩
 .exact .inl ⟨a,h2⟩
 .exact .inr ⟨b,0,0,0,0,a,adb,⟨aHK _,.inl rfl⟩,.inl rfl⟩
 .exact .inr ⟨b,0,n,n,k,a,f,⟨aHK _,.inr rfl⟩,.inr ⟨(d b (by simp[c])).1,(d b (by simp[c])).2,L,e,true,i,uM,Yv⟩⟩
def Own.cF (h:Own st v k e L F):cF v=true/\v.cK=[v]:=by
 rcases h with⟨rfl,_⟩|⟨b,l,t,g,rfl,_⟩|⟨b,n,rfl,_⟩<;>exact⟨rfl,rfl⟩
def Own.append {n bytes:Nat}{T:List CV}(h:Own st v k e L F)(hk:0<k)(hT:T.length=n*k)(o:bh T=true)(f:∀b∈F,b<st.nx)
 (p:(L.length+T.length)*(bytes+1)<=140737488355328):∃v' st' F',bJ e k bytes v (some (n,T)) st=.ok v' st'/\Own st' v' k e (L++T) F'/\Kp F st st'/\(∀b∈F',(b∈F\/b=st.nx)/\b<st'.nx):=by
 have a:∀m,m*k<=L.length+T.length->m*bytes<=140737488355328/\m<=140737488355328:=by
  intro m a;have h1:=aIz (by simpa using Nat.mul_le_mul_left m hk) a;have h2:m*bytes<=(L.length+T.length)*(bytes+1):=aKK h1 uM;have c:=aIz h1 (by simpa using Nat.mul_le_mul_left (L.length+T.length) (show 1<=bytes+1 from uM));exact⟨uM,uM⟩
 by_cases i:n=0
 .subst i;have:T=[]:=by apply aIh.1;simpa using hT
  subst this;rw[aIJ];refine⟨v,st,F,?_,h,Kp.refl _ _,λb hb=>⟨.inl hb,f b hb⟩⟩;rcases h with⟨rfl,_⟩|⟨b,l,t,g,rfl,_⟩|⟨b,m,rfl,_⟩
  .rfl
  .rfl
  .show bE (Nat.beq 0 0) (bE (Nat.ble m m) _ _) _=_;rw[show Nat.ble m m=true by rw[aIr];exact aHK _];rfl
 .have d:Nat.beq n 0=false:=by cases h:Nat.beq n 0 with|false=>rfl|true=>rw[aIs]at h;exact absurd h i
  have j:Nat.ble 1 k=true:=by rw[aIr];exact hk
  rcases h with⟨rfl,rfl,rfl⟩|⟨b,l,t,g,rfl,rfl,rfl,x⟩|⟨b,m,rfl,h2,c,rfl,w⟩
  .obtain⟨q1,q2⟩:=a n (by simp[hT]);refine⟨.slice st.nx 0 n n k,⟨st.m.put st.nx (some (.cells T e true)),st.nx+1⟩,[st.nx],?_,?_,(Kp.refl [] st).new _,λb hb=>⟨.inr acJ,adO⟩⟩
   .show bE _ _ _=_;rw[d,j,show Nat.ble (Nat.mul n bytes) 140737488355328=true by rw[aIr];exact q1,show Nat.ble n 140737488355328=true by rw[aIr];exact q2];rfl
   .exact .inr (.inr ⟨st.nx,n,rfl,uM,abn,rfl,PT.dj _ _ _⟩)
  .obtain⟨q1,q2⟩:=a n (by simp[hT]);refine⟨.slice st.nx 0 n n k,⟨st.m.put st.nx (some (.cells T e true)),st.nx+1⟩,[st.nx],?_,?_,(Kp.refl [b] st).new _,λb hb=>⟨.inr acJ,adO⟩⟩
   .unfold bJ;simp only[d,aO,aHH,aHV,dH];have z:Nat.add 0 n=n:=aHN n;rw[z,aHM acd,aHP adM,x];simp[gY]
   .exact .inr (.inr ⟨st.nx,n,rfl,uM,abn,rfl,PT.dj _ _ _⟩)
  .have s:=f b wb;obtain⟨q1,q2⟩:=a (m+n) (by rw[aIV,<-c,<-hT];exact aHK _);refine⟨.slice st.nx 0 (m+n) (m+n) k,⟨(st.m.put b none).put st.nx (some (.cells (L++T) e true)),st.nx+1⟩,[st.nx],?_,?_,?_,λb hb=>⟨.inr acJ,adO⟩⟩
   .unfold bJ;simp only[d,aO,aHH,aHV,dH];rw[show Nat.add m n=m+n from rfl,aHM acd,aHP adM,w];have y:gY L 0 (m*k)=some L:=by unfold gY;rw[aHP uM,aIn,aHS uM]
    dsimp only;rw[y];dsimp only;rw[aHM (by rw[aIs];omega),aHP (by simp only[aIf,aIs,aIr];exact⟨afp,afp,afp,o,h2⟩)]
   .exact .inr (.inr ⟨st.nx,m+n,rfl,uM,by rw[aHR,c,hT,aIV],rfl,PT.dj _ _ _⟩)
   .refine⟨wb,λq h1 h2=>?_,λu q r=>?_⟩
    .show((st.m.put b none).put st.nx _).g q=_;rw[PT.du _ _ _ _ uM,PT.du _ _ _ _ abm]
    .show((st.m.put b none).put st.nx _).g q=_;simp only at r;rw[PT.du _ _ _ _ uM,PT.du _ _ _ _ uM];exact u q uM
end
section
variable {i:Int}{j:Nat}{u:CV}{es:List eK}{st st':St}{e:eK}
abbrev MZ:=List (Int×CV)
def lW:MZ->Int->Option (Nat×CV)
 |[],_=>none
 |p::r,i=>if i=p.1 then some (0,p.2)else (lW r i).map λq=>(q.1+1,q.2)
def jE:MZ->Int->Option CV
 |[],_=>none
 |p::r,i=>if i=p.1 then some p.2 else jE r i
def nv:MZ->Int->CV->MZ
 |[],i,x=>[(i,x)]
 |p::r,i,x=>if i=p.1 then (i,x)::r else p::nv r i x
def rA:MZ->Int->MZ
 |[],_=>[]
 |p::r,i=>if i=p.1 then r else p::rA r i
def De (m:MZ)(i:Int):jE m i=(lW m i).map (·.2):=by
 induction m with
 |nil=>rfl
 |cons p r a=>
  simp only[jE,lW]
  split
  .rfl
  .rw[a];cases lW r i<;>rfl
def Hg (m:MZ)(i j:Int)(x:CV):jE (nv m i x) j=if j=i then some x else jE m j:=by
 induction m with
 |nil=>simp[nv,jE]
 |cons p r a=>
  simp only[nv]
  split
  .rename_i h;subst h;simp only[jE];split<;>simp_all
  .rename_i h;simp only[jE,a]
   split
   .rename_i h2;subst h2;rw[aHM (λe=>h e.symm)]
   .rfl
def vy {m:MZ}(h:lW m i=some (j,u)):m[j]?=some (i,u)/\∀x,nv m i x=m.set j (i,x)/\rA m i=m.eraseIdx j:=by
 induction m generalizing j with
 |nil=>cases h
 |cons p r b=>
  simp only[lW]at h
  split at h
  .rename_i e;cases h;subst e;exact⟨rfl,λx=>⟨by simp[nv],by simp[rA]⟩⟩
  .rename_i e;cases hf:lW r i with
   |none=>rw[hf]at h;cases h
   |some q=>
    rw[hf]at h;obtain⟨f,d⟩:=q;cases h;obtain⟨c,a⟩:=b hf;exact⟨c,λx=>⟨by simp[nv,e,(a x).1],by simp[rA,e,(a x).2]⟩⟩
def rz {m:MZ}(h:lW m i=none):i∉m.map (·.1)/\∀x,nv m i x=m++[(i,x)]/\rA m i=m:=by
 induction m with
 |nil=>exact⟨wb,λx=>⟨rfl,rfl⟩⟩
 |cons p r b=>
  simp only[lW]at h
  split at h
  .cases h
  .rename_i e;obtain⟨c,a⟩:=b (by cases hf:lW r i with|none=>rfl|some q=>rw[hf]at h;cases h);exact⟨by simp only[aIt,aHJ,aJf];exact⟨e,c⟩,λx=>⟨by simp[nv,e,(a x).1],by simp[rA,e,(a x).2]⟩⟩
def mem_keys {m:MZ}:i∈m.map (·.1)↔(jE m i).isSome=true:=by
 induction m with
 |nil=>simp[jE]
 |cons p r a=>
  simp only[aIt,aHJ,jE]
  split
  .rename_i e;simp[e]
  .rename_i e;rw[<-a];simp[e]
def oQ {m:MZ}(h:(m.map (·.1)).Nodup)(i:Int)(x:CV):((nv m i x).map (·.1)).Nodup:=by
 induction m with
 |nil=>simp[nv]
 |cons p r b=>
  simp only[nv];simp only[aIt,aHX]at h
  split
  .rename_i e;subst e;simpa using h
  .rename_i e;simp only[aIt,aHX];refine⟨λa=>?_,b h.2⟩;rw[mem_keys,Hg]at a
   split at a
   .rename_i c;exact e c.symm
   .exact h.1 (mem_keys.2 a)
def Qr {m:MZ}(h:(m.map (·.1)).Nodup)(i j:Int):jE (rA m i) j=if j=i then none else jE m j:=by
 induction m with
 |nil=>simp[rA,jE]
 |cons p r b=>
  simp only[aIt,aHX]at h;simp only[rA]
  split
  .rename_i e;subst e
   split
   .rename_i a;subst a;cases hg:jE r p.1 with
    |none=>rfl
    |some u=>exact absurd (mem_keys.2 (by rw[hg];rfl)) h.1
   .rename_i a;simp[jE,a]
  .rename_i e;simp only[jE,b h.2]
   split
   .rename_i a;subst a;rw[aHM (λc=>e c.symm)]
   .rfl
def J9 {m:MZ}(h:(m.map (·.1)).Nodup)(i:Int):((rA m i).map (·.1)).Nodup:=by
 induction m with
 |nil=>exact h
 |cons p r b=>
  have c:=h;simp only[aIt,aHX]at h;simp only[rA]
  split
  .exact h.2
  .rename_i e;simp only[aIt,aHX];refine⟨λa=>?_,b h.2⟩;rw[mem_keys,Qr h.2]at a
   split at a
   .cases a
   .exact h.1 (mem_keys.2 a)
def cY (es:List eK)(m:MZ):Prop:=es.map (λe=>(e.1,e.2.1))=m.map (λp=>(I p.1,p.2))
def uj {m:MZ}(h:cY es m)(i:Int)(j:Nat):jX .int (I i) es j=some ((lW m i).map λq=>(j+q.1,q.2)):=by
 induction es generalizing m j with
 |nil=>cases m with
  |nil=>rfl
  |cons p r=>simp[cY]at h
 |cons e es a=>
  cases m with
  |nil=>simp[cY]at h
  |cons p r=>
   simp only[cY,aIt,aJl,aJD]at h;obtain⟨⟨f,d⟩,c⟩:=h;have k:jX .int (I i) (e::es) j=Option.rec none (λb=>bE b (some (some (j,e.2.1))) (jX .int (I i) es (Nat.succ j))) (mJ .int (I i) e.1):=rfl;rw[k,f];have g:mJ .int (I i) (I p.1)=some (decide (i=p.1)):=by simp[mJ]
   rw[g];simp only[aO,aIP,lW,a c (j+1),Nat.succ_eq_add_one]
   split
   .simp[d]
   .cases lW r i with
    |none=>rfl
    |some q=>simp only[aIZ];congr 3;omega
def tW (es:List eK)(i:Nat)(e:eK):yK es i e=es.set i e:=by
 induction es generalizing i with
 |nil=>rfl
 |cons x r a=>cases i with
  |zero=>rfl
  |succ i=>show x::yK r i e=_;rw[a];rfl
def yv (es:List eK)(i:Nat):DD es i=es[i]?:=by
 induction es generalizing i with
 |nil=>rfl
 |cons x r a=>cases i with
  |zero=>rfl
  |succ i=>show DD r i=_;rw[a];rfl
def Is (es:List eK)(i:Nat):It es i=es.eraseIdx i:=by
 induction es generalizing i with
 |nil=>rfl
 |cons x r a=>cases i with
  |zero=>rfl
  |succ i=>show x::It r i=_;rw[a];rfl
def qO (i:Int):sn .int (I i)=true:=by simp[sn,Zc,mJ]
def dd (st:St)(b:Nat)(m:MZ):Prop:=∃es c,st.m.g b=some (.map es c)/\cY es m/\(m.map (·.1)).Nodup/\(es.map (·.2.2)).Nodup/\∀e∈es,e.2.2<c
def IsMap (st:St)(b:Nat)(m:MZ):Prop:=dd st b m\/∃es,st.m.g b=some (.lmap es)/\cY es m/\(m.map (·.1)).Nodup
def dd.nd {b:Nat}{m:MZ}(h:dd st b m):(m.map (·.1)).Nodup:=by obtain⟨es,c,_,_,h,_⟩:=h;exact h
def IsMap.nd {b:Nat}{m:MZ}(h:IsMap st b m):(m.map (·.1)).Nodup:=by rcases h with h|⟨es,_,_,h⟩;exact h.nd;exact h
def dd.mono {b:Nat}{m:MZ}(h:dd st b m)(a:st'.m.g b=st.m.g b):dd st' b m:=by
 obtain⟨es,c,f,d⟩:=h;exact⟨es,c,by rw[a];exact f,d⟩
def IsMap.mono {b:Nat}{m:MZ}(h:IsMap st b m)(a:st'.m.g b=st.m.g b):IsMap st' b m:=by
 rcases h with h|⟨es,d,c⟩
 .exact .inl (h.mono a)
 .exact .inr ⟨es,by rw[a];exact d,c⟩
def dd.new (st:St):dd (St.new st (.map [] 0)) st.nx []:=⟨[],0,wb,rfl,wb,wb,wb⟩
def Hl {m:MZ}(h:cY es m)(i:Int):wT i es=jE m i:=by
 induction es generalizing m with
 |nil=>cases m with
  |nil=>rfl
  |cons p r=>simp[cY]at h
 |cons e es a=>
  cases m with
  |nil=>simp[cY]at h
  |cons p r=>
   simp only[cY,aIt,aJl,aJD]at h;obtain⟨⟨d,c⟩,b⟩:=h;have f:wT i (e::es)=bE (EZ i e.1) (some e.2.1) (wT i es):=rfl;rw[f,d,a b,c];simp only[EZ,aO,jE,aIP]
def IsMap.lookup {b:Nat}{m:MZ}(h:IsMap st b m)(z:CV)(l:Bool)(i:Int)(s:St)(d:s.m.g b=st.m.g b):gj .int z l (.map b) (I i) s=
 if l=true then .ok (.tuple [(jE m i).getD z,.bool (jE m i).isSome]) s else .ok ((jE m i).getD z) s:=by
 unfold gj;rw[qO,aO,aHP rfl];rcases h with⟨es,c,a,f,_⟩|⟨es,a,f,_⟩
 .have k:oT (.map b) s=none:=by simp[oT,d,a]
  have n:vQ (.map b) s=some es:=by simp[vQ,d,a]
  rw[k,n];simp only[uj f,De];cases lW m i with
  |none=>simp
  |some q=>simp
 .have k:oT (.map b) s=some es:=by simp[oT,d,a]
  rw[k];simp only[wD,Kd,Hl f];cases jE m i with
  |none=>simp
  |some u=>simp
def cY.len {m:MZ}(h:cY es m):es.length=m.length:=by simpa using congrArg List.length h
def IsMap.len {b:Nat}{m:MZ}(h:IsMap st b m):bt .map (.map b) st=.ok (I m.length) st:=by
 rcases h with⟨es,c,d,a,_⟩|⟨es,d,a,_⟩
 .simp[bt,d,a.len]
 .simp[bt,d,a.len]
def cY.set {m:MZ}(h:cY es m)(j:Nat)(i:Int)(x:CV)(a:Nat):cY (es.set j (I i,x,a)) (m.set j (i,x)):=by
 unfold cY at*;rw[List.map_set,List.map_set,h]
def cY.snoc {m:MZ}(h:cY es m)(i:Int)(x:CV)(a:Nat):cY (es++[(I i,x,a)]) (m++[(i,x)]):=by
 unfold cY at*;simp[h]
def cY.at {m:MZ}(h:cY es m)(b:m[j]?=some (i,u)):∃c,es[j]?=some (I i,u,c):=by
 have a:(es.map λe=>(e.1,e.2.1))[j]?=some (I i,u):=by rw[h,aIu,b];rfl
 rw[aIu]at a;cases he:es[j]? with
 |none=>rw[he]at a;cases a
 |some e=>
  rw[he]at a;simp only[aIZ,aJo,aJD]at a;exact⟨e.2.2,by rw[<-a.1,<-a.2]⟩
def Ac {e':eK}(h:es[j]?=some e)(a:e'.2.2=e.2.2):(es.set j e').map (·.2.2)=es.map (·.2.2):=by
 rw[List.map_set];apply aJR;intro k;rw[List.getElem?_set]
 split
 .rename_i d;subst d;obtain⟨c,b⟩:=aHW.1 h;simp[a,c,b]
 .rfl
def IsMap.update {b:Nat}{m:MZ}(h:IsMap st b m)(i:Int)(x:CV):∃blk,dG .int (.map b) (I i) x st=.ok .undef (St.set st b blk)/\IsMap (St.set st b blk) b (nv m i x)/\(dd st b m->dd (St.set st b blk) b (nv m i x)):=by
 rcases h with⟨es,c,z,g,l,F,y⟩|⟨es,z,g,l⟩
 .have key:∃blk,dG .int (.map b) (I i) x st=.ok .undef (St.set st b blk)/\dd (St.set st b blk) b (nv m i x):=by
   unfold dG;rw[qO,aO,aHP rfl];simp only[z,uj g];cases k:lW m i with
   |none=>
    simp only[aKE,dH];refine⟨.map (es++[(I i,x,c)]) (c+1),rfl,es++[(I i,x,c)],c+1,wb,?_,oQ l i x,?_,?_⟩
    .rw[((rz k).2 x).1];exact g.snoc i x c
    .rw[aIQ,aIE];refine⟨F,wb,λa O b N=>?_⟩;simp only[aIt,List.map_nil,aJb]at N;obtain⟨e,d,rfl⟩:=aIk.1 O;have:=y e d;omega
    .intro e d;rcases aHT.1 d with d|d
     .have:=y e d;omega
     .simp only[aJb]at d;subst d;exact aKx c
   |some q=>
    obtain⟨j,u⟩:=q;obtain⟨K,J⟩:=vy k;obtain⟨v,d⟩:=g.at K;simp only[aIZ,aHN,yv,d,tW];rw[show uP (I i) (I i)=true by simp[uP,Ag],aO,aHP rfl];refine⟨.map (es.set j (I i,x,v)) c,rfl,es.set j (I i,x,v),c,wb,?_,oQ l i x,?_,?_⟩
    .rw[(J x).1];exact g.set j i x v
    .rw[Ac (e':=(I i,x,v)) d rfl];exact F
    .intro e hm;rcases aJN hm with hm|rfl
     .exact y e hm
     .exact y (I i,u,v) (aII d)
  obtain⟨blk,L,E⟩:=key;exact⟨blk,L,.inl E,λ_=>E⟩
 .have D:¬dd st b m:=λ⟨es',c,h,_⟩=>by rw[z]at h;cases h
  unfold dG;rw[qO,aO,aHP rfl];simp only[z,Ax,Kd,Hl g]
  have Q:∀(es:List eK) (m:MZ),cY es m->jE m i=none->rC i x es=es:=by
   intro es
   induction es with
   |nil=>intro m _ _;rfl
   |cons e es B=>
    intro m h f;cases m with
    |nil=>simp[cY]at h
    |cons p r=>
     simp only[cY,aIt,aJl,aJD]at h;obtain⟨⟨n,G⟩,s⟩:=h;have A:rC i x (e::es)=bE (EZ i e.1) ((e.1,x,e.2.2)::rC i x es) (e::rC i x es):=rfl;simp only[jE]at f
     split at f
     .cases f
     .rename_i P;have o:EZ i e.1=false:=by rw[n];simp[EZ,P]
      rw[A,o,B r s f];rfl
  have C:∀(es:List eK) (m:MZ),cY es m->(m.map (·.1)).Nodup->(jE m i).isSome=true->cY (rC i x es) (nv m i x):=by
   intro es
   induction es with
   |nil=>intro m h w f;cases m with
    |nil=>cases f
    |cons p r=>simp[cY]at h
   |cons e es B=>
    intro m h w f;cases m with
    |nil=>cases f
    |cons p r=>
     simp only[cY,aIt,aJl,aJD]at h;obtain⟨⟨n,G⟩,s⟩:=h;simp only[aIt,aHX]at w;have A:rC i x (e::es)=bE (EZ i e.1) ((e.1,x,e.2.2)::rC i x es) (e::rC i x es):=rfl
     by_cases hi:i=p.1
     .have o:EZ i e.1=true:=by rw[n];simp[EZ,hi]
      have M:jE r i=none:=by
       cases hg:jE r i with
       |none=>rfl
       |some u=>exact absurd (mem_keys.2 (by rw[<-hi,hg];rfl)) w.1
      rw[A,o,Q es r s M];simp only[aO,aIj,nv,aHP hi,cY,aIt,aJl,aJD];exact⟨⟨by rw[n,hi],afp⟩,s⟩
     .have o:EZ i e.1=false:=by rw[n];simp[EZ,hi]
      have H:(jE r i).isSome=true:=by simpa[jE,hi]using f
      rw[A,o];simp only[aO,aHH,aHV,nv,aHM hi,cY,aIt,aJl,aJD];exact⟨⟨n,G⟩,B r s w.2 H⟩
  cases hg:jE m i with
  |none=>
   have k:lW m i=none:=by
    rw[De]at hg;cases k:lW m i with
    |none=>rfl
    |some q=>rw[k]at hg;cases hg
   refine⟨.lmap (es++[(I i,x,0)]),rfl,.inr ⟨es++[(I i,x,0)],wb,?_,oQ l i x⟩,λh=>absurd h D⟩;rw[((rz k).2 x).1];exact g.snoc i x 0
  |some u=>exact⟨.lmap (rC i x es),rfl,.inr ⟨rC i x es,wb,C es m g l (by rw[hg];rfl),oQ l i x⟩,λh=>absurd h D⟩
def OD (h:es[j]?=some e)(a:(es.map (·.2.2)).Nodup):∀k,tC e.2.2 es k=some (k+j,e):=by
 induction es generalizing j with
 |nil=>simp at h
 |cons x r c=>
  intro k;have f:tC e.2.2 (x::r) k=bE (Nat.beq x.2.2 e.2.2) (some (k,x)) (tC e.2.2 r (Nat.succ k)):=rfl;rw[f];simp only[aO,aIs];simp only[aIt,aHX]at a;cases j with
  |zero=>simp at h;subst h;simp
  |succ j=>
   have b:r[j]?=some e:=TK
   rw[aHM (λd=>a.1 (aIk.2 ⟨e,aII b,d.symm⟩)),c b a.2]
   congr 2
   show k+1+j=k+(j+1);omega
def dd.entry {b:Nat}{m:MZ}(h:dd st b m)(z:CV)(i:Int):∃v d blk,fI .int z (.map b) (I i) st=.ok (.tuple [v,I d]) (St.set st b blk)/\
 ∀y s,s.m.g b=some blk->∃l,dY (.map b) (I d) y s=.ok .undef (St.set s b l)/\dd (St.set s b l) b (nv m i y):=by
 obtain⟨es,c,J,r,H,x,p⟩:=h;unfold fI;rw[qO,aO,aHP rfl];simp only[J,uj r]
 have n:∀(es2:List eK) (o j d:Nat) (u:CV),es2[j]?=some (I i,u,d)->(es2.map (·.2.2)).Nodup->(∀e∈es2,e.2.2<o)->(∀y,cY (es2.set j (I i,y,d)) (nv m i y))->
  ∀y s,s.m.g b=some (.map es2 o)->∃l,dY (.map b) (I d) y s=.ok .undef (St.set s b l)/\dd (St.set s b l) b (nv m i y):=by
  intro es2 o j d u w B A K y s E;refine⟨.map (es2.set j (I i,y,d)) o,?_,es2.set j (I i,y,d),o,wb,K y,oQ H i y,?_,?_⟩
  .have L:dY (.map b) (I d) y s=(match s.m.g b with
    |some (.map es clock)=>(match tC d es 0 with
     |some (i,(k,_,d))=>.ok .undef ⟨s.m.put b (some (.map (yK es i (k,y,d)) clock)),s.nx⟩
     |none=>.bad)
    |_=>.bad):=rfl
   rw[L,E];dsimp only;have:=OD w B 0;dsimp only at this;rw[this];simp only[aHN,tW]
   rfl
  .rw[Ac (e':=(I i,y,d)) w rfl];exact B
  .intro e f;rcases aJN f with f|rfl
   .exact A e f
   .exact A (I i,u,d) (aII w)
 cases hf:lW m i with
 |none=>
  simp only[aKE,dH];refine⟨z,c,.map (es++[(I i,z,c)]) (c+1),rfl,n _ _ es.length c z wb ?_ ?_ ?_⟩
  .rw[aIQ,aIE];refine⟨x,wb,λa G b F=>?_⟩;simp only[aIt,List.map_nil,aJb]at F;obtain⟨e,f,rfl⟩:=aIk.1 G;have:=p e f;omega
  .intro e f;rcases aHT.1 f with f|f
   .have:=p e f;omega
   .simp only[aJb]at f;subst f;exact aKx c
  .intro y;rw[((rz hf).2 y).1];have:(es++[(I i,z,c)]).set es.length (I i,y,c)=es++[(I i,y,c)]:=by simp
   rw[this];exact r.snoc i y c
 |some q=>
  obtain⟨j,u⟩:=q;obtain⟨D,C⟩:=vy hf;obtain⟨d,f⟩:=r.at D;simp only[aIZ,aHN,yv,f,tW];rw[show uP (I i) (I i)=true by simp[uP,Ag],aO,aHP rfl];refine⟨u,d,.map (es.set j (I i,u,d)) c,rfl,n _ _ j d u (by rw[List.getElem?_set_self (aHW.1 f).1]) ?_ ?_ ?_⟩
  .rw[Ac (e':=(I i,u,d)) f rfl];exact x
  .intro e hm;rcases aJN hm with hm|rfl
   .exact p e hm
   .exact p (I i,u,d) (aII f)
  .intro y;rw[List.set_set,(C y).1];exact r.set j i y d
def qh {b c:Type}(f:b->c)(l:List b)(j:Nat):(l.eraseIdx j).map f=(l.map f).eraseIdx j:=by
 induction l generalizing j with
 |nil=>rfl
 |cons a l d=>cases j with
  |zero=>rfl
  |succ j=>simp[d]
def dd.delete {b:Nat}{m:MZ}(h:dd st b m)(i:Int):∃st',pO .int (.map b) (I i) st=.ok .undef st'/\(st'=st\/∃blk,st'=St.set st b blk)/\dd st' b (rA m i):=by
 have n:=h;obtain⟨es,c,l,a,k,g,f⟩:=h;unfold pO;rw[qO,aO,aHP rfl];simp only[l,uj a];cases hf:lW m i with
 |none=>exact⟨st,rfl,.inl rfl,by rw[((rz hf).2 .undef).2];exact n⟩
 |some q=>
  obtain⟨j,u⟩:=q;obtain⟨o,d⟩:=vy hf;simp only[aIZ,aHN,Is];refine⟨St.set st b (.map (es.eraseIdx j) c),rfl,.inr ⟨_,rfl⟩,es.eraseIdx j,c,wb,?_,J9 k i,?_,?_⟩
  .rw[(d .undef).2];unfold cY at*;rw[qh,qh,a]
  .rw[qh];exact g.sublist (List.eraseIdx_sublist _ _)
  .intro e he;exact f e (List.mem_of_mem_eraseIdx he)
end
section
variable {α:Type}{L:List CV}{n:Nat}{st st':St}{v:CV}{k:Nat}{X:List Nat}{cap:Nat}{F:List Nat}{e:Nat}{x:CV}{l h:Nat}{z:List CV}{t:TypeId}{g:Bool}
def fg {L:List (List α)}{w:Nat}(h:∀x∈L,x.length=w):L.flatten.length=L.length*w:=by
 induction L with
 |nil=>simp
 |cons a L b=>
  rw[aJx,aHR,b (λx c=>h x (aIH _ c)),h a (aIO ..),aIg,aIV,aJV,aKL]
def ue {L:List (List α)}{w:Nat}(h:∀x∈L,x.length=w)(i:Nat)(hi:i<=L.length):L.flatten.drop (i*w)=(L.drop i).flatten:=by
 induction L generalizing i with
 |nil=>simp
 |cons a L b=>
  cases i with
  |zero=>simp
  |succ i=>
   rw[aJx,aIV,aJV,List.drop_append,aIp (by rw[h a (aIO ..)];omega),aIm,h a (aIO ..),aJh,
    b (λx c=>h x (aIH _ c)) i Yy]
   rfl
def ud {L:List (List α)}{w:Nat}(h:∀x∈L,x.length=w)(i:Nat)(hi:i<=L.length):L.flatten.take (i*w)=(L.take i).flatten:=by
 induction L generalizing i with
 |nil=>simp
 |cons a L b=>
  cases i with
  |zero=>simp
  |succ i=>
   rw[aJx,aIV,aJV,aJJ,aHS (by rw[h a (aIO ..)];omega),h a (aIO ..),aJh,
    b (λx c=>h x (aIH _ c)) i Yy]
   rfl
def th {L:List (List α)}{w:Nat}(h:∀x∈L,x.length=w)(i:Nat)(hi:i<L.length):(L.flatten.drop (i*w)).take w=L[i]:=by
 rw[ue h i (Nat.le_of_lt hi),aIe hi,aJx,aJJ,aHS (by rw[h _ (aIc ..)];omega),h _ (aIc ..)];simp
def R6 {L:List (List α)}{w:Nat}(h:∀x∈L,x.length=w)(i:Nat)(hi:i<L.length)(o n:Nat)(a:o+n<=w):(L.flatten.drop (i*w+o)).take n=(L[i].drop o).take n:=by
 rw[<-th h i hi,aJF,aKz,aJc,aIC uM]
def R7 {L:List (List α)}{w:Nat}(h:∀x∈L,x.length=w)(i:Nat)(hi:i<L.length)(o:Nat)(a:o<w):L.flatten[i*w+o]?=L[i][o]?:=by
 rw[<-th h i hi,aJe,aHP a,aJA]
def yq {L:List (List CV)}{w:Nat}(h:∀x∈L,x.length=w)(i:Nat)(hi:i<L.length)(x:List CV)(a:x.length=w):bz L.flatten (i*w) x=(L.set i x).flatten:=by
 unfold bz;rw[ud h i (Nat.le_of_lt hi),a,show i*w+w=(i+1)*w by rw[aIV,aJV],ue h (i+1) hi,aKg,aHP hi];simp
def bG {b:List CV->St->(List CV->St->Prop)->Prop}(c:Nat->List CV->St->Prop)(step:∀n a s k,c n a s->(∀d f s',d<n->c d f s'->k f s')->b a s k){a:List CV}{s:St}(h:c n a s):df b a s:=by
 have i:∀m n a s,n<m->c n a s->Hj b m a s:=by
  intro m
  induction m with
  |zero=>intro n a s h;omega
  |succ m j=>intro n a s h hi;exact step n a s _ hi λd f s' p o=>j d f s' uM o
 exact⟨n+1,i (n+1) n a s uM h⟩
def Row (st:St)(v:CV)(k n:Nat)(L:List CV)(b:Nat):Prop:=
 ∃t g gr,v=.slice b 0 n n gr/\(gr=0\/gr=k)/\L.length=n*k/\st.m.g b=some (.cells L t g)
def Row.mono {b:Nat}(h:Row st v k n L b)(a:st'.m.g b=st.m.g b):Row st' v k n L b:=by
 obtain⟨t,g,gr,i,f,d,c⟩:=h;exact⟨t,g,gr,i,f,d,by rw[a];exact c⟩
def Row.sl {b:Nat}(h:Row st v k n L b)(a:b∉X)(c:b<st.nx):Sl st X v k L:=by
 obtain⟨t,g,gr,j,i,f,d⟩:=h;exact .inr ⟨b,0,n,n,gr,j,f,⟨aHK _,i⟩,.inr ⟨a,c,L,t,g,d,uM,Yv⟩⟩
def gp {size b off len grow:Nat}{i:Nat}(h:i<len)(a:grow=0\/len<=cap)(st:St):cV size (.slice b off len cap grow) (I i) st=.ok (.ptr b (off+i*size)) st:=by
 have c:(Bool.and (Nat.ble (Nat.succ i) len) (Bool.or (Nat.beq grow 0) (Nat.ble len cap)))=true:=by
  simp only[aIf,aIK,aIr,aIs];exact⟨uM,a⟩
 show bE _ _ _=_;rw[aO,aHP c];rfl
def Own.keep {G:List Nat}(h:Own st v k e L G)(d:Kp F st st')(a:∀b∈G,b<st.nx/\b∉F):Own st' v k e L G:=
 h.mono λb c=>d.keep b (a b c).1 (a b c).2
def Made (k e:Nat)(L:List CV)(st:St)(x:CV)(st':St):Prop:=∃F,Kp [] st st'/\Own st' x k e L F/\∀b∈F,st.nx<=b/\b<st'.nx
def Made.sl (h:Made k e L st x st')(X:List Nat)(d:∀b∈X,b<st.nx):Sl st' X x k L:=by
 obtain⟨F,i,f,c⟩:=h;exact f.sl λb a=>⟨λh=>by have:=d b h;have:=c b a;omega,(c b a).2⟩
def uo (n d cap:Nat):FE (some (I n)) d cap=if n<=cap then some n else none:=by
 have e:FE (some (I n)) d cap=bE (Nat.ble n cap) (some n) none:=rfl;rw[e,aO];simp only[aIr]
def qT (l h len cap:Nat):oi (some (I l)) (some (I h)) len cap=if l<=h/\h<=cap then some (l,h)else none:=by
 unfold oi;rw[uo]
 by_cases b:h<=cap<;>by_cases a:l<=h<;>simp[b,a,uo]
def xu (l len cap:Nat):oi (some (I l)) none len cap=if l<=len then some (l,len)else none:=by
 unfold oi;have e:FE none len cap=some len:=rfl;rw[e]
 by_cases a:l<=len<;>simp[a,uo]
def um (h len cap:Nat):oi none (some (I h)) len cap=if h<=cap then some (0,h)else none:=by
 unfold oi;have e:FE none 0 h=some 0:=rfl
 by_cases a:h<=cap<;>simp[a,uo,e]
def jN {b off len grow:Nat}{lo hi:Option CV}(j:oi lo hi len cap=some (l,h))(i:len<=cap)(f:grow=0\/grow=k):
 ∃d,aR k (.slice b off len cap grow) lo hi st=.ok (.slice b d (h-l) (cap-l) grow) st/\(d=off+l*k\/(l=cap/\d=off)):=by
 have e:aR k (.slice b off len cap grow) lo hi st=bE (Nat.ble len cap) (match oi lo hi len cap with
  |some (l,h)=>pT (Nat.sub h l) λn=>pT (Nat.sub cap l) λc=>
   bE (Bool.and (Nat.beq grow 0) (Nat.beq l cap)) (.ok (.slice b off n c grow) st) (pT (Nat.add off (Nat.mul l k)) λo=>bE (Bool.or (Nat.beq grow 0) (Nat.beq grow k)) (.ok (.slice b o n c grow) st) .bad)
  |none=>.bad) .bad:=rfl
 rw[e,j];simp only[dH,aO,aIr,aIf,aIK,aIs];rw[aHP i]
 by_cases a:grow=0/\l=cap
 .rw[aHP a];exact⟨off,rfl,.inr ⟨a.2,rfl⟩⟩
 .rw[aHM a,aHP f];exact⟨_,rfl,.inl rfl⟩
def Sl.part (j:Sl st X v k L)(m:0<k)(hn:L.length=n*k)(E:l<=h)(q:h<=n){lo hi:Option CV}(p:∀cap,n<=cap->oi lo hi n cap=some (l,h))(D:n=0->oi lo hi 0 0=some (0,0))(s:St):
 ∃v',aR k v lo hi s=.ok v' s/\Sl st X v' k ((L.drop (l*k)).take ((h-l)*k)):=by
 rcases j with⟨rfl,rfl⟩|⟨b,off,len,cap,grow,rfl,A,a,f⟩
 .have:n=0:=by
   rcases Nat.mul_eq_zero.1 (show n*k=0 from aem)with h|h<;>omega
  refine⟨.ae,?_,.inl ⟨rfl,wb⟩⟩;show(match oi lo hi 0 0 with|some _=>OR.ok .ae s|none=>.bad)=_;rw[D this]
 .have:len=n:=aIT m (by rw[<-A,hn]);subst this;obtain⟨i,C,d⟩:=jN (k:=k) (b:=b) (off:=off) (st:=s) (p cap a.1) a.1 a.2;have H:l*k+(h-l)*k=h*k:=by rw[<-aIV];congr 1;omega
  have o:=aIB k q;refine⟨_,C,.inr ⟨b,i,h-l,cap-l,grow,rfl,?_,⟨uM,a.2⟩,?_⟩⟩
  .rw[aHZ,aIl,hn];omega
  .by_cases h0:h-l=0
   .exact .inl h0
   .right;rcases f with f|⟨y,w,c,t,g,u,G,r⟩
    .omega
    .have B:i=off+l*k:=by rcases d with d|⟨d,_⟩;exact d;omega
     subst B;refine⟨y,w,c,t,g,u,uM,?_⟩;rw[<-r,aJF,aKz,aJc,aIC uM]
def Sl.lo (b:Sl st X v k L)(c:0<k)(a:L.length=n*k)(h:l<=n)(s:St):∃v',aR k v (some (I l)) none s=.ok v' s/\Sl st X v' k (L.drop (l*k)):=by
 obtain⟨v',f,d⟩:=b.part c a (l:=l) (h:=n) h (aHK _) (lo:=some (I l)) (hi:=none) (λcap i=>by rw[xu,aHP h]) (λj=>by rw[xu,aHP uM];congr 2;omega) s;refine⟨v',f,?_⟩
 rwa [aHS (by rw[aIl,a,Nat.sub_mul];exact aHK _)]at d
def Sl.hi (a:Sl st X v k L)(c:0<k)(b:L.length=n*k)(hh:h<=n)(s:St):∃v',aR k v none (some (I h)) s=.ok v' s/\Sl st X v' k (L.take (h*k)):=by
 obtain⟨v',d,h2⟩:=a.part c b (l:=0) (h:=h) (aJL _) hh (lo:=none) (hi:=some (I h)) (λcap f=>adP) (λi=>by rw[um,aHP uM];congr 2;omega) s;exact⟨v',d,abm⟩
def Sl.both (b:Sl st X v k L)(d:0<k)(c:L.length=n*k)(a:l<=h)(hh:h<=n)(s:St):∃v',aR k v (some (I l)) (some (I h)) s=.ok v' s/\Sl st X v' k ((L.drop (l*k)).take ((h-l)*k)):=
 b.part d c a hh (λcap f=>by rw[qT,aHP ⟨a,uM⟩]) (λi=>by rw[qT,aHP ⟨a,uM⟩];congr 2<;>omega) s
def Sl.str {l:List UInt8}(d:Sl st X v 1 (ai l)):dw .strOf v st=.ok (.str l) st:=by
 rcases d with⟨rfl,h⟩|⟨b,off,len,cap,grow,rfl,j,i,f⟩
 .have:l=[]:=by cases l with|nil=>rfl|cons a l=>cases h
  subst this;rfl
 .have c:Sl st X (.slice b off len cap grow) 1 (ai l):=.inr ⟨b,off,len,cap,grow,rfl,j,i,f⟩
  have e:dw .strOf (.slice b off len cap grow) st=(match dE 1 len (.slice b off len cap grow) st with
   |some t=>(match I3 t with|some l=>.ok (.str l) st|none=>.bad)
   |_=>.bad):=rfl
  rw[e,c.cells.2];show(match I3 (l.map bP)with|some l=>OR.ok (.str l) st|none=>.bad)=_;rw[DT]
def vS (d:z.length=k)(a:x.cK.length=k)(b:x.isAny=false)(st:St):bC e 1 (cH 1 z) [(0,k,x)] st=.ok (.slice st.nx 0 1 1 0) (St.new st (.cells x.cK e false)):=by
 have c:gC [(0,k,x)] (cH 1 z)=some x.cK:=by
  have:cH 1 z=z:=by simp[cH]
  rw[cE,aHP ⟨⟨a,b⟩,by rw[this];omega⟩,this];simp[bz,aIp (show z.length<=x.cK.length from uM)]
 unfold bC;rw[c];rfl
def KT (bytes:Nat){K:CV->St->Prop}(h:Own st v k e L F)(p:0<k)(hF:∀b∈F,b<st.nx)(o:z.length=k)(d:x.cK.length=k)(q:x.isAny=false)(m:bh x.cK=true)
 (a:(L.length+k)*(bytes+1)<=140737488355328) (r:∀v' st' F',Own st' v' k e (L++x.cK) F'->Kp F st st'->(∀b∈F',(b∈F\/st.nx<=b)/\b<st'.nx)->K v' st'):
 upon (bC e 1 (cH 1 z) [(0,k,x)] st) λi c=>upon (bJ e k bytes v (cT .slice k z i c) c) K:=by
 rw[vS o d q,aP];have j:Kp F st (St.new st (.cells x.cK e false)):=(Kp.refl F st).new _;have s:Own (St.new st (.cells x.cK e false)) v k e L F:=h.mono λb hb=>aX _ _ _ (hF b hb);have h2:=GZ (k:=k) (n:=1) (z:=z) (au st (.cells x.cK e false)) uM uM;obtain⟨v',st',F',y,w,u,f⟩:=s.append (n:=1) (bytes:=bytes) (T:=x.cK) p uM m (λb hb=>abr) (by rw[d];exact a);rw[h2,y,aP];refine r v' st' F' w (j.trans u afk) λb hb=>⟨(f b hb).1.imp id λh=>by simp at h;omega,(f b hb).2⟩
def lT {r:OR}{k k':CV->Prop}(h:us r k)(a:∀v,k v->k' v):us r k':=by
 cases r with
 |ok v s=>exact a v h
 |bad=>exact h
def kY {k:List CV->St->Prop}{body:(List CV->St->Prop)->Prop}(b:List CV->St->Prop)(d:∀k',(∀a s,b a s->k' a s)->body k')(c:∀a s,b a s->k a s):dX k body:=d k c
def Sl.SB (h:Sl st X v k L)(c:0<k)(n:Nat)(hn:L.length=n*k):dE k n v st=some L/\Hm v=some n:=by
 rcases h with⟨rfl,rfl⟩|⟨b,off,len,cap,grow,rfl,a,f,d⟩
 .have:n=0:=by
   rcases Nat.mul_eq_zero.1 (show n*k=0 from aem)with h|h<;>omega
  subst this;exact⟨rfl,rfl⟩
 .have:len=n:=aIT c (by rw[<-a,hn]);subst this;exact⟨(Sl.cells (.inr ⟨b,off,len,cap,grow,rfl,a,f,d⟩)).2,rfl⟩
def Qc {T:List CV}{b off:Nat}(h:Sl st X v 1 T)(a:st.m.g b=some (.cells L t g))(f:T.length<=n)(i:off+T.length<=L.length)(d:bh T=true):
 ∃st',gR false 1 (.slice b off n cap 0) v st=.ok (I T.length) st'/\st'.nx=st.nx/\st'.m.g b=some (.cells (bz L off T) t g)/\(∀q,q≠b->st'.m.g q=st.m.g q):=by
 obtain⟨o,j⟩:=h.SB uM T.length uM
 have e:gR false 1 (.slice b off n cap 0) v st=(match Hm v with
  |some m=>(match cellsOf false 1 (min m n) v st with
   |some t=>bE (Nat.beq (min m n) 0) (zn .i64 st 0)
    (bE (Bool.and (bh t) (Bool.or (Nat.beq 0 0) (Nat.ble 1 cap)))
     (match st.m.g b with
     |some (.cells s ty g)=>Option.rec (Option.rec .bad (λs'=>zn .i64 ⟨st.m.put b (some (.cells s' ty g)),st.nx⟩ (min m n)) (Cy s off t (off+cap*0))) (λs'=>zn .i64 ⟨st.m.put b (some (.cells s' ty g)),st.nx⟩ (min m n)) (dZ s off t)
     |_=>.bad) .bad)
   |none=>.bad)
  |none=>.bad):=by
  unfold gR;cases Hm v<;>rfl
 rw[e,j];dsimp only;rw[aIC f];have u:cellsOf false 1 T.length v st=some T:=o;rw[u];dsimp only;rw[d,a]
 by_cases p:T.length=0
 .have:=aIh.1 p;subst this;refine⟨st,rfl,rfl,?_,λq _=>rfl⟩;rw[a];simp[bz]
 .have w:Nat.beq T.length 0=false:=by cases h:Nat.beq T.length 0 with|false=>rfl|true=>rw[aIs]at h;omega
  rw[w];have r:dZ L off T=some (bz L off T):=by unfold dZ;rw[aHP i];rfl
  dsimp only;rw[r];refine⟨St.set st b (.cells (bz L off T) t g),rfl,rfl,an _ _ _,λq c=>ak _ _ _ _ c⟩
def rp {b:Nat}(d:l<=h)(a:h<=n)(f:l<n)(st:St):bT n 1 (.ptr b 0) (some (I l)) (some (I h)) st=.ok (.slice b l (h-l) (n-l) 0) st:=by
 have e:bT n 1 (.ptr b 0) (some (I l)) (some (I h)) st=(match oi (some (I l)) (some (I h)) n n with
  |some (l,h)=>pT (Nat.sub h l) λk=>pT (Nat.sub n l) λc=>bE (Nat.beq n l) (.ok (.slice b 0 k c 0) st) (pT (Nat.add 0 (Nat.mul l 1)) λo=>.ok (.slice b o k c 0) st)
  |none=>.bad):=rfl
 rw[e,qT,aHP ⟨d,a⟩];simp only[dH,aO,aIs];rw[aHM uM];have:Nat.add 0 (Nat.mul l 1)=l:=wb
 rw[this];rfl
def kh {b t:Nat}(h:st.m.g b=some (.cells z t g)):jy b z t st=.ok (.ptr b 0) st:=by
 unfold jy;rw[h];simp
def gL {b off:Nat}{l:List CV}(h:st.m.g b=some (.cells l t g))(a:off+n<=l.length):aJ n (.ptr b off) st=.ok (.agg ((l.drop off).take n)) st:=by
 have e:gY l off n=some ((l.drop off).take n):=by unfold gY;rw[aHP a]
 unfold aJ;simp only[h,e]
def aM {b:Nat}{l:List CV}(h:st.m.g b=some (.cells l t g))(a:l.length=n):aJ n (.ptr b 0) st=.ok (.agg l) st:=by
 rw[gL h uM,aIn,aHS uM]
end
def uv (n:Nat):List UInt8:=if 127<n then UInt8.ofNat (n%128+128)::uv (n/128)else [UInt8.ofNat n]
termination_by n
decreasing_by omega
def jb {n:Nat}(h:127<n):uv n=UInt8.ofNat (n%128+128)::uv (n/128):=by rw[uv,aHP h]
def jL {n:Nat}(h:n<=127):uv n=[UInt8.ofNat n]:=by rw[uv,aHM uM]
def kF (n:Nat)(h:n<=2147483647):1<=(uv n).length/\(uv n).length<=5:=by
 have a:∀k n,n<128^(k+1)->1<=(uv n).length/\(uv n).length<=k+1:=by
  intro k
  induction k with
  |zero=>intro n h;rw[jL uM];simp
  |succ k b=>
   intro n h
   by_cases c:127<n
   .rw[jb c];have:=b (n/128) (Nat.div_lt_of_lt_mul (by rw[aKt,aJO]at h;exact h));simp;omega
   .rw[jL uM];simp
 have:=a 4 n uM;omega
