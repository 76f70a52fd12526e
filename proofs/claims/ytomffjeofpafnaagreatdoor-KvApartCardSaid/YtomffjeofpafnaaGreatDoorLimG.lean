import Derived.Test.YtomffjeofpafnaaGreatDoorLimF
namespace Lim
open Go
noncomputable section
set_option linter.defProp false
section
variable {st st':St}{X:List Nat}{v:CV}{k:Nat}{L:List CV}{e:Nat}{F:List Nat}
abbrev I (n:Int):CV:=.int .i64 n
def aj (l:List UInt8):List CV:=l.map bQ
@[simp] def bJ (l:List UInt8):(aj l).length=l.length:=abK
def Sl (st:St)(X:List Nat)(v:CV)(k:Nat)(L:List CV):Prop:=
 (v=.ae/\L=[])\/
 ∃b off len cap grow,v=.slice b off len cap grow/\L.length=len*k/\(len<=cap/\(grow=0\/grow=k))/\
  (len=0\/(b∉X/\b<st.nx/\∃l t g,st.m.g b=some (.cells l t g)/\off+len*k<=l.length/\(l.drop off).take (len*k)=L))
def Sl.mono (h:Sl st X v k L)(hk:Kp X st st'):Sl st' X v k L:=by
 rcases h with h|⟨b,off,len,cap,grow,h1,h2,h3,h4⟩
 .exact .inl h
 .refine .inr ⟨b,off,len,cap,grow,h1,h2,h3,?_⟩;rcases h4 with h4|⟨h5,h6,l,t,g,h7,h8⟩
  .exact .inl h4
  .exact .inr ⟨h5,aFg h6 hk.nx,l,t,g,by rw[hk.keep b h6 h5];exact h7,h8⟩
def Sl.dW {Y:List Nat}(h:Sl st X v k L)(hy:∀q∈Y,q∈X\/st.nx<=q):Sl st Y v k L:=by
 rcases h with h|⟨b,off,len,cap,grow,h1,h2,h3,h4⟩
 .exact .inl h
 .refine .inr ⟨b,off,len,cap,grow,h1,h2,h3,?_⟩;rcases h4 with h4|⟨h5,h6,h7⟩
  .exact .inl h4
  .exact .inr ⟨λhq=>by rcases hy b hq with h|h;exact h5 h;omega,h6,h7⟩
def Sl.len (h:Sl st X v k L)(n:Nat)(hn:L.length=n*k)(hk:0<k)(s:St):bo .slice v s=.ok (I n) s:=by
 rcases h with⟨rfl,rfl⟩|⟨b,off,len,cap,grow,rfl,h2,_⟩
 .have:n=0:=by
   rcases Nat.mul_eq_zero.1 (show n*k=0 from adx)with h|h<;>omega
  subst this;rfl
 .have:len=n:=aFU hk (by rw[<-h2,hn]);subst this;rfl
def lZ (k n b off len cap grow:Nat)(st:St):dN k n (.slice b off len cap grow) st=if n=0 then some []else if grow=0\/n<=len then (match st.m.g b with|some (.cells s _ _)=>gV s off (n*k)|some (.ro s _)=>gV s off (n*k)|_=>none)else none:=by
 have e:dN k n (.slice b off len cap grow) st=bH (Nat.beq n 0) (some []) (bH (Bool.or (Nat.beq grow 0) (Nat.ble n len)) (match st.m.g b with|some (.cells s _ _)=>gV s off (n*k)|some (.ro s _)=>gV s off (n*k)|_=>none) none):=rfl;rw[e];simp only[aP,aFw,aFO,aFs]
def Sl.cells {b off len cap grow:Nat}(h:Sl st X (.slice b off len cap grow) k L):L.length=len*k/\dN k len (.slice b off len cap grow) st=some L:=by
 rcases h with⟨h,_⟩|⟨b',dE,amM,fy,avg,h1,h2,h3,h4⟩
 .cases h
 .cases h1;refine⟨h2,?_⟩;rw[lZ]
  by_cases h0:len=0
  .subst h0;have:L=[]:=by apply aFi.1;simpa using h2
   subst this;rfl
  .rcases h4 with h4|⟨_,_,l,t,g,h7,h8,h9⟩
   .exact absurd h4 h0
   .rw[aET h0,aEW (.inr (aEQ _)),h7];unfold gV;dsimp only;rw[aEW h8,h9]
def Sl.src (h:Sl st X v k L)(z:List CV):∃n,L.length=n*k/\de .slice k z v st=some (n,L):=by
 have h':=h;rcases h with⟨rfl,rfl⟩|⟨b,off,len,cap,grow,rfl,h2,h3,h4⟩
 .exact⟨0,uG,rfl⟩
 .refine⟨len,h2,?_⟩;have e:de .slice k z (.slice b off len cap grow) st=(match dN k len (.slice b off len cap grow) st with|some s=>some (len,s)|none=>none):=rfl;rw[e,h'.cells.2]
def Sl.idx (h:Sl st X v 1 L){i:Nat}(hi:i<L.length)(k:CV->Prop)(hk:k L[i]):Lim.idx 1 v (I i) st k:=by
 rcases h with⟨rfl,rfl⟩|⟨b,off,len,cap,grow,rfl,h2,h3,h4⟩
 .simp at hi
 .have hl:L.length=len:=by simpa using h2
  rcases h4 with h4|⟨_,_,l,t,g,h7,h8,h9⟩
  .omega
  .have hc:(Bool.and (Nat.ble (Nat.succ i) len) (Bool.or (Nat.beq grow 0) (Nat.ble len cap)))=true:=by
    simp only[aFl,aFO,aFs,aFw];exact⟨qE,.inr h3.1⟩
   have e:cc 1 (.slice b off len cap grow) (I i) st=.ok (.ptr b (off+i*1)) st:=by
    show bH _ _ _=_;rw[aP,aEW hc];rfl
   unfold Lim.idx;rw[e];simp only[af,aB,h7,aq,aGB]
   have:l[off+i]?=some L[i]:=by
    have h9':=h9.symm;rw[aES qE]
    congr 1
    subst h9';simp
   rw[this];exact hk
def Own (st:St)(v:CV)(k e:Nat)(L:List CV)(F:List Nat):Prop:=
 (v=.ae/\L=[]/\F=[])\/
 (∃b l t g,v=.slice b 0 0 0 0/\L=[]/\F=[b]/\st.m.g b=some (.cells l t g))\/
 (∃b n,v=.slice b 0 n n k/\0<n/\L.length=n*k/\F=[b]/\st.m.g b=some (.cells L e true))
def Own.mono (h:Own st v k e L F)(hk:∀b∈F,st'.m.g b=st.m.g b):Own st' v k e L F:=by
 rcases h with h|⟨b,l,t,g,h1,h2,h3,h4⟩|⟨b,n,h1,h2,h3,h4,h5⟩
 .exact .inl h
 .exact .inr (.inl ⟨b,l,t,g,h1,h2,h3,by rw[hk b (by simp[h3])];exact h4⟩)
 .exact .inr (.inr ⟨b,n,h1,h2,h3,h4,by rw[hk b (by simp[h4])];exact h5⟩)
def Own.sl (h:Own st v k e L F)(hx:∀b∈F,b∉X/\b<st.nx):Sl st X v k L:=by
 rcases h with⟨h1,h2,_⟩|⟨b,l,t,g,h1,h2,h3,h4⟩|⟨b,n,h1,h2,h3,h4,h5⟩
 .exact .inl ⟨h1,h2⟩
 .exact .inr ⟨b,0,0,0,0,h1,by simp[h2],⟨aEQ _,.inl rfl⟩,.inl rfl⟩
 .exact .inr ⟨b,0,n,n,k,h1,h3,⟨aEQ _,.inr rfl⟩,.inr ⟨(hx b (by simp[h4])).1,(hx b (by simp[h4])).2,L,e,true,h5,qE,O4⟩⟩
def Own.cE (h:Own st v k e L F):cE v=true/\v.cN=[v]:=by
 rcases h with⟨rfl,_⟩|⟨b,l,t,g,rfl,_⟩|⟨b,n,rfl,_⟩<;>exact⟨rfl,rfl⟩
def Own.append {n bytes:Nat}{T:List CV}(h:Own st v k e L F)(hk:0<k)(hT:T.length=n*k)(kz:bj T=true)(hF:∀b∈F,b<st.nx)
 (hsz:(L.length+T.length)*(bytes+1)<=140737488355328):∃v' st' F',bT e k bytes v (some (n,T)) st=.ok v' st'/\Own st' v' k e (L++T) F'/\Kp F st st'/\(∀b∈F',(b∈F\/b=st.nx)/\b<st'.nx):=by
 have hm:∀m,m*k<=L.length+T.length->m*bytes<=140737488355328/\m<=140737488355328:=by
  intro m hm;have h1:=aGb (by simpa using Nat.mul_le_mul_left m hk) hm;have h2:m*bytes<=(L.length+T.length)*(bytes+1):=aHC h1 qE;have h3:=aGb h1 (by simpa using Nat.mul_le_mul_left (L.length+T.length) (show 1<=bytes+1 from qE));exact⟨qE,qE⟩
 by_cases h0:n=0
 .subst h0;have:T=[]:=by apply aFi.1;simpa using hT
  subst this;rw[aFN];refine⟨v,st,F,?_,h,Kp.refl _ _,λb hb=>⟨.inl hb,hF b hb⟩⟩;rcases h with⟨rfl,_⟩|⟨b,l,t,g,rfl,_⟩|⟨b,m,rfl,_⟩
  .rfl
  .rfl
  .show bH (Nat.beq 0 0) (bH (Nat.ble m m) _ _) _=_;rw[show Nat.ble m m=true by rw[aFs];exact aEQ _];rfl
 .have Nw:Nat.beq n 0=false:=by cases h:Nat.beq n 0 with|false=>rfl|true=>rw[aFw]at h;exact absurd h h0
  have pP:Nat.ble 1 k=true:=by rw[aFs];exact hk
  rcases h with⟨rfl,rfl,rfl⟩|⟨b,l,t,g,rfl,rfl,rfl,h4⟩|⟨b,m,rfl,h2,h3,rfl,h5⟩
  .obtain⟨q1,q2⟩:=hm n (by simp[hT]);refine⟨.slice st.nx 0 n n k,⟨st.m.put st.nx (some (.cells T e true)),st.nx+1⟩,[st.nx],?_,?_,(Kp.refl [] st).new _,λb hb=>⟨.inr acv,ada⟩⟩
   .show bH _ _ _=_;rw[Nw,pP,show Nat.ble (Nat.mul n bytes) 140737488355328=true by rw[aFs];exact q1,show Nat.ble n 140737488355328=true by rw[aFs];exact q2];rfl
   .exact .inr (.inr ⟨st.nx,n,rfl,qE,acx,rfl,PT.dn _ _ _⟩)
  .obtain⟨q1,q2⟩:=hm n (by simp[hT]);refine⟨.slice st.nx 0 n n k,⟨st.m.put st.nx (some (.cells T e true)),st.nx+1⟩,[st.nx],?_,?_,(Kp.refl [b] st).new _,λb hb=>⟨.inr acv,ada⟩⟩
   .unfold bT;simp only[Nw,aP,aEM,aFa,dI];have e1:Nat.add 0 n=n:=aER n;rw[e1,aET abG,aEW acY,h4];simp[gV]
   .exact .inr (.inr ⟨st.nx,n,rfl,qE,acx,rfl,PT.dn _ _ _⟩)
  .have hlt:=hF b uG;obtain⟨q1,q2⟩:=hm (m+n) (by rw[aFW,<-h3,<-hT];exact aEQ _);refine⟨.slice st.nx 0 (m+n) (m+n) k,⟨(st.m.put b none).put st.nx (some (.cells (L++T) e true)),st.nx+1⟩,[st.nx],?_,?_,?_,λb hb=>⟨.inr acv,ada⟩⟩
   .unfold bT;simp only[Nw,aP,aEM,aFa,dI];rw[show Nat.add m n=m+n from rfl,aET abG,aEW acY,h5];have e2:gV L 0 (m*k)=some L:=by unfold gV;rw[aEW qE,aFr,aEX qE]
    dsimp only;rw[e2];dsimp only;rw[aET (by rw[aFw];omega),aEW (by simp only[aFl,aFw,aFs];exact⟨aer,aer,aer,kz,h2⟩)]
   .exact .inr (.inr ⟨st.nx,m+n,rfl,qE,by rw[aEU,h3,hT,aFW],rfl,PT.dn _ _ _⟩)
   .refine⟨uG,λq h1 h2=>?_,λhf q hq=>?_⟩
    .show((st.m.put b none).put st.nx _).g q=_;rw[PT.dv _ _ _ _ qE,PT.dv _ _ _ _ TV]
    .show((st.m.put b none).put st.nx _).g q=_;simp only at hq;rw[PT.dv _ _ _ _ qE,PT.dv _ _ _ _ qE];exact hf q qE
end
section
variable {i:Int}{j:Nat}{u:CV}{es:List eS}{st st':St}{e:eS}
abbrev MZ:=List (Int×CV)
def lE:MZ->Int->Option (Nat×CV)
 |[],_=>none
 |p::r,i=>if i=p.1 then some (0,p.2)else (lE r i).map λq=>(q.1+1,q.2)
def jy:MZ->Int->Option CV
 |[],_=>none
 |p::r,i=>if i=p.1 then some p.2 else jy r i
def mT:MZ->Int->CV->MZ
 |[],i,x=>[(i,x)]
 |p::r,i,x=>if i=p.1 then (i,x)::r else p::mT r i x
def qY:MZ->Int->MZ
 |[],_=>[]
 |p::r,i=>if i=p.1 then r else p::qY r i
def CE (m:MZ)(i:Int):jy m i=(lE m i).map (·.2):=by
 induction m with
 |nil=>rfl
 |cons p r ih=>
  simp only[jy,lE]
  split
  .rfl
  .rw[ih];cases lE r i<;>rfl
def Gz (m:MZ)(i j:Int)(x:CV):jy (mT m i x) j=if j=i then some x else jy m j:=by
 induction m with
 |nil=>simp[mT,jy]
 |cons p r ih=>
  simp only[mT]
  split
  .rename_i h;subst h;simp only[jy];split<;>simp_all
  .rename_i h;simp only[jy,ih]
   split
   .rename_i h2;subst h2;rw[aET (λe=>h e.symm)]
   .rfl
def vp {m:MZ}(h:lE m i=some (j,u)):m[j]?=some (i,u)/\∀x,mT m i x=m.set j (i,x)/\qY m i=m.eraseIdx j:=by
 induction m generalizing j with
 |nil=>cases h
 |cons p r ih=>
  simp only[lE]at h
  split at h
  .rename_i e;cases h;subst e;exact⟨rfl,λx=>⟨by simp[mT],by simp[qY]⟩⟩
  .rename_i e;cases hf:lE r i with
   |none=>rw[hf]at h;cases h
   |some q=>
    rw[hf]at h;obtain⟨q1,q2⟩:=q;cases h;obtain⟨h1,h2⟩:=ih hf;exact⟨h1,λx=>⟨by simp[mT,e,(h2 x).1],by simp[qY,e,(h2 x).2]⟩⟩
def qX {m:MZ}(h:lE m i=none):i∉m.map (·.1)/\∀x,mT m i x=m++[(i,x)]/\qY m i=m:=by
 induction m with
 |nil=>exact⟨uG,λx=>⟨rfl,rfl⟩⟩
 |cons p r ih=>
  simp only[lE]at h
  split at h
  .cases h
  .rename_i e;obtain⟨h1,h2⟩:=ih (by cases hf:lE r i with|none=>rfl|some q=>rw[hf]at h;cases h);exact⟨by simp only[aFv,aEP,aGk];exact⟨e,h1⟩,λx=>⟨by simp[mT,e,(h2 x).1],by simp[qY,e,(h2 x).2]⟩⟩
def mem_keys {m:MZ}:i∈m.map (·.1)↔(jy m i).isSome=true:=by
 induction m with
 |nil=>simp[jy]
 |cons p r ih=>
  simp only[aFv,aEP,jy]
  split
  .rename_i e;simp[e]
  .rename_i e;rw[<-ih];simp[e]
def oi {m:MZ}(h:(m.map (·.1)).Nodup)(i:Int)(x:CV):((mT m i x).map (·.1)).Nodup:=by
 induction m with
 |nil=>simp[mT]
 |cons p r ih=>
  simp only[mT];simp only[aFv,aFd]at h
  split
  .rename_i e;subst e;simpa using h
  .rename_i e;simp only[aFv,aFd];refine⟨λh2=>?_,ih h.2⟩;rw[mem_keys,Gz]at h2
   split at h2
   .rename_i e2;exact e e2.symm
   .exact h.1 (mem_keys.2 h2)
def Qw {m:MZ}(h:(m.map (·.1)).Nodup)(i j:Int):jy (qY m i) j=if j=i then none else jy m j:=by
 induction m with
 |nil=>simp[qY,jy]
 |cons p r ih=>
  simp only[aFv,aFd]at h;simp only[qY]
  split
  .rename_i e;subst e
   split
   .rename_i e2;subst e2;cases hg:jy r p.1 with
    |none=>rfl
    |some u=>exact absurd (mem_keys.2 (by rw[hg];rfl)) h.1
   .rename_i e2;simp[jy,e2]
  .rename_i e;simp only[jy,ih h.2]
   split
   .rename_i e2;subst e2;rw[aET (λe3=>e e3.symm)]
   .rfl
def JF {m:MZ}(h:(m.map (·.1)).Nodup)(i:Int):((qY m i).map (·.1)).Nodup:=by
 induction m with
 |nil=>exact h
 |cons p r ih=>
  have h':=h;simp only[aFv,aFd]at h;simp only[qY]
  split
  .exact h.2
  .rename_i e;simp only[aFv,aFd];refine⟨λh2=>?_,ih h.2⟩;rw[mem_keys,Qw h.2]at h2
   split at h2
   .cases h2
   .exact h.1 (mem_keys.2 h2)
def cY (es:List eS)(m:MZ):Prop:=es.map (λe=>(e.1,e.2.1))=m.map (λp=>(I p.1,p.2))
def tX {m:MZ}(h:cY es m)(i:Int)(j:Nat):jP .int (I i) es j=some ((lE m i).map λq=>(j+q.1,q.2)):=by
 induction es generalizing m j with
 |nil=>cases m with
  |nil=>rfl
  |cons p r=>simp[cY]at h
 |cons e es ih=>
  cases m with
  |nil=>simp[cY]at h
  |cons p r=>
   simp only[cY,aFv,aGn,aGA]at h;obtain⟨⟨h1,h2⟩,h3⟩:=h;have e0:jP .int (I i) (e::es) j=Option.rec none (λb=>bH b (some (some (j,e.2.1))) (jP .int (I i) es (Nat.succ j))) (lO .int (I i) e.1):=rfl;rw[e0,h1];have e1:lO .int (I i) (I p.1)=some (decide (i=p.1)):=by simp[lO]
   rw[e1];simp only[aP,aGa,lE,ih h3 (j+1),Nat.succ_eq_add_one]
   split
   .simp[h2]
   .cases lE r i with
    |none=>rfl
    |some q=>simp only[aGc];congr 3;omega
def tK (es:List eS)(i:Nat)(e:eS):yl es i e=es.set i e:=by
 induction es generalizing i with
 |nil=>rfl
 |cons x r ih=>cases i with
  |zero=>rfl
  |succ i=>show x::yl r i e=_;rw[ih];rfl
def xR (es:List eS)(i:Nat):Da es i=es[i]?:=by
 induction es generalizing i with
 |nil=>rfl
 |cons x r ih=>cases i with
  |zero=>rfl
  |succ i=>show Da r i=_;rw[ih];rfl
def HD (es:List eS)(i:Nat):HE es i=es.eraseIdx i:=by
 induction es generalizing i with
 |nil=>rfl
 |cons x r ih=>cases i with
  |zero=>rfl
  |succ i=>show x::HE r i=_;rw[ih];rfl
def qi (i:Int):rL .int (I i)=true:=by simp[rL,Y5,lO]
def dy (st:St)(b:Nat)(m:MZ):Prop:=∃es c,st.m.g b=some (.map es c)/\cY es m/\(m.map (·.1)).Nodup/\(es.map (·.2.2)).Nodup/\∀e∈es,e.2.2<c
def IsMap (st:St)(b:Nat)(m:MZ):Prop:=dy st b m\/∃es,st.m.g b=some (.lmap es)/\cY es m/\(m.map (·.1)).Nodup
def dy.nd {b:Nat}{m:MZ}(h:dy st b m):(m.map (·.1)).Nodup:=by obtain⟨es,c,_,_,h,_⟩:=h;exact h
def IsMap.nd {b:Nat}{m:MZ}(h:IsMap st b m):(m.map (·.1)).Nodup:=by rcases h with h|⟨es,_,_,h⟩;exact h.nd;exact h
def dy.mono {b:Nat}{m:MZ}(h:dy st b m)(hk:st'.m.g b=st.m.g b):dy st' b m:=by
 obtain⟨es,c,h1,h2⟩:=h;exact⟨es,c,by rw[hk];exact h1,h2⟩
def IsMap.mono {b:Nat}{m:MZ}(h:IsMap st b m)(hk:st'.m.g b=st.m.g b):IsMap st' b m:=by
 rcases h with h|⟨es,h1,h2⟩
 .exact .inl (h.mono hk)
 .exact .inr ⟨es,by rw[hk];exact h1,h2⟩
def dy.new (st:St):dy (St.new st (.map [] 0)) st.nx []:=⟨[],0,uG,rfl,uG,uG,uG⟩
def GG {m:MZ}(h:cY es m)(i:Int):wF i es=jy m i:=by
 induction es generalizing m with
 |nil=>cases m with
  |nil=>rfl
  |cons p r=>simp[cY]at h
 |cons e es ih=>
  cases m with
  |nil=>simp[cY]at h
  |cons p r=>
   simp only[cY,aFv,aGn,aGA]at h;obtain⟨⟨h1,h2⟩,h3⟩:=h;have e0:wF i (e::es)=bH (Ev i e.1) (some e.2.1) (wF i es):=rfl;rw[e0,h1,ih h3,h2];simp only[Ev,aP,jy,aGa]
def IsMap.lookup {b:Nat}{m:MZ}(h:IsMap st b m)(z:CV)(ok:Bool)(i:Int)(s:St)(hs:s.m.g b=st.m.g b):gN .int z ok (.map b) (I i) s=
 if ok=true then .ok (.tuple [(jy m i).getD z,.bool (jy m i).isSome]) s else .ok ((jy m i).getD z) s:=by
 unfold gN;rw[qi,aP,aEW rfl];rcases h with⟨es,c,h1,h2,_⟩|⟨es,h1,h2,_⟩
 .have e1:oo (.map b) s=none:=by simp[oo,hs,h1]
  have e2:vJ (.map b) s=some es:=by simp[vJ,hs,h1]
  rw[e1,e2];simp only[tX h2,CE];cases lE m i with
  |none=>simp
  |some q=>simp
 .have e1:oo (.map b) s=some es:=by simp[oo,hs,h1]
  rw[e1];simp only[wi,JJ,GG h2];cases jy m i with
  |none=>simp
  |some u=>simp
def cY.len {m:MZ}(h:cY es m):es.length=m.length:=by simpa using congrArg List.length h
def IsMap.len {b:Nat}{m:MZ}(h:IsMap st b m):bo .map (.map b) st=.ok (I m.length) st:=by
 rcases h with⟨es,c,h1,h2,_⟩|⟨es,h1,h2,_⟩
 .simp[bo,h1,h2.len]
 .simp[bo,h1,h2.len]
def cY.set {m:MZ}(h:cY es m)(j:Nat)(i:Int)(x:CV)(bn:Nat):cY (es.set j (I i,x,bn)) (m.set j (i,x)):=by
 unfold cY at*;rw[List.map_set,List.map_set,h]
def cY.snoc {m:MZ}(h:cY es m)(i:Int)(x:CV)(bn:Nat):cY (es++[(I i,x,bn)]) (m++[(i,x)]):=by
 unfold cY at*;simp[h]
def cY.at {m:MZ}(h:cY es m)(hj:m[j]?=some (i,u)):∃bn,es[j]?=some (I i,u,bn):=by
 have h1:(es.map λe=>(e.1,e.2.1))[j]?=some (I i,u):=by rw[h,aFA,hj];rfl
 rw[aFA]at h1;cases he:es[j]? with
 |none=>rw[he]at h1;cases h1
 |some e=>
  rw[he]at h1;simp only[aGc,aGp,aGA]at h1;exact⟨e.2.2,by rw[<-h1.1,<-h1.2]⟩
def zJ {e':eS}(h:es[j]?=some e)(hb:e'.2.2=e.2.2):(es.set j e').map (·.2.2)=es.map (·.2.2):=by
 rw[List.map_set];apply aHi;intro k;rw[List.getElem?_set]
 split
 .rename_i e1;subst e1;obtain⟨h1,h2⟩:=aFb.1 h;simp[hb,h1,h2]
 .rfl
def IsMap.update {b:Nat}{m:MZ}(h:IsMap st b m)(i:Int)(x:CV):∃blk,dO .int (.map b) (I i) x st=.ok .undef (St.set st b blk)/\IsMap (St.set st b blk) b (mT m i x)/\(dy st b m->dy (St.set st b blk) b (mT m i x)):=by
 rcases h with⟨es,c,h1,h2,h3,h4,h5⟩|⟨es,h1,h2,h3⟩
 .have key:∃blk,dO .int (.map b) (I i) x st=.ok .undef (St.set st b blk)/\dy (St.set st b blk) b (mT m i x):=by
   unfold dO;rw[qi,aP,aEW rfl];simp only[h1,tX h2];cases hf:lE m i with
   |none=>
    simp only[Option.map_none,dI];refine⟨.map (es++[(I i,x,c)]) (c+1),rfl,es++[(I i,x,c)],c+1,uG,?_,oi h3 i x,?_,?_⟩
    .rw[((qX hf).2 x).1];exact h2.snoc i x c
    .rw[aFR,aFM];refine⟨h4,uG,λa ha b hb=>?_⟩;simp only[aFv,List.map_nil,aGd]at hb;obtain⟨e,he,rfl⟩:=aFq.1 ha;have:=h5 e he;omega
    .intro e he;rcases aEY.1 he with he|he
     .have:=h5 e he;omega
     .simp only[aGd]at he;subst he;exact Nat.lt_succ_self c
   |some q=>
    obtain⟨j,u⟩:=q;obtain⟨m1,m2⟩:=vp hf;obtain⟨bn,he⟩:=h2.at m1;simp only[aGc,aER,xR,he,tK];rw[show uJ (I i) (I i)=true by simp[uJ,zM],aP,aEW rfl];refine⟨.map (es.set j (I i,x,bn)) c,rfl,es.set j (I i,x,bn),c,uG,?_,oi h3 i x,?_,?_⟩
    .rw[(m2 x).1];exact h2.set j i x bn
    .rw[zJ (e':=(I i,x,bn)) he rfl];exact h4
    .intro e hm;rcases aGL hm with hm|rfl
     .exact h5 e hm
     .exact h5 (I i,u,bn) (aFJ he)
  obtain⟨blk,k1,k2⟩:=key;exact⟨blk,k1,.inl k2,λ_=>k2⟩
 .have qy:¬dy st b m:=λ⟨es',c,h,_⟩=>by rw[h1]at h;cases h
  unfold dO;rw[qi,aP,aEW rfl];simp only[h1,Ae,JJ,GG h2]
  have xL:∀(es:List eS) (m:MZ),cY es m->jy m i=none->rb i x es=es:=by
   intro es
   induction es with
   |nil=>intro m _ _;rfl
   |cons e es ih=>
    intro m h hs;cases m with
    |nil=>simp[cY]at h
    |cons p r=>
     simp only[cY,aFv,aGn,aGA]at h;obtain⟨⟨g1,g2⟩,g3⟩:=h;have e0:rb i x (e::es)=bH (Ev i e.1) ((e.1,x,e.2.2)::rb i x es) (e::rb i x es):=rfl;simp only[jy]at hs
     split at hs
     .cases hs
     .rename_i ij;have hA:Ev i e.1=false:=by rw[g1];simp[Ev,ij]
      rw[e0,hA,ih r g3 hs];rfl
  have ano:∀(es:List eS) (m:MZ),cY es m->(m.map (·.1)).Nodup->(jy m i).isSome=true->cY (rb i x es) (mT m i x):=by
   intro es
   induction es with
   |nil=>intro m h hd hs;cases m with
    |nil=>cases hs
    |cons p r=>simp[cY]at h
   |cons e es ih=>
    intro m h hd hs;cases m with
    |nil=>cases hs
    |cons p r=>
     simp only[cY,aFv,aGn,aGA]at h;obtain⟨⟨g1,g2⟩,g3⟩:=h;simp only[aFv,aFd]at hd;have e0:rb i x (e::es)=bH (Ev i e.1) ((e.1,x,e.2.2)::rb i x es) (e::rb i x es):=rfl
     by_cases hi:i=p.1
     .have hA:Ev i e.1=true:=by rw[g1];simp[Ev,hi]
      have hn:jy r i=none:=by
       cases hg:jy r i with
       |none=>rfl
       |some u=>exact absurd (mem_keys.2 (by rw[<-hi,hg];rfl)) hd.1
      rw[e0,hA,xL es r g3 hn];simp only[aP,aFm,mT,aEW hi,cY,aFv,aGn,aGA];exact⟨⟨by rw[g1,hi],aer⟩,g3⟩
     .have hA:Ev i e.1=false:=by rw[g1];simp[Ev,hi]
      have vG:(jy r i).isSome=true:=by simpa[jy,hi]using hs
      rw[e0,hA];simp only[aP,aEM,aFa,mT,aET hi,cY,aFv,aGn,aGA];exact⟨⟨g1,g2⟩,ih r g3 hd.2 vG⟩
  cases hg:jy m i with
  |none=>
   have hf:lE m i=none:=by
    rw[CE]at hg;cases hf:lE m i with
    |none=>rfl
    |some q=>rw[hf]at hg;cases hg
   refine⟨.lmap (es++[(I i,x,0)]),rfl,.inr ⟨es++[(I i,x,0)],uG,?_,oi h3 i x⟩,λh=>absurd h qy⟩;rw[((qX hf).2 x).1];exact h2.snoc i x 0
  |some u=>exact⟨.lmap (rb i x es),rfl,.inr ⟨rb i x es,uG,ano es m h2 h3 (by rw[hg];rfl),oi h3 i x⟩,λh=>absurd h qy⟩
def NZ (h:es[j]?=some e)(hn:(es.map (·.2.2)).Nodup):∀k,tn e.2.2 es k=some (k+j,e):=by
 induction es generalizing j with
 |nil=>simp at h
 |cons x r ih=>
  intro k;have e0:tn e.2.2 (x::r) k=bH (Nat.beq x.2.2 e.2.2) (some (k,x)) (tn e.2.2 r (Nat.succ k)):=rfl;rw[e0];simp only[aP,aFw];simp only[aFv,aFd]at hn;cases j with
  |zero=>simp at h;subst h;simp
  |succ j=>
   have h':r[j]?=some e:=OY
   rw[aET (λe1=>hn.1 (aFq.2 ⟨e,aFJ h',e1.symm⟩)),ih h' hn.2]
   congr 2
   show k+1+j=k+(j+1);omega
def dy.entry {b:Nat}{m:MZ}(h:dy st b m)(z:CV)(i:Int):∃v bn blk,fN .int z (.map b) (I i) st=.ok (.tuple [v,I bn]) (St.set st b blk)/\
 ∀y s,s.m.g b=some blk->∃ml,dX (.map b) (I bn) y s=.ok .undef (St.set s b ml)/\dy (St.set s b ml) b (mT m i y):=by
 obtain⟨es,c,h1,h2,h3,h4,h5⟩:=h;unfold fN;rw[qi,aP,aEW rfl];simp only[h1,tX h2]
 have fin:∀(es2:List eS) (c2 j bn:Nat) (u:CV),es2[j]?=some (I i,u,bn)->(es2.map (·.2.2)).Nodup->(∀e∈es2,e.2.2<c2)->(∀y,cY (es2.set j (I i,y,bn)) (mT m i y))->
  ∀y s,s.m.g b=some (.map es2 c2)->∃ml,dX (.map b) (I bn) y s=.ok .undef (St.set s b ml)/\dy (St.set s b ml) b (mT m i y):=by
  intro es2 c2 j bn u g1 g2 g3 g4 y s hs;refine⟨.map (es2.set j (I i,y,bn)) c2,?_,es2.set j (I i,y,bn),c2,uG,g4 y,oi h3 i y,?_,?_⟩
  .have e0:dX (.map b) (I bn) y s=(match s.m.g b with
    |some (.map es clock)=>(match tn bn es 0 with
     |some (i,(k,_,bn))=>.ok .undef ⟨s.m.put b (some (.map (yl es i (k,y,bn)) clock)),s.nx⟩
     |none=>.bad)
    |_=>.bad):=rfl
   rw[e0,hs];dsimp only;have:=NZ g1 g2 0;dsimp only at this;rw[this];simp only[aER,tK]
   rfl
  .rw[zJ (e':=(I i,y,bn)) g1 rfl];exact g2
  .intro e he;rcases aGL he with he|rfl
   .exact g3 e he
   .exact g3 (I i,u,bn) (aFJ g1)
 cases hf:lE m i with
 |none=>
  simp only[Option.map_none,dI];refine⟨z,c,.map (es++[(I i,z,c)]) (c+1),rfl,fin _ _ es.length c z uG ?_ ?_ ?_⟩
  .rw[aFR,aFM];refine⟨h4,uG,λa ha b hb=>?_⟩;simp only[aFv,List.map_nil,aGd]at hb;obtain⟨e,he,rfl⟩:=aFq.1 ha;have:=h5 e he;omega
  .intro e he;rcases aEY.1 he with he|he
   .have:=h5 e he;omega
   .simp only[aGd]at he;subst he;exact Nat.lt_succ_self c
  .intro y;rw[((qX hf).2 y).1];have:(es++[(I i,z,c)]).set es.length (I i,y,c)=es++[(I i,y,c)]:=by simp
   rw[this];exact h2.snoc i y c
 |some q=>
  obtain⟨j,u⟩:=q;obtain⟨m1,m2⟩:=vp hf;obtain⟨bn,he⟩:=h2.at m1;simp only[aGc,aER,xR,he,tK];rw[show uJ (I i) (I i)=true by simp[uJ,zM],aP,aEW rfl];refine⟨u,bn,.map (es.set j (I i,u,bn)) c,rfl,fin _ _ j bn u (by rw[List.getElem?_set_self (aFb.1 he).1]) ?_ ?_ ?_⟩
  .rw[zJ (e':=(I i,u,bn)) he rfl];exact h4
  .intro e hm;rcases aGL hm with hm|rfl
   .exact h5 e hm
   .exact h5 (I i,u,bn) (aFJ he)
  .intro y;rw[List.set_set,(m2 y).1];exact h2.set j i y bn
def pH {α β:Type}(f:α->β)(l:List α)(j:Nat):(l.eraseIdx j).map f=(l.map f).eraseIdx j:=by
 induction l generalizing j with
 |nil=>rfl
 |cons a l ih=>cases j with
  |zero=>rfl
  |succ j=>simp[ih]
def dy.delete {b:Nat}{m:MZ}(h:dy st b m)(i:Int):∃st',pj .int (.map b) (I i) st=.ok .undef st'/\(st'=st\/∃blk,st'=St.set st b blk)/\dy st' b (qY m i):=by
 have h0:=h;obtain⟨es,c,h1,h2,h3,h4,h5⟩:=h;unfold pj;rw[qi,aP,aEW rfl];simp only[h1,tX h2];cases hf:lE m i with
 |none=>exact⟨st,rfl,.inl rfl,by rw[((qX hf).2 .undef).2];exact h0⟩
 |some q=>
  obtain⟨j,u⟩:=q;obtain⟨m1,m2⟩:=vp hf;simp only[aGc,aER,HD];refine⟨St.set st b (.map (es.eraseIdx j) c),rfl,.inr ⟨_,rfl⟩,es.eraseIdx j,c,uG,?_,JF h3 i,?_,?_⟩
  .rw[(m2 .undef).2];unfold cY at*;rw[pH,pH,h2]
  .rw[pH];exact h4.sublist (List.eraseIdx_sublist _ _)
  .intro e he;exact h5 e (List.mem_of_mem_eraseIdx he)
end
section
variable {α:Type}{L:List CV}{n:Nat}{st st':St}{v:CV}{k:Nat}{X:List Nat}{cap:Nat}{F:List Nat}{e:Nat}{x:CV}{l h:Nat}{z:List CV}{t:TypeId}{g:Bool}
def fJ {L:List (List α)}{w:Nat}(h:∀x∈L,x.length=w):L.flatten.length=L.length*w:=by
 induction L with
 |nil=>simp
 |cons a L ih=>
  rw[aGq,aEU,ih (λx hx=>h x (aFE _ hx)),h a (aFT ..),aFp,aFW,aGT,aHE]
def qp {L:List (List α)}{w:Nat}(h:∀x∈L,x.length=w)(i:Nat)(hi:i<=L.length):L.flatten.drop (i*w)=(L.drop i).flatten:=by
 induction L generalizing i with
 |nil=>simp
 |cons a L ih=>
  cases i with
  |zero=>simp
  |succ i=>
   rw[aGq,aFW,aGT,List.drop_append,aFu (by rw[h a (aFT ..)];omega),aFt,h a (aFT ..),aFY,
    ih (λx hx=>h x (aFE _ hx)) i O1]
   rfl
def qm {L:List (List α)}{w:Nat}(h:∀x∈L,x.length=w)(i:Nat)(hi:i<=L.length):L.flatten.take (i*w)=(L.take i).flatten:=by
 induction L generalizing i with
 |nil=>simp
 |cons a L ih=>
  cases i with
  |zero=>simp
  |succ i=>
   rw[aGq,aFW,aGT,aGH,aEX (by rw[h a (aFT ..)];omega),h a (aFT ..),aFY,
    ih (λx hx=>h x (aFE _ hx)) i O1]
   rfl
def sZ {L:List (List α)}{w:Nat}(h:∀x∈L,x.length=w)(i:Nat)(hi:i<L.length):(L.flatten.drop (i*w)).take w=L[i]:=by
 rw[qp h i (Nat.le_of_lt hi),aFk hi,aGq,aGH,aEX (by rw[h _ (aFj ..)];omega),h _ (aFj ..)];simp
def R8 {L:List (List α)}{w:Nat}(h:∀x∈L,x.length=w)(i:Nat)(hi:i<L.length)(o n:Nat)(ho:o+n<=w):(L.flatten.drop (i*w+o)).take n=(L[i].drop o).take n:=by
 rw[<-sZ h i hi,aGD,aHn,aGf,aFG qE]
def R9 {L:List (List α)}{w:Nat}(h:∀x∈L,x.length=w)(i:Nat)(hi:i<L.length)(o:Nat)(ho:o<w):L.flatten[i*w+o]?=L[i][o]?:=by
 rw[<-sZ h i hi,aGE,aEW ho,aHp]
def tO {L:List (List CV)}{w:Nat}(h:∀x∈L,x.length=w)(i:Nat)(hi:i<L.length)(x:List CV)(hx:x.length=w):bD L.flatten (i*w) x=(L.set i x).flatten:=by
 unfold bD;rw[qm h i (Nat.le_of_lt hi),hx,show i*w+w=(i+1)*w by rw[aFW,aGT],qp h (i+1) hi,aGF,aEW hi];simp
def bN {body:List CV->St->(List CV->St->Prop)->Prop}(Inv:Nat->List CV->St->Prop)(step:∀n vs s k,Inv n vs s->(∀n' Ci s',n'<n->Inv n' Ci s'->k Ci s')->body vs s k){vs:List CV}{s:St}(h:Inv n vs s):cZ body vs s:=by
 have key:∀m n vs s,n<m->Inv n vs s->GD body m vs s:=by
  intro m
  induction m with
  |zero=>intro n vs s h;omega
  |succ m ih=>intro n vs s h hi;exact step n vs s _ hi λn' Ci s' hn fk=>ih n' Ci s' qE fk
 exact⟨n+1,key (n+1) n vs s qE h⟩
def Row (st:St)(v:CV)(k n:Nat)(L:List CV)(b:Nat):Prop:=
 ∃t g gr,v=.slice b 0 n n gr/\(gr=0\/gr=k)/\L.length=n*k/\st.m.g b=some (.cells L t g)
def Row.mono {b:Nat}(h:Row st v k n L b)(hk:st'.m.g b=st.m.g b):Row st' v k n L b:=by
 obtain⟨t,g,gr,h1,h2,h3,h4⟩:=h;exact⟨t,g,gr,h1,h2,h3,by rw[hk];exact h4⟩
def Row.sl {b:Nat}(h:Row st v k n L b)(hx:b∉X)(hb:b<st.nx):Sl st X v k L:=by
 obtain⟨t,g,gr,h1,h2,h3,h4⟩:=h;exact .inr ⟨b,0,n,n,gr,h1,h3,⟨aEQ _,h2⟩,.inr ⟨hx,hb,L,t,g,h4,qE,O4⟩⟩
def fO {size b off len grow:Nat}{i:Nat}(h:i<len)(hg:grow=0\/len<=cap)(st:St):cc size (.slice b off len cap grow) (I i) st=.ok (.ptr b (off+i*size)) st:=by
 have hc:(Bool.and (Nat.ble (Nat.succ i) len) (Bool.or (Nat.beq grow 0) (Nat.ble len cap)))=true:=by
  simp only[aFl,aFO,aFs,aFw];exact⟨qE,hg⟩
 show bH _ _ _=_;rw[aP,aEW hc];rfl
def Kp.get (h:Kp F st st'){b:Nat}{blk:qB}(hb:st.m.g b=some blk)(hl:b<st.nx:=by omega)(hn:b∉F:=by simp):st'.m.g b=some blk:=by rw[h.keep b hl hn];exact hb
def Own.keep {G:List Nat}(h:Own st v k e L G)(hk:Kp F st st')(hl:∀b∈G,b<st.nx/\b∉F):Own st' v k e L G:=
 h.mono λb hb=>hk.keep b (hl b hb).1 (hl b hb).2
def Made (k e:Nat)(L:List CV)(st:St)(x:CV)(st':St):Prop:=∃F,Kp [] st st'/\Own st' x k e L F/\∀b∈F,st.nx<=b/\b<st'.nx
def Made.sl (h:Made k e L st x st')(X:List Nat)(hX:∀b∈X,b<st.nx):Sl st' X x k L:=by
 obtain⟨F,h1,h2,h3⟩:=h;exact h2.sl λb hb=>⟨λh=>by have:=hX b h;have:=h3 b hb;omega,(h3 b hb).2⟩
def ua (n d cap:Nat):E0 (some (I n)) d cap=if n<=cap then some n else none:=by
 have e:E0 (some (I n)) d cap=bH (Nat.ble n cap) (some n) none:=rfl;rw[e,aP];simp only[aFs]
def qt (l h len cap:Nat):nI (some (I l)) (some (I h)) len cap=if l<=h/\h<=cap then some (l,h)else none:=by
 unfold nI;rw[ua]
 by_cases h1:h<=cap<;>by_cases h2:l<=h<;>simp[h1,h2,ua]
def xd (l len cap:Nat):nI (some (I l)) none len cap=if l<=len then some (l,len)else none:=by
 unfold nI;have e:E0 none len cap=some len:=rfl;rw[e]
 by_cases h2:l<=len<;>simp[h2,ua]
def tZ (h len cap:Nat):nI none (some (I h)) len cap=if h<=cap then some (0,h)else none:=by
 unfold nI;have e:E0 none 0 h=some 0:=rfl
 by_cases h2:h<=cap<;>simp[h2,ua,e]
def jF {b off len grow:Nat}{lo hi:Option CV}(hb:nI lo hi len cap=some (l,h))(hc:len<=cap)(hg:grow=0\/grow=k):
 ∃dE,aQ k (.slice b off len cap grow) lo hi st=.ok (.slice b dE (h-l) (cap-l) grow) st/\(dE=off+l*k\/(l=cap/\dE=off)):=by
 have e:aQ k (.slice b off len cap grow) lo hi st=bH (Nat.ble len cap) (match nI lo hi len cap with
  |some (l,h)=>oJ (Nat.sub h l) λn=>oJ (Nat.sub cap l) λc=>
   bH (Bool.and (Nat.beq grow 0) (Nat.beq l cap)) (.ok (.slice b off n c grow) st) (oJ (Nat.add off (Nat.mul l k)) λo=>bH (Bool.or (Nat.beq grow 0) (Nat.beq grow k)) (.ok (.slice b o n c grow) st) .bad)
  |none=>.bad) .bad:=rfl
 rw[e,hb];simp only[dI,aP,aFs,aFl,aFO,aFw];rw[aEW hc]
 by_cases h1:grow=0/\l=cap
 .rw[aEW h1];exact⟨off,rfl,.inr ⟨h1.2,rfl⟩⟩
 .rw[aET h1,aEW hg];exact⟨_,rfl,.inl rfl⟩
def Sl.part (hs:Sl st X v k L)(hk:0<k)(hn:L.length=n*k)(h1:l<=h)(h2:h<=n){lo hi:Option CV}(hb:∀cap,n<=cap->nI lo hi n cap=some (l,h))(Nw:n=0->nI lo hi 0 0=some (0,0))(s:St):
 ∃v',aQ k v lo hi s=.ok v' s/\Sl st X v' k ((L.drop (l*k)).take ((h-l)*k)):=by
 rcases hs with⟨rfl,rfl⟩|⟨b,off,len,cap,grow,rfl,g2,g3,g4⟩
 .have:n=0:=by
   rcases Nat.mul_eq_zero.1 (show n*k=0 from adx)with h|h<;>omega
  refine⟨.ae,?_,.inl ⟨rfl,uG⟩⟩;show(match nI lo hi 0 0 with|some _=>OR.ok .ae s|none=>.bad)=_;rw[Nw this]
 .have:len=n:=aFU hk (by rw[<-g2,hn]);subst this;obtain⟨dE,e1,e2⟩:=jF (k:=k) (b:=b) (off:=off) (st:=s) (hb cap g3.1) g3.1 g3.2;have AL:l*k+(h-l)*k=h*k:=by rw[<-aFW];congr 1;omega
  have hhk:=aFH k h2;refine⟨_,e1,.inr ⟨b,dE,h-l,cap-l,grow,rfl,?_,⟨qE,g3.2⟩,?_⟩⟩
  .rw[aFc,aFn,hn];omega
  .by_cases h0:h-l=0
   .exact .inl h0
   .right;rcases g4 with g4|⟨g5,g6,c,t,g,g7,g8,g9⟩
    .omega
    .have e3:dE=off+l*k:=by rcases e2 with e2|⟨e2,_⟩;exact e2;omega
     subst e3;refine⟨g5,g6,c,t,g,g7,qE,?_⟩;rw[<-g9,aGD,aHn,aGf,aFG qE]
def Sl.lo (hs:Sl st X v k L)(hk:0<k)(hn:L.length=n*k)(h:l<=n)(s:St):∃v',aQ k v (some (I l)) none s=.ok v' s/\Sl st X v' k (L.drop (l*k)):=by
 obtain⟨v',h1,h2⟩:=hs.part hk hn (l:=l) (h:=n) h (aEQ _) (lo:=some (I l)) (hi:=none) (λcap hc=>by rw[xd,aEW h]) (λh0=>by rw[xd,aEW qE];congr 2;omega) s;refine⟨v',h1,?_⟩
 rwa [aEX (by rw[aFn,hn,Nat.sub_mul];exact aEQ _)]at h2
def Sl.hi (hs:Sl st X v k L)(hk:0<k)(hn:L.length=n*k)(hh:h<=n)(s:St):∃v',aQ k v none (some (I h)) s=.ok v' s/\Sl st X v' k (L.take (h*k)):=by
 obtain⟨v',h1,h2⟩:=hs.part hk hn (l:=0) (h:=h) (aHt _) hh (lo:=none) (hi:=some (I h)) (λcap hc=>adb) (λh0=>by rw[tZ,aEW qE];congr 2;omega) s;exact⟨v',h1,TV⟩
def Sl.both (hs:Sl st X v k L)(hk:0<k)(hn:L.length=n*k)(hl:l<=h)(hh:h<=n)(s:St):∃v',aQ k v (some (I l)) (some (I h)) s=.ok v' s/\Sl st X v' k ((L.drop (l*k)).take ((h-l)*k)):=
 hs.part hk hn hl hh (λcap hc=>by rw[qt,aEW ⟨hl,qE⟩]) (λh0=>by rw[qt,aEW ⟨hl,qE⟩];congr 2<;>omega) s
def Sl.str {l:List UInt8}(hs:Sl st X v 1 (aj l)):cW .strOf v st=.ok (.str l) st:=by
 rcases hs with⟨rfl,h⟩|⟨b,off,len,cap,grow,rfl,g2,g3,g4⟩
 .have:l=[]:=by cases l with|nil=>rfl|cons a l=>cases h
  subst this;rfl
 .have vG:Sl st X (.slice b off len cap grow) 1 (aj l):=.inr ⟨b,off,len,cap,grow,rfl,g2,g3,g4⟩
  have e:cW .strOf (.slice b off len cap grow) st=(match dN 1 len (.slice b off len cap grow) st with
   |some t=>(match Io t with|some l=>.ok (.str l) st|none=>.bad)
   |_=>.bad):=rfl
  rw[e,vG.cells.2];show(match Io (l.map bQ)with|some l=>OR.ok (.str l) st|none=>.bad)=_;rw[Dy]
def oz (hz:z.length=k)(hx:x.cN.length=k)(ha:x.isAny=false)(st:St):bM e 1 (cM 1 z) [(0,k,x)] st=.ok (.slice st.nx 0 1 1 0) (St.new st (.cells x.cN e false)):=by
 have e1:gC [(0,k,x)] (cM 1 z)=some x.cN:=by
  have:cM 1 z=z:=by simp[cM]
  rw[cR,aEW ⟨⟨hx,ha⟩,by rw[this];omega⟩,this];simp[bD,aFu (show z.length<=x.cN.length from qE)]
 unfold bM;rw[e1];rfl
def V0 (bytes:Nat){K:CV->St->Prop}(h:Own st v k e L F)(hk:0<k)(hF:∀b∈F,b<st.nx)(hz:z.length=k)(hx:x.cN.length=k)(ha:x.isAny=false)(kz:bj x.cN=true)
 (hsz:(L.length+k)*(bytes+1)<=140737488355328) (hK:∀v' st' F',Own st' v' k e (L++x.cN) F'->Kp F st st'->(∀b∈F',(b∈F\/st.nx<=b)/\b<st'.nx)->K v' st'):
 upon (bM e 1 (cM 1 z) [(0,k,x)] st) λx8 s3=>upon (bT e k bytes v (de .slice k z x8 s3) s3) K:=by
 rw[oz hz hx ha,aS];have pP:Kp F st (St.new st (.cells x.cN e false)):=(Kp.refl F st).new _;have h1:Own (St.new st (.cells x.cN e false)) v k e L F:=h.mono λb hb=>bg _ _ _ (hF b hb);have h2:=Gp (k:=k) (n:=1) (z:=z) (ao st (.cells x.cN e false)) qE qE;obtain⟨v',st',F',e1,e2,e3,e4⟩:=h1.append (n:=1) (bytes:=bytes) (T:=x.cN) hk qE kz (λb hb=>Yj) (by rw[hx];exact hsz);rw[h2,e1,aS];refine hK v' st' F' e2 (pP.trans e3 ael) λb hb=>⟨(e4 b hb).1.imp id λh=>by simp at h;omega,(e4 b hb).2⟩
def lz {r:OR}{k k':CV->Prop}(h:us r k)(hk:∀v,k v->k' v):us r k':=by
 cases r with
 |ok v s=>exact hk v h
 |bad=>exact h
def jO {k:List CV->St->Prop}{body:(List CV->St->Prop)->Prop}(Inv:List CV->St->Prop)(h1:∀k',(∀vs s,Inv vs s->k' vs s)->body k')(h2:∀vs s,Inv vs s->k vs s):dK k body:=h1 k h2
def Sl.SG (h:Sl st X v k L)(hk:0<k)(n:Nat)(hn:L.length=n*k):dN k n v st=some L/\GH v=some n:=by
 rcases h with⟨rfl,rfl⟩|⟨b,off,len,cap,grow,rfl,g2,g3,g4⟩
 .have:n=0:=by
   rcases Nat.mul_eq_zero.1 (show n*k=0 from adx)with h|h<;>omega
  subst this;exact⟨rfl,rfl⟩
 .have:len=n:=aFU hk (by rw[<-g2,hn]);subst this;exact⟨(Sl.cells (.inr ⟨b,off,len,cap,grow,rfl,g2,g3,g4⟩)).2,rfl⟩
def Qf {T:List CV}{b off:Nat}(h:Sl st X v 1 T)(hb:st.m.g b=some (.cells L t g))(hn:T.length<=n)(hl:off+T.length<=L.length)(ho:bj T=true):
 ∃st',gJ false 1 (.slice b off n cap 0) v st=.ok (I T.length) st'/\st'.nx=st.nx/\st'.m.g b=some (.cells (bD L off T) t g)/\(∀q,q≠b->st'.m.g q=st.m.g q):=by
 obtain⟨h1,h2⟩:=h.SG qE T.length qE
 have e:gJ false 1 (.slice b off n cap 0) v st=(match GH v with
  |some m=>(match cellsOf false 1 (min m n) v st with
   |some t=>bH (Nat.beq (min m n) 0) (yQ .i64 st 0)
    (bH (Bool.and (bj t) (Bool.or (Nat.beq 0 0) (Nat.ble 1 cap)))
     (match st.m.g b with
     |some (.cells s ty g)=>Option.rec (Option.rec .bad (λs'=>yQ .i64 ⟨st.m.put b (some (.cells s' ty g)),st.nx⟩ (min m n)) (B0 s off t (off+cap*0))) (λs'=>yQ .i64 ⟨st.m.put b (some (.cells s' ty g)),st.nx⟩ (min m n)) (dY s off t)
     |_=>.bad) .bad)
   |none=>.bad)
  |none=>.bad):=by
  unfold gJ;cases GH v<;>rfl
 rw[e,h2];dsimp only;rw[aFG hn];have e2:cellsOf false 1 T.length v st=some T:=h1;rw[e2];dsimp only;rw[ho,hb]
 by_cases h0:T.length=0
 .have:=aFi.1 h0;subst this;refine⟨st,rfl,rfl,?_,λq _=>rfl⟩;rw[hb];simp[bD]
 .have Nw:Nat.beq T.length 0=false:=by cases h:Nat.beq T.length 0 with|false=>rfl|true=>rw[aFw]at h;omega
  rw[Nw];have e3:dY L off T=some (bD L off T):=by unfold dY;rw[aEW hl];rfl
  dsimp only;rw[e3];refine⟨St.set st b (.cells (bD L off T) t g),rfl,rfl,ar _ _ _,λq hq=>al _ _ _ _ hq⟩
def qQ {b:Nat}(h1:l<=h)(h2:h<=n)(h3:l<n)(st:St):bY n 1 (.ptr b 0) (some (I l)) (some (I h)) st=.ok (.slice b l (h-l) (n-l) 0) st:=by
 have e:bY n 1 (.ptr b 0) (some (I l)) (some (I h)) st=(match nI (some (I l)) (some (I h)) n n with
  |some (l,h)=>oJ (Nat.sub h l) λk=>oJ (Nat.sub n l) λc=>bH (Nat.beq n l) (.ok (.slice b 0 k c 0) st) (oJ (Nat.add 0 (Nat.mul l 1)) λo=>.ok (.slice b o k c 0) st)
  |none=>.bad):=rfl
 rw[e,qt,aEW ⟨h1,h2⟩];simp only[dI,aP,aFw];rw[aET qE];have:Nat.add 0 (Nat.mul l 1)=l:=uG
 rw[this];rfl
def jW {b t:Nat}(h:st.m.g b=some (.cells z t g)):jq b z t st=.ok (.ptr b 0) st:=by
 unfold jq;rw[h];simp
def gF {b off:Nat}{l:List CV}(h:st.m.g b=some (.cells l t g))(hn:off+n<=l.length):aI n (.ptr b off) st=.ok (.agg ((l.drop off).take n)) st:=by
 have e:gV l off n=some ((l.drop off).take n):=by unfold gV;rw[aEW hn]
 unfold aI;simp only[h,e]
def aK {b:Nat}{l:List CV}(h:st.m.g b=some (.cells l t g))(hn:l.length=n):aI n (.ptr b 0) st=.ok (.agg l) st:=by
 rw[gF h qE,aFr,aEX qE]
end
def uv (n:Nat):List UInt8:=if 127<n then UInt8.ofNat (n%128+128)::uv (n/128)else [UInt8.ofNat n]
termination_by n
decreasing_by omega
def iR {n:Nat}(h:127<n):uv n=UInt8.ofNat (n%128+128)::uv (n/128):=by rw[uv,aEW h]
def jD {n:Nat}(h:n<=127):uv n=[UInt8.ofNat n]:=by rw[uv,aET qE]
def kh (n:Nat)(h:n<=2147483647):1<=(uv n).length/\(uv n).length<=5:=by
 have key:∀k n,n<128^(k+1)->1<=(uv n).length/\(uv n).length<=k+1:=by
  intro k
  induction k with
  |zero=>intro n h;rw[jD qE];simp
  |succ k ih=>
   intro n h
   by_cases hn:127<n
   .rw[iR hn];have:=ih (n/128) (Nat.div_lt_of_lt_mul (by rw[aHw,aGN]at h;exact h));simp;omega
   .rw[jD qE];simp
 have:=key 4 n qE;omega
