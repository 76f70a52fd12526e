import Derived.Test.YtomffjeofpafnaaGreatDoorLimF
namespace Lim
open Go
noncomputable section
set_option linter.defProp false
section
variable {st st':St}{X:List Nat}{v:CV}{k:Nat}{L:List CV}{e:Nat}{F:List Nat}
abbrev I (n:Int):CV:=.int .i64 n
def aj (l:List UInt8):List CV:=l.map bP
@[simp] def bJ (l:List UInt8):(aj l).length=l.length:=aaF
def Sl (st:St)(X:List Nat)(v:CV)(k:Nat)(L:List CV):Prop:=
 (v=.ae/\L=[])\/
 ∃b off len cap grow,v=.slice b off len cap grow/\L.length=len*k/\(len<=cap/\(grow=0\/grow=k))/\
  (len=0\/(b∉X/\b<st.nx/\∃l t g,st.m.g b=some (.cells l t g)/\off+len*k<=l.length/\(l.drop off).take (len*k)=L))
def Sl.mono (h:Sl st X v k L)(hk:Kp X st st'):Sl st' X v k L:=by
 rcases h with h|⟨b,off,len,cap,grow,h1,h2,h3,h4⟩
 .exact .inl h
 .refine .inr ⟨b,off,len,cap,grow,h1,h2,h3,?_⟩;rcases h4 with h4|⟨h5,h6,l,t,g,h7,h8⟩
  .exact .inl h4
  .exact .inr ⟨h5,aDM h6 hk.nx,l,t,g,by rw[hk.keep b h6 h5];exact h7,h8⟩
def Sl.dz {Y:List Nat}(h:Sl st X v k L)(hy:∀q∈Y,q∈X\/st.nx<=q):Sl st Y v k L:=by
 rcases h with h|⟨b,off,len,cap,grow,h1,h2,h3,h4⟩
 .exact .inl h
 .refine .inr ⟨b,off,len,cap,grow,h1,h2,h3,?_⟩;rcases h4 with h4|⟨h5,h6,h7⟩
  .exact .inl h4
  .exact .inr ⟨λhq=>by rcases hy b hq with h|h;exact h5 h;omega,h6,h7⟩
def Sl.len (h:Sl st X v k L)(n:Nat)(hn:L.length=n*k)(hk:0<k)(s:St):bj .slice v s=.ok (I n) s:=by
 rcases h with⟨rfl,rfl⟩|⟨b,off,len,cap,grow,rfl,h2,_⟩
 .have:n=0:=by
   rcases Nat.mul_eq_zero.1 (show n*k=0 from adh)with h|h<;>omega
  subst this;rfl
 .have:len=n:=aEx hk (by rw[<-h2,hn]);subst this;rfl
def jI (k n b off len cap grow:Nat)(st:St):dD k n (.slice b off len cap grow) st=if n=0 then some []else if grow=0\/n<=len then (match st.m.g b with|some (.cells s _ _)=>ia s off (n*k)|some (.ro s _)=>ia s off (n*k)|_=>none)else none:=by
 have e:dD k n (.slice b off len cap grow) st=bz (Nat.beq n 0) (some []) (bz (Bool.or (Nat.beq grow 0) (Nat.ble n len)) (match st.m.g b with|some (.cells s _ _)=>ia s off (n*k)|some (.ro s _)=>ia s off (n*k)|_=>none) none):=rfl;rw[e];simp only[aO,aDZ,aEu,aDW]
def Sl.cells {b off len cap grow:Nat}(h:Sl st X (.slice b off len cap grow) k L):L.length=len*k/\dD k len (.slice b off len cap grow) st=some L:=by
 rcases h with⟨h,_⟩|⟨b',dA,acM,fm,atO,h1,h2,h3,h4⟩
 .cases h
 .cases h1;refine⟨h2,?_⟩;rw[jI]
  by_cases h0:len=0
  .subst h0;have:L=[]:=by apply aDP.1;simpa using h2
   subst this;rfl
  .rcases h4 with h4|⟨_,_,l,t,g,h7,h8,h9⟩
   .exact absurd h4 h0
   .rw[aDv h0,aDy (.inr (aDt _)),h7];unfold ia;dsimp only;rw[aDy h8,h9]
def Sl.src (h:Sl st X v k L)(z:List CV):∃n,L.length=n*k/\cW .slice k z v st=some (n,L):=by
 have h':=h;rcases h with⟨rfl,rfl⟩|⟨b,off,len,cap,grow,rfl,h2,h3,h4⟩
 .exact⟨0,rq,rfl⟩
 .refine⟨len,h2,?_⟩;have e:cW .slice k z (.slice b off len cap grow) st=(match dD k len (.slice b off len cap grow) st with|some s=>some (len,s)|none=>none):=rfl;rw[e,h'.cells.2]
def Sl.idx (h:Sl st X v 1 L){i:Nat}(hi:i<L.length)(k:CV->Prop)(hk:k L[i]):Lim.idx 1 v (I i) st k:=by
 rcases h with⟨rfl,rfl⟩|⟨b,off,len,cap,grow,rfl,h2,h3,h4⟩
 .simp at hi
 .have hl:L.length=len:=by simpa using h2
  rcases h4 with h4|⟨_,_,l,t,g,h7,h8,h9⟩
  .omega
  .have hc:(Bool.and (Nat.ble (Nat.succ i) len) (Bool.or (Nat.beq grow 0) (Nat.ble len cap)))=true:=by
    simp only[aDK,aEu,aDW,aDZ];exact⟨pX,.inr h3.1⟩
   have e:cQ 1 (.slice b off len cap grow) (I i) st=.ok (.ptr b (off+i*1)) st:=by
    show bz _ _ _=_;rw[aO,aDy hc];rfl
   unfold Lim.idx;rw[e];simp only[af,aC,h7,ar,aEQ]
   have:l[off+i]?=some L[i]:=by
    have h9':=h9.symm;rw[aDu pX]
    congr 1
    subst h9';simp
   rw[this];exact hk
def Own (st:St)(v:CV)(k e:Nat)(L:List CV)(F:List Nat):Prop:=
 (v=.ae/\L=[]/\F=[])\/
 (∃b l t g,v=.slice b 0 0 0 0/\L=[]/\F=[b]/\st.m.g b=some (.cells l t g))\/
 (∃b n,v=.slice b 0 n n k/\0<n/\L.length=n*k/\F=[b]/\st.m.g b=some (.cells L e true))
def Own.mono (h:Own st v k e L F)(hk:∀b∈F,st'.m.g b=st.m.g b):Own st' v k e L F:=by
 rcases h with h|⟨b,l,t,g,h1,h2,h3,h4⟩|⟨b,n,h1,h2,h3,h4,h5⟩
 .exact .inl h
 .exact .inr (.inl ⟨b,l,t,g,h1,h2,h3,by rw[hk b (by simp[h3])];exact h4⟩)
 .exact .inr (.inr ⟨b,n,h1,h2,h3,h4,by rw[hk b (by simp[h4])];exact h5⟩)
def Own.sl (h:Own st v k e L F)(hx:∀b∈F,b∉X/\b<st.nx):Sl st X v k L:=by
 rcases h with⟨h1,h2,_⟩|⟨b,l,t,g,h1,h2,h3,h4⟩|⟨b,n,h1,h2,h3,h4,h5⟩
 .exact .inl ⟨h1,h2⟩
 .exact .inr ⟨b,0,0,0,0,h1,adi,⟨aDt _,.inl rfl⟩,.inl rfl⟩
 .exact .inr ⟨b,0,n,n,k,h1,h3,⟨aDt _,.inr rfl⟩,.inr ⟨(hx b (by simp[h4])).1,(hx b (by simp[h4])).2,L,e,true,h5,pX,Wu⟩⟩
def Own.ck (h:Own st v k e L F):ck v=true/\v.cA=[v]:=by
 rcases h with⟨rfl,_⟩|⟨b,l,t,g,rfl,_⟩|⟨b,n,rfl,_⟩<;>exact⟨rfl,rfl⟩
def Own.append {n bytes:Nat}{T:List CV}(h:Own st v k e L F)(hk:0<k)(hT:T.length=n*k)(iY:aU T=true)(hF:∀b∈F,b<st.nx)
 (hsz:(L.length+T.length)*(bytes+1)<=140737488355328):∃v' st' F',bI e k bytes v (some (n,T)) st=.ok v' st'/\Own st' v' k e (L++T) F'/\Kp F st st'/\(∀b∈F',(b∈F\/b=st.nx)/\b<st'.nx):=by
 have hm:∀m,m*k<=L.length+T.length->m*bytes<=140737488355328/\m<=140737488355328:=by
  intro m hm;have h1:=aEB (by simpa using Nat.mul_le_mul_left m hk) hm;have h2:m*bytes<=(L.length+T.length)*(bytes+1):=aGf h1 pX;have h3:=aEB h1 (by simpa using Nat.mul_le_mul_left (L.length+T.length) (show 1<=bytes+1 from pX));exact⟨pX,pX⟩
 by_cases h0:n=0
 .subst h0;have:T=[]:=by apply aDP.1;simpa using hT
  subst this;rw[aEs];refine⟨v,st,F,?_,h,Kp.refl _ _,λb hb=>⟨.inl hb,hF b hb⟩⟩;rcases h with⟨rfl,_⟩|⟨b,l,t,g,rfl,_⟩|⟨b,m,rfl,_⟩
  .rfl
  .rfl
  .show bz (Nat.beq 0 0) (bz (Nat.ble m m) _ _) _=_;rw[show Nat.ble m m=true by rw[aDW];exact aDt _];rfl
 .have Jd:Nat.beq n 0=false:=by cases h:Nat.beq n 0 with|false=>rfl|true=>rw[aDZ]at h;exact absurd h h0
  have nt:Nat.ble 1 k=true:=by rw[aDW];exact hk
  rcases h with⟨rfl,rfl,rfl⟩|⟨b,l,t,g,rfl,rfl,rfl,h4⟩|⟨b,m,rfl,h2,h3,rfl,h5⟩
  .obtain⟨q1,q2⟩:=hm n (by simp[hT]);refine⟨.slice st.nx 0 n n k,⟨st.m.put st.nx (some (.cells T e true)),st.nx+1⟩,[st.nx],?_,?_,(Kp.refl [] st).new _,λb hb=>⟨.inr aaN,acB⟩⟩
   .show bz _ _ _=_;rw[Jd,nt,show Nat.ble (Nat.mul n bytes) 140737488355328=true by rw[aDW];exact q1,show Nat.ble n 140737488355328=true by rw[aDW];exact q2];rfl
   .exact .inr (.inr ⟨st.nx,n,rfl,pX,abl,rfl,PT.dg _ _ _⟩)
  .obtain⟨q1,q2⟩:=hm n (by simp[hT]);refine⟨.slice st.nx 0 n n k,⟨st.m.put st.nx (some (.cells T e true)),st.nx+1⟩,[st.nx],?_,?_,(Kp.refl [b] st).new _,λb hb=>⟨.inr aaN,acB⟩⟩
   .unfold bI;simp only[Jd,aO,aDp,aDE,dH];have e1:Nat.add 0 n=n:=aDx n;rw[e1,aDv aah,aDy acp,h4];simp[ia]
   .exact .inr (.inr ⟨st.nx,n,rfl,pX,abl,rfl,PT.dg _ _ _⟩)
  .have hlt:=hF b rq;obtain⟨q1,q2⟩:=hm (m+n) (by rw[aEz,<-h3,<-hT];exact aDt _);refine⟨.slice st.nx 0 (m+n) (m+n) k,⟨(st.m.put b none).put st.nx (some (.cells (L++T) e true)),st.nx+1⟩,[st.nx],?_,?_,?_,λb hb=>⟨.inr aaN,acB⟩⟩
   .unfold bI;simp only[Jd,aO,aDp,aDE,dH];rw[show Nat.add m n=m+n from rfl,aDv aah,aDy acp,h5];have e2:ia L 0 (m*k)=some L:=by unfold ia;rw[aDy pX,aDX,aDA pX]
    dsimp only;rw[e2];dsimp only;rw[aDv (by rw[aDZ];omega),aDy (by simp only[aDK,aDZ,aDW];exact⟨adu,adu,adu,iY,h2⟩)]
   .exact .inr (.inr ⟨st.nx,m+n,rfl,pX,by rw[aDw,h3,hT,aEz],rfl,PT.dg _ _ _⟩)
   .refine⟨rq,λq h1 h2=>?_,λhf q hq=>?_⟩
    .show((st.m.put b none).put st.nx _).g q=_;rw[PT.dn _ _ _ _ pX,PT.dn _ _ _ _ WJ]
    .show((st.m.put b none).put st.nx _).g q=_;simp only at hq;rw[PT.dn _ _ _ _ pX,PT.dn _ _ _ _ pX];exact hf q pX
end
section
variable {i:Int}{j:Nat}{u:CV}{es:List eH}{st st':St}{e:eH}
abbrev MZ:=List (Int×CV)
def lK:MZ->Int->Option (Nat×CV)
 |[],_=>none
 |p::r,i=>if i=p.1 then some (0,p.2)else (lK r i).map λq=>(q.1+1,q.2)
def ji:MZ->Int->Option CV
 |[],_=>none
 |p::r,i=>if i=p.1 then some p.2 else ji r i
def mQ:MZ->Int->CV->MZ
 |[],i,x=>[(i,x)]
 |p::r,i,x=>if i=p.1 then (i,x)::r else p::mQ r i x
def qp:MZ->Int->MZ
 |[],_=>[]
 |p::r,i=>if i=p.1 then r else p::qp r i
def BO (m:MZ)(i:Int):ji m i=(lK m i).map (·.2):=by
 induction m with
 |nil=>rfl
 |cons p r ih=>
  simp only[ji,lK]
  split
  .rfl
  .rw[ih];cases lK r i<;>rfl
def FI (m:MZ)(i j:Int)(x:CV):ji (mQ m i x) j=if j=i then some x else ji m j:=by
 induction m with
 |nil=>simp[mQ,ji]
 |cons p r ih=>
  simp only[mQ]
  split
  .rename_i h;subst h;simp only[ji];split<;>simp_all
  .rename_i h;simp only[ji,ih]
   split
   .rename_i h2;subst h2;rw[aDv (λe=>h e.symm)]
   .rfl
def uE {m:MZ}(h:lK m i=some (j,u)):m[j]?=some (i,u)/\∀x,mQ m i x=m.set j (i,x)/\qp m i=m.eraseIdx j:=by
 induction m generalizing j with
 |nil=>cases h
 |cons p r ih=>
  simp only[lK]at h
  split at h
  .rename_i e;cases h;subst e;exact⟨rfl,λx=>⟨by simp[mQ],by simp[qp]⟩⟩
  .rename_i e;cases hf:lK r i with
   |none=>rw[hf]at h;cases h
   |some q=>
    rw[hf]at h;obtain⟨q1,q2⟩:=q;cases h;obtain⟨h1,h2⟩:=ih hf;exact⟨h1,λx=>⟨by simp[mQ,e,(h2 x).1],by simp[qp,e,(h2 x).2]⟩⟩
def qm {m:MZ}(h:lK m i=none):i∉m.map (·.1)/\∀x,mQ m i x=m++[(i,x)]/\qp m i=m:=by
 induction m with
 |nil=>exact⟨rq,λx=>⟨rfl,rfl⟩⟩
 |cons p r ih=>
  simp only[lK]at h
  split at h
  .cases h
  .rename_i e;obtain⟨h1,h2⟩:=ih (by cases hf:lK r i with|none=>rfl|some q=>rw[hf]at h;cases h);exact⟨by simp only[aEc,aDs,aEM];exact⟨e,h1⟩,λx=>⟨by simp[mQ,e,(h2 x).1],by simp[qp,e,(h2 x).2]⟩⟩
def mem_keys {m:MZ}:i∈m.map (·.1)↔(ji m i).isSome=true:=by
 induction m with
 |nil=>simp[ji]
 |cons p r ih=>
  simp only[aEc,aDs,ji]
  split
  .rename_i e;simp[e]
  .rename_i e;rw[<-ih];simp[e]
def nU {m:MZ}(h:(m.map (·.1)).Nodup)(i:Int)(x:CV):((mQ m i x).map (·.1)).Nodup:=by
 induction m with
 |nil=>simp[mQ]
 |cons p r ih=>
  simp only[mQ];simp only[aEc,aDG]at h
  split
  .rename_i e;subst e;simpa using h
  .rename_i e;simp only[aEc,aDG];refine⟨λh2=>?_,ih h.2⟩;rw[mem_keys,FI]at h2
   split at h2
   .rename_i e2;exact e e2.symm
   .exact h.1 (mem_keys.2 h2)
def OT {m:MZ}(h:(m.map (·.1)).Nodup)(i j:Int):ji (qp m i) j=if j=i then none else ji m j:=by
 induction m with
 |nil=>simp[qp,ji]
 |cons p r ih=>
  simp only[aEc,aDG]at h;simp only[qp]
  split
  .rename_i e;subst e
   split
   .rename_i e2;subst e2;cases hg:ji r p.1 with
    |none=>rfl
    |some u=>exact absurd (mem_keys.2 (by rw[hg];rfl)) h.1
   .rename_i e2;simp[ji,e2]
  .rename_i e;simp only[ji,ih h.2]
   split
   .rename_i e2;subst e2;rw[aDv (λe3=>e e3.symm)]
   .rfl
def IJ {m:MZ}(h:(m.map (·.1)).Nodup)(i:Int):((qp m i).map (·.1)).Nodup:=by
 induction m with
 |nil=>exact h
 |cons p r ih=>
  have h':=h;simp only[aEc,aDG]at h;simp only[qp]
  split
  .exact h.2
  .rename_i e;simp only[aEc,aDG];refine⟨λh2=>?_,ih h.2⟩;rw[mem_keys,OT h.2]at h2
   split at h2
   .cases h2
   .exact h.1 (mem_keys.2 h2)
def cT (es:List eH)(m:MZ):Prop:=es.map (λe=>(e.1,e.2.1))=m.map (λp=>(I p.1,p.2))
def tq {m:MZ}(h:cT es m)(i:Int)(j:Nat):lN .int (I i) es j=some ((lK m i).map λq=>(j+q.1,q.2)):=by
 induction es generalizing m j with
 |nil=>cases m with
  |nil=>rfl
  |cons p r=>simp[cT]at h
 |cons e es ih=>
  cases m with
  |nil=>simp[cT]at h
  |cons p r=>
   simp only[cT,aEc,aEX,aFl]at h;obtain⟨⟨h1,h2⟩,h3⟩:=h;have e0:lN .int (I i) (e::es) j=Option.rec none (λb=>bz b (some (some (j,e.2.1))) (lN .int (I i) es (Nat.succ j))) (nb .int (I i) e.1):=rfl;rw[e0,h1];have e1:nb .int (I i) (I p.1)=some (decide (i=p.1)):=by simp[nb]
   rw[e1];simp only[aO,aEJ,lK,ih h3 (j+1),Nat.succ_eq_add_one]
   split
   .simp[h2]
   .cases lK r i with
    |none=>rfl
    |some q=>simp only[aED];congr 3;omega
def wV (es:List eH)(i:Nat)(e:eH):xL es i e=es.set i e:=by
 induction es generalizing i with
 |nil=>rfl
 |cons x r ih=>cases i with
  |zero=>rfl
  |succ i=>show x::xL r i e=_;rw[ih];rfl
def Cn (es:List eH)(i:Nat):Co es i=es[i]?:=by
 induction es generalizing i with
 |nil=>rfl
 |cons x r ih=>cases i with
  |zero=>rfl
  |succ i=>show Co r i=_;rw[ih];rfl
def GW (es:List eH)(i:Nat):GX es i=es.eraseIdx i:=by
 induction es generalizing i with
 |nil=>rfl
 |cons x r ih=>cases i with
  |zero=>rfl
  |succ i=>show x::GX r i=_;rw[ih];rfl
def pL (i:Int):uf .int (I i)=true:=by simp[uf,acP,nb]
def dt (st:St)(b:Nat)(m:MZ):Prop:=∃es c,st.m.g b=some (.map es c)/\cT es m/\(m.map (·.1)).Nodup/\(es.map (·.2.2)).Nodup/\∀e∈es,e.2.2<c
def IsMap (st:St)(b:Nat)(m:MZ):Prop:=dt st b m\/∃es,st.m.g b=some (.lmap es)/\cT es m/\(m.map (·.1)).Nodup
def dt.nd {b:Nat}{m:MZ}(h:dt st b m):(m.map (·.1)).Nodup:=by obtain⟨es,c,_,_,h,_⟩:=h;exact h
def IsMap.nd {b:Nat}{m:MZ}(h:IsMap st b m):(m.map (·.1)).Nodup:=by rcases h with h|⟨es,_,_,h⟩;exact h.nd;exact h
def dt.mono {b:Nat}{m:MZ}(h:dt st b m)(hk:st'.m.g b=st.m.g b):dt st' b m:=by
 obtain⟨es,c,h1,h2⟩:=h;exact⟨es,c,by rw[hk];exact h1,h2⟩
def IsMap.mono {b:Nat}{m:MZ}(h:IsMap st b m)(hk:st'.m.g b=st.m.g b):IsMap st' b m:=by
 rcases h with h|⟨es,h1,h2⟩
 .exact .inl (h.mono hk)
 .exact .inr ⟨es,by rw[hk];exact h1,h2⟩
def dt.new (st:St):dt (St.new st (.map [] 0)) st.nx []:=⟨[],0,rq,rfl,rq,rq,rq⟩
def FO {m:MZ}(h:cT es m)(i:Int):vU i es=ji m i:=by
 induction es generalizing m with
 |nil=>cases m with
  |nil=>rfl
  |cons p r=>simp[cT]at h
 |cons e es ih=>
  cases m with
  |nil=>simp[cT]at h
  |cons p r=>
   simp only[cT,aEc,aEX,aFl]at h;obtain⟨⟨h1,h2⟩,h3⟩:=h;have e0:vU i (e::es)=bz (DK i e.1) (some e.2.1) (vU i es):=rfl;rw[e0,h1,ih h3,h2];simp only[DK,aO,ji,aEJ]
def IsMap.lookup {b:Nat}{m:MZ}(h:IsMap st b m)(z:CV)(ok:Bool)(i:Int)(s:St)(hs:s.m.g b=st.m.g b):iE .int z ok (.map b) (I i) s=
 if ok=true then .ok (.tuple [(ji m i).getD z,.bool (ji m i).isSome]) s else .ok ((ji m i).getD z) s:=by
 unfold iE;rw[pL,aO,aDy rfl];rcases h with⟨es,c,h1,h2,_⟩|⟨es,h1,h2,_⟩
 .have e1:qw (.map b) s=none:=by simp[qw,hs,h1]
  have e2:Ak (.map b) s=some es:=by simp[Ak,hs,h1]
  rw[e1,e2];simp only[tq h2,BO];cases lK m i with
  |none=>simp
  |some q=>simp
 .have e1:qw (.map b) s=some es:=by simp[qw,hs,h1]
  rw[e1];simp only[vE,IN,FO h2];cases ji m i with
  |none=>simp
  |some u=>simp
def cT.len {m:MZ}(h:cT es m):es.length=m.length:=by simpa using congrArg List.length h
def IsMap.len {b:Nat}{m:MZ}(h:IsMap st b m):bj .map (.map b) st=.ok (I m.length) st:=by
 rcases h with⟨es,c,h1,h2,_⟩|⟨es,h1,h2,_⟩
 .simp[bj,h1,h2.len]
 .simp[bj,h1,h2.len]
def cT.set {m:MZ}(h:cT es m)(j:Nat)(i:Int)(x:CV)(bn:Nat):cT (es.set j (I i,x,bn)) (m.set j (i,x)):=by
 unfold cT at*;rw[List.map_set,List.map_set,h]
def cT.snoc {m:MZ}(h:cT es m)(i:Int)(x:CV)(bn:Nat):cT (es++[(I i,x,bn)]) (m++[(i,x)]):=by
 unfold cT at*;simp[h]
def cT.at {m:MZ}(h:cT es m)(hj:m[j]?=some (i,u)):∃bn,es[j]?=some (I i,u,bn):=by
 have h1:(es.map λe=>(e.1,e.2.1))[j]?=some (I i,u):=by rw[h,aEf,hj];rfl
 rw[aEf]at h1;cases he:es[j]? with
 |none=>rw[he]at h1;cases h1
 |some e=>
  rw[he]at h1;simp only[aED,aER,aFl]at h1;exact⟨e.2.2,by rw[<-h1.1,<-h1.2]⟩
def yV {e':eH}(h:es[j]?=some e)(hb:e'.2.2=e.2.2):(es.set j e').map (·.2.2)=es.map (·.2.2):=by
 rw[List.map_set];apply aFL;intro k;rw[List.getElem?_set]
 split
 .rename_i e1;subst e1;obtain⟨h1,h2⟩:=aDD.1 h;simp[hb,h1,h2]
 .rfl
def IsMap.update {b:Nat}{m:MZ}(h:IsMap st b m)(i:Int)(x:CV):∃blk,eC .int (.map b) (I i) x st=.ok .undef (St.set st b blk)/\IsMap (St.set st b blk) b (mQ m i x)/\(dt st b m->dt (St.set st b blk) b (mQ m i x)):=by
 rcases h with⟨es,c,h1,h2,h3,h4,h5⟩|⟨es,h1,h2,h3⟩
 .have key:∃blk,eC .int (.map b) (I i) x st=.ok .undef (St.set st b blk)/\dt (St.set st b blk) b (mQ m i x):=by
   unfold eC;rw[pL,aO,aDy rfl];simp only[h1,tq h2];cases hf:lK m i with
   |none=>
    simp only[Option.map_none,dH];refine⟨.map (es++[(I i,x,c)]) (c+1),rfl,es++[(I i,x,c)],c+1,rq,?_,nU h3 i x,?_,?_⟩
    .rw[((qm hf).2 x).1];exact h2.snoc i x c
    .rw[aEC,aEn];refine⟨h4,rq,λa ha b hb=>?_⟩;simp only[aEc,List.map_nil,aEE]at hb;obtain⟨e,he,rfl⟩:=aDR.1 ha;have:=h5 e he;omega
    .intro e he;rcases aDB.1 he with he|he
     .have:=h5 e he;omega
     .simp only[aEE]at he;subst he;exact Nat.lt_succ_self c
   |some q=>
    obtain⟨j,u⟩:=q;obtain⟨m1,m2⟩:=uE hf;obtain⟨bn,he⟩:=h2.at m1;simp only[aED,aDx,Cn,he,wV];rw[show xG (I i) (I i)=true by simp[xG,Bz],aO,aDy rfl];refine⟨.map (es.set j (I i,x,bn)) c,rfl,es.set j (I i,x,bn),c,rq,?_,nU h3 i x,?_,?_⟩
    .rw[(m2 x).1];exact h2.set j i x bn
    .rw[yV (e':=(I i,x,bn)) he rfl];exact h4
    .intro e hm;rcases aFq hm with hm|rfl
     .exact h5 e hm
     .exact h5 (I i,u,bn) (aEm he)
  obtain⟨blk,k1,k2⟩:=key;exact⟨blk,k1,.inl k2,λ_=>k2⟩
 .have qY:¬dt st b m:=λ⟨es',c,h,_⟩=>by rw[h1]at h;cases h
  unfold eC;rw[pL,aO,aDy rfl];simp only[h1,zq,IN,FO h2]
  have DO:∀(es:List eH) (m:MZ),cT es m->ji m i=none->qu i x es=es:=by
   intro es
   induction es with
   |nil=>intro m _ _;rfl
   |cons e es ih=>
    intro m h hs;cases m with
    |nil=>simp[cT]at h
    |cons p r=>
     simp only[cT,aEc,aEX,aFl]at h;obtain⟨⟨g1,g2⟩,g3⟩:=h;have e0:qu i x (e::es)=bz (DK i e.1) ((e.1,x,e.2.2)::qu i x es) (e::qu i x es):=rfl;simp only[ji]at hs
     split at hs
     .cases hs
     .rename_i gq;have hA:DK i e.1=false:=by rw[g1];simp[DK,gq]
      rw[e0,hA,ih r g3 hs];rfl
  have amd:∀(es:List eH) (m:MZ),cT es m->(m.map (·.1)).Nodup->(ji m i).isSome=true->cT (qu i x es) (mQ m i x):=by
   intro es
   induction es with
   |nil=>intro m h hd hs;cases m with
    |nil=>cases hs
    |cons p r=>simp[cT]at h
   |cons e es ih=>
    intro m h hd hs;cases m with
    |nil=>cases hs
    |cons p r=>
     simp only[cT,aEc,aEX,aFl]at h;obtain⟨⟨g1,g2⟩,g3⟩:=h;simp only[aEc,aDG]at hd;have e0:qu i x (e::es)=bz (DK i e.1) ((e.1,x,e.2.2)::qu i x es) (e::qu i x es):=rfl
     by_cases hi:i=p.1
     .have hA:DK i e.1=true:=by rw[g1];simp[DK,hi]
      have hn:ji r i=none:=by
       cases hg:ji r i with
       |none=>rfl
       |some u=>exact absurd (mem_keys.2 (by rw[<-hi,hg];rfl)) hd.1
      rw[e0,hA,DO es r g3 hn];simp only[aO,aDQ,mQ,aDy hi,cT,aEc,aEX,aFl];exact⟨⟨by rw[g1,hi],adu⟩,g3⟩
     .have hA:DK i e.1=false:=by rw[g1];simp[DK,hi]
      have uh:(ji r i).isSome=true:=by simpa[ji,hi]using hs
      rw[e0,hA];simp only[aO,aDp,aDE,mQ,aDv hi,cT,aEc,aEX,aFl];exact⟨⟨g1,g2⟩,ih r g3 hd.2 uh⟩
  cases hg:ji m i with
  |none=>
   have hf:lK m i=none:=by
    rw[BO]at hg;cases hf:lK m i with
    |none=>rfl
    |some q=>rw[hf]at hg;cases hg
   refine⟨.lmap (es++[(I i,x,0)]),rfl,.inr ⟨es++[(I i,x,0)],rq,?_,nU h3 i x⟩,λh=>absurd h qY⟩;rw[((qm hf).2 x).1];exact h2.snoc i x 0
  |some u=>exact⟨.lmap (qu i x es),rfl,.inr ⟨qu i x es,rq,amd es m h2 h3 (by rw[hg];rfl),nU h3 i x⟩,λh=>absurd h qY⟩
def MJ (h:es[j]?=some e)(hn:(es.map (·.2.2)).Nodup):∀k,sE e.2.2 es k=some (k+j,e):=by
 induction es generalizing j with
 |nil=>simp at h
 |cons x r ih=>
  intro k;have e0:sE e.2.2 (x::r) k=bz (Nat.beq x.2.2 e.2.2) (some (k,x)) (sE e.2.2 r (Nat.succ k)):=rfl;rw[e0];simp only[aO,aDZ];simp only[aEc,aDG]at hn;cases j with
  |zero=>simp at h;subst h;simp
  |succ j=>
   have h':r[j]?=some e:=R5
   rw[aDv (λe1=>hn.1 (aDR.2 ⟨e,aEm h',e1.symm⟩)),ih h' hn.2]
   congr 2
   show k+1+j=k+(j+1);omega
def dt.entry {b:Nat}{m:MZ}(h:dt st b m)(z:CV)(i:Int):∃v bn blk,fE .int z (.map b) (I i) st=.ok (.tuple [v,I bn]) (St.set st b blk)/\
 ∀y s,s.m.g b=some blk->∃ml,dS (.map b) (I bn) y s=.ok .undef (St.set s b ml)/\dt (St.set s b ml) b (mQ m i y):=by
 obtain⟨es,c,h1,h2,h3,h4,h5⟩:=h;unfold fE;rw[pL,aO,aDy rfl];simp only[h1,tq h2]
 have fin:∀(es2:List eH) (c2 j bn:Nat) (u:CV),es2[j]?=some (I i,u,bn)->(es2.map (·.2.2)).Nodup->(∀e∈es2,e.2.2<c2)->(∀y,cT (es2.set j (I i,y,bn)) (mQ m i y))->
  ∀y s,s.m.g b=some (.map es2 c2)->∃ml,dS (.map b) (I bn) y s=.ok .undef (St.set s b ml)/\dt (St.set s b ml) b (mQ m i y):=by
  intro es2 c2 j bn u g1 g2 g3 g4 y s hs;refine⟨.map (es2.set j (I i,y,bn)) c2,?_,es2.set j (I i,y,bn),c2,rq,g4 y,nU h3 i y,?_,?_⟩
  .have e0:dS (.map b) (I bn) y s=(match s.m.g b with
    |some (.map es clock)=>(match sE bn es 0 with
     |some (i,(k,_,bn))=>.ok .undef ⟨s.m.put b (some (.map (xL es i (k,y,bn)) clock)),s.nx⟩
     |none=>.bad)
    |_=>.bad):=rfl
   rw[e0,hs];dsimp only;have:=MJ g1 g2 0;dsimp only at this;rw[this];simp only[aDx,wV]
   rfl
  .rw[yV (e':=(I i,y,bn)) g1 rfl];exact g2
  .intro e he;rcases aFq he with he|rfl
   .exact g3 e he
   .exact g3 (I i,u,bn) (aEm g1)
 cases hf:lK m i with
 |none=>
  simp only[Option.map_none,dH];refine⟨z,c,.map (es++[(I i,z,c)]) (c+1),rfl,fin _ _ es.length c z rq ?_ ?_ ?_⟩
  .rw[aEC,aEn];refine⟨h4,rq,λa ha b hb=>?_⟩;simp only[aEc,List.map_nil,aEE]at hb;obtain⟨e,he,rfl⟩:=aDR.1 ha;have:=h5 e he;omega
  .intro e he;rcases aDB.1 he with he|he
   .have:=h5 e he;omega
   .simp only[aEE]at he;subst he;exact Nat.lt_succ_self c
  .intro y;rw[((qm hf).2 y).1];have:(es++[(I i,z,c)]).set es.length (I i,y,c)=es++[(I i,y,c)]:=by simp
   rw[this];exact h2.snoc i y c
 |some q=>
  obtain⟨j,u⟩:=q;obtain⟨m1,m2⟩:=uE hf;obtain⟨bn,he⟩:=h2.at m1;simp only[aED,aDx,Cn,he,wV];rw[show xG (I i) (I i)=true by simp[xG,Bz],aO,aDy rfl];refine⟨u,bn,.map (es.set j (I i,u,bn)) c,rfl,fin _ _ j bn u (by rw[List.getElem?_set_self (aDD.1 he).1]) ?_ ?_ ?_⟩
  .rw[yV (e':=(I i,u,bn)) he rfl];exact h4
  .intro e hm;rcases aFq hm with hm|rfl
   .exact h5 e hm
   .exact h5 (I i,u,bn) (aEm he)
  .intro y;rw[List.set_set,(m2 y).1];exact h2.set j i y bn
def pe {α β:Type}(f:α->β)(l:List α)(j:Nat):(l.eraseIdx j).map f=(l.map f).eraseIdx j:=by
 induction l generalizing j with
 |nil=>rfl
 |cons a l ih=>cases j with
  |zero=>rfl
  |succ j=>simp[ih]
def dt.delete {b:Nat}{m:MZ}(h:dt st b m)(i:Int):∃st',oL .int (.map b) (I i) st=.ok .undef st'/\(st'=st\/∃blk,st'=St.set st b blk)/\dt st' b (qp m i):=by
 have h0:=h;obtain⟨es,c,h1,h2,h3,h4,h5⟩:=h;unfold oL;rw[pL,aO,aDy rfl];simp only[h1,tq h2];cases hf:lK m i with
 |none=>exact⟨st,rfl,.inl rfl,by rw[((qm hf).2 .undef).2];exact h0⟩
 |some q=>
  obtain⟨j,u⟩:=q;obtain⟨m1,m2⟩:=uE hf;simp only[aED,aDx,GW];refine⟨St.set st b (.map (es.eraseIdx j) c),rfl,.inr ⟨_,rfl⟩,es.eraseIdx j,c,rq,?_,IJ h3 i,?_,?_⟩
  .rw[(m2 .undef).2];unfold cT at*;rw[pe,pe,h2]
  .rw[pe];exact h4.sublist (List.eraseIdx_sublist _ _)
  .intro e he;exact h5 e (List.mem_of_mem_eraseIdx he)
end
section
variable {α:Type}{L:List CV}{n:Nat}{st st':St}{v:CV}{k:Nat}{X:List Nat}{cap:Nat}{F:List Nat}{e:Nat}{x:CV}{l h:Nat}{z:List CV}{t:TypeId}{g:Bool}
def fB {L:List (List α)}{w:Nat}(h:∀x∈L,x.length=w):L.flatten.length=L.length*w:=by
 induction L with
 |nil=>simp
 |cons a L ih=>
  rw[aES,aDw,ih (λx hx=>h x (aDS _ hx)),h a (aEw ..),aDT,aEz,aFy,aGg]
def nE {L:List (List α)}{w:Nat}(h:∀x∈L,x.length=w)(i:Nat)(hi:i<=L.length):L.flatten.drop (i*w)=(L.drop i).flatten:=by
 induction L generalizing i with
 |nil=>simp
 |cons a L ih=>
  cases i with
  |zero=>simp
  |succ i=>
   rw[aES,aEz,aFy,List.drop_append,aEa (by rw[h a (aEw ..)];omega),aDV,h a (aEw ..),aEL,
    ih (λx hx=>h x (aDS _ hx)) i Wv]
   rfl
def nD {L:List (List α)}{w:Nat}(h:∀x∈L,x.length=w)(i:Nat)(hi:i<=L.length):L.flatten.take (i*w)=(L.take i).flatten:=by
 induction L generalizing i with
 |nil=>simp
 |cons a L ih=>
  cases i with
  |zero=>simp
  |succ i=>
   rw[aES,aEz,aFy,aFm,aDA (by rw[h a (aEw ..)];omega),h a (aEw ..),aEL,
    ih (λx hx=>h x (aDS _ hx)) i Wv]
   rfl
def so {L:List (List α)}{w:Nat}(h:∀x∈L,x.length=w)(i:Nat)(hi:i<L.length):(L.flatten.drop (i*w)).take w=L[i]:=by
 rw[nE h i (Nat.le_of_lt hi),aDN hi,aES,aFm,aDA (by rw[h _ (aDL ..)];omega),h _ (aDL ..)];simp
def Qo {L:List (List α)}{w:Nat}(h:∀x∈L,x.length=w)(i:Nat)(hi:i<L.length)(o n:Nat)(ho:o+n<=w):(L.flatten.drop (i*w+o)).take n=(L[i].drop o).take n:=by
 rw[<-so h i hi,aFi,aFR,aEH,aEi pX]
def Qp {L:List (List α)}{w:Nat}(h:∀x∈L,x.length=w)(i:Nat)(hi:i<L.length)(o:Nat)(ho:o<w):L.flatten[i*w+o]?=L[i][o]?:=by
 rw[<-so h i hi,aFe,aDy ho,aFD]
def xm {L:List (List CV)}{w:Nat}(h:∀x∈L,x.length=w)(i:Nat)(hi:i<L.length)(x:List CV)(hx:x.length=w):bo L.flatten (i*w) x=(L.set i x).flatten:=by
 unfold bo;rw[nD h i (Nat.le_of_lt hi),hx,show i*w+w=(i+1)*w by rw[aEz,aFy],nE h (i+1) hi,aFF,aDy hi];simp
def bK {body:List CV->St->(List CV->St->Prop)->Prop}(Inv:Nat->List CV->St->Prop)(step:∀n vs s k,Inv n vs s->(∀n' Bs s',n'<n->Inv n' Bs s'->k Bs s')->body vs s k){vs:List CV}{s:St}(h:Inv n vs s):db body vs s:=by
 have key:∀m n vs s,n<m->Inv n vs s->FL body m vs s:=by
  intro m
  induction m with
  |zero=>intro n vs s h;omega
  |succ m ih=>intro n vs s h hi;exact step n vs s _ hi λn' Bs s' hn ff=>ih n' Bs s' pX ff
 exact⟨n+1,key (n+1) n vs s pX h⟩
def Row (st:St)(v:CV)(k n:Nat)(L:List CV)(b:Nat):Prop:=
 ∃t g gr,v=.slice b 0 n n gr/\(gr=0\/gr=k)/\L.length=n*k/\st.m.g b=some (.cells L t g)
def Row.mono {b:Nat}(h:Row st v k n L b)(hk:st'.m.g b=st.m.g b):Row st' v k n L b:=by
 obtain⟨t,g,gr,h1,h2,h3,h4⟩:=h;exact⟨t,g,gr,h1,h2,h3,by rw[hk];exact h4⟩
def Row.sl {b:Nat}(h:Row st v k n L b)(hx:b∉X)(hb:b<st.nx):Sl st X v k L:=by
 obtain⟨t,g,gr,h1,h2,h3,h4⟩:=h;exact .inr ⟨b,0,n,n,gr,h1,h3,⟨aDt _,h2⟩,.inr ⟨hx,hb,L,t,g,h4,pX,Wu⟩⟩
def fU {size b off len grow:Nat}{i:Nat}(h:i<len)(hg:grow=0\/len<=cap)(st:St):cQ size (.slice b off len cap grow) (I i) st=.ok (.ptr b (off+i*size)) st:=by
 have hc:(Bool.and (Nat.ble (Nat.succ i) len) (Bool.or (Nat.beq grow 0) (Nat.ble len cap)))=true:=by
  simp only[aDK,aEu,aDW,aDZ];exact⟨pX,hg⟩
 show bz _ _ _=_;rw[aO,aDy hc];rfl
def Kp.get (h:Kp F st st'){b:Nat}{blk:qN}(hb:st.m.g b=some blk)(hl:b<st.nx:=by omega)(hn:b∉F:=by simp):st'.m.g b=some blk:=by rw[h.keep b hl hn];exact hb
def Own.keep {G:List Nat}(h:Own st v k e L G)(hk:Kp F st st')(hl:∀b∈G,b<st.nx/\b∉F):Own st' v k e L G:=
 h.mono λb hb=>hk.keep b (hl b hb).1 (hl b hb).2
def Made (k e:Nat)(L:List CV)(st:St)(x:CV)(st':St):Prop:=∃F,Kp [] st st'/\Own st' x k e L F/\∀b∈F,st.nx<=b/\b<st'.nx
def Made.sl (h:Made k e L st x st')(X:List Nat)(hX:∀b∈X,b<st.nx):Sl st' X x k L:=by
 obtain⟨F,h1,h2,h3⟩:=h;exact h2.sl λb hb=>⟨λh=>by have:=hX b h;have:=h3 b hb;omega,(h3 b hb).2⟩
def tx (n d cap:Nat):Eg (some (I n)) d cap=if n<=cap then some n else none:=by
 have e:Eg (some (I n)) d cap=bz (Nat.ble n cap) (some n) none:=rfl;rw[e,aO];simp only[aDW]
def pP (l h len cap:Nat):nw (some (I l)) (some (I h)) len cap=if l<=h/\h<=cap then some (l,h)else none:=by
 unfold nw;rw[tx]
 by_cases h1:h<=cap<;>by_cases h2:l<=h<;>simp[h1,h2,tx]
def yG (l len cap:Nat):nw (some (I l)) none len cap=if l<=len then some (l,len)else none:=by
 unfold nw;have e:Eg none len cap=some len:=rfl;rw[e]
 by_cases h2:l<=len<;>simp[h2,tx]
def tw (h len cap:Nat):nw none (some (I h)) len cap=if h<=cap then some (0,h)else none:=by
 unfold nw;have e:Eg none 0 h=some 0:=rfl
 by_cases h2:h<=cap<;>simp[h2,tx,e]
def jt {b off len grow:Nat}{lo hi:Option CV}(hb:nw lo hi len cap=some (l,h))(hc:len<=cap)(hg:grow=0\/grow=k):
 ∃dA,aN k (.slice b off len cap grow) lo hi st=.ok (.slice b dA (h-l) (cap-l) grow) st/\(dA=off+l*k\/(l=cap/\dA=off)):=by
 have e:aN k (.slice b off len cap grow) lo hi st=bz (Nat.ble len cap) (match nw lo hi len cap with
  |some (l,h)=>ot (Nat.sub h l) λn=>ot (Nat.sub cap l) λc=>
   bz (Bool.and (Nat.beq grow 0) (Nat.beq l cap)) (.ok (.slice b off n c grow) st) (ot (Nat.add off (Nat.mul l k)) λo=>bz (Bool.or (Nat.beq grow 0) (Nat.beq grow k)) (.ok (.slice b o n c grow) st) .bad)
  |none=>.bad) .bad:=rfl
 rw[e,hb];simp only[dH,aO,aDW,aDK,aEu,aDZ];rw[aDy hc]
 by_cases h1:grow=0/\l=cap
 .rw[aDy h1];exact⟨off,rfl,.inr ⟨h1.2,rfl⟩⟩
 .rw[aDv h1,aDy hg];exact⟨_,rfl,.inl rfl⟩
def Sl.part (hs:Sl st X v k L)(hk:0<k)(hn:L.length=n*k)(h1:l<=h)(h2:h<=n){lo hi:Option CV}(hb:∀cap,n<=cap->nw lo hi n cap=some (l,h))(Jd:n=0->nw lo hi 0 0=some (0,0))(s:St):
 ∃v',aN k v lo hi s=.ok v' s/\Sl st X v' k ((L.drop (l*k)).take ((h-l)*k)):=by
 rcases hs with⟨rfl,rfl⟩|⟨b,off,len,cap,grow,rfl,g2,g3,g4⟩
 .have:n=0:=by
   rcases Nat.mul_eq_zero.1 (show n*k=0 from adh)with h|h<;>omega
  refine⟨.ae,?_,.inl ⟨rfl,rq⟩⟩;show(match nw lo hi 0 0 with|some _=>OR.ok .ae s|none=>.bad)=_;rw[Jd this]
 .have:len=n:=aEx hk (by rw[<-g2,hn]);subst this;obtain⟨dA,e1,e2⟩:=jt (k:=k) (b:=b) (off:=off) (st:=s) (hb cap g3.1) g3.1 g3.2;have zV:l*k+(h-l)*k=h*k:=by rw[<-aEz];congr 1;omega
  have hhk:=aEj k h2;refine⟨_,e1,.inr ⟨b,dA,h-l,cap-l,grow,rfl,?_,⟨pX,g3.2⟩,?_⟩⟩
  .rw[aDF,aDO,hn];omega
  .by_cases h0:h-l=0
   .exact .inl h0
   .right;rcases g4 with g4|⟨g5,g6,c,t,g,g7,g8,g9⟩
    .omega
    .have e3:dA=off+l*k:=by rcases e2 with e2|⟨e2,_⟩;exact e2;omega
     subst e3;refine⟨g5,g6,c,t,g,g7,pX,?_⟩;rw[<-g9,aFi,aFR,aEH,aEi pX]
def Sl.lo (hs:Sl st X v k L)(hk:0<k)(hn:L.length=n*k)(h:l<=n)(s:St):∃v',aN k v (some (I l)) none s=.ok v' s/\Sl st X v' k (L.drop (l*k)):=by
 obtain⟨v',h1,h2⟩:=hs.part hk hn (l:=l) (h:=n) h (aDt _) (lo:=some (I l)) (hi:=none) (λcap hc=>by rw[yG,aDy h]) (λh0=>by rw[yG,aDy pX];congr 2;omega) s;refine⟨v',h1,?_⟩
 rwa [aDA (by rw[aDO,hn,Nat.sub_mul];exact aDt _)]at h2
def Sl.hi (hs:Sl st X v k L)(hk:0<k)(hn:L.length=n*k)(hh:h<=n)(s:St):∃v',aN k v none (some (I h)) s=.ok v' s/\Sl st X v' k (L.take (h*k)):=by
 obtain⟨v',h1,h2⟩:=hs.part hk hn (l:=0) (h:=h) (aFH _) hh (lo:=none) (hi:=some (I h)) (λcap hc=>acI) (λh0=>by rw[tw,aDy pX];congr 2;omega) s;exact⟨v',h1,WJ⟩
def Sl.both (hs:Sl st X v k L)(hk:0<k)(hn:L.length=n*k)(hl:l<=h)(hh:h<=n)(s:St):∃v',aN k v (some (I l)) (some (I h)) s=.ok v' s/\Sl st X v' k ((L.drop (l*k)).take ((h-l)*k)):=
 hs.part hk hn hl hh (λcap hc=>by rw[pP,aDy ⟨hl,pX⟩]) (λh0=>by rw[pP,aDy ⟨hl,pX⟩];congr 2<;>omega) s
def Sl.str {l:List UInt8}(hs:Sl st X v 1 (aj l)):dy .strOf v st=.ok (.str l) st:=by
 rcases hs with⟨rfl,h⟩|⟨b,off,len,cap,grow,rfl,g2,g3,g4⟩
 .have:l=[]:=by cases l with|nil=>rfl|cons a l=>cases h
  subst this;rfl
 .have uh:Sl st X (.slice b off len cap grow) 1 (aj l):=.inr ⟨b,off,len,cap,grow,rfl,g2,g3,g4⟩
  have e:dy .strOf (.slice b off len cap grow) st=(match dD 1 len (.slice b off len cap grow) st with
   |some t=>(match Hx t with|some l=>.ok (.str l) st|none=>.bad)
   |_=>.bad):=rfl
  rw[e,uh.cells.2];show(match Hx (l.map bP)with|some l=>OR.ok (.str l) st|none=>.bad)=_;rw[CF]
def Ar (hz:z.length=k)(hx:x.cA.length=k)(ha:x.isAny=false)(st:St):bO e 1 (cJ 1 z) [(0,k,x)] st=.ok (.slice st.nx 0 1 1 0) (St.new st (.cells x.cA e false)):=by
 have e1:gf [(0,k,x)] (cJ 1 z)=some x.cA:=by
  have:cJ 1 z=z:=by simp[cJ]
  rw[cq,aDy ⟨⟨hx,ha⟩,by rw[this];omega⟩,this];simp[bo,aEa (show z.length<=x.cA.length from pX)]
 unfold bO;rw[e1];rfl
def QX (bytes:Nat){K:CV->St->Prop}(h:Own st v k e L F)(hk:0<k)(hF:∀b∈F,b<st.nx)(hz:z.length=k)(hx:x.cA.length=k)(ha:x.isAny=false)(iY:aU x.cA=true)
 (hsz:(L.length+k)*(bytes+1)<=140737488355328) (hK:∀v' st' F',Own st' v' k e (L++x.cA) F'->Kp F st st'->(∀b∈F',(b∈F\/st.nx<=b)/\b<st'.nx)->K v' st'):
 upon (bO e 1 (cJ 1 z) [(0,k,x)] st) λx8 s3=>upon (bI e k bytes v (cW .slice k z x8 s3) s3) K:=by
 rw[Ar hz hx ha,aT];have nt:Kp F st (St.new st (.cells x.cA e false)):=(Kp.refl F st).new _;have h1:Own (St.new st (.cells x.cA e false)) v k e L F:=h.mono λb hb=>ba _ _ _ (hF b hb);have h2:=Fx (k:=k) (n:=1) (z:=z) (aw st (.cells x.cA e false)) pX pX;obtain⟨v',st',F',e1,e2,e3,e4⟩:=h1.append (n:=1) (bytes:=bytes) (T:=x.cA) hk pX iY (λb hb=>WN) (by rw[hx];exact hsz);rw[h2,e1,aT];refine hK v' st' F' e2 (nt.trans e3 adt) λb hb=>⟨(e4 b hb).1.imp id λh=>by simp at h;omega,(e4 b hb).2⟩
def lC {r:OR}{k k':CV->Prop}(h:us r k)(hk:∀v,k v->k' v):us r k':=by
 cases r with
 |ok v s=>exact hk v h
 |bad=>exact h
def iN {k:List CV->St->Prop}{body:(List CV->St->Prop)->Prop}(Inv:List CV->St->Prop)(h1:∀k',(∀vs s,Inv vs s->k' vs s)->body k')(h2:∀vs s,Inv vs s->k vs s):dL k body:=h1 k h2
def Sl.QO (h:Sl st X v k L)(hk:0<k)(n:Nat)(hn:L.length=n*k):dD k n v st=some L/\FP v=some n:=by
 rcases h with⟨rfl,rfl⟩|⟨b,off,len,cap,grow,rfl,g2,g3,g4⟩
 .have:n=0:=by
   rcases Nat.mul_eq_zero.1 (show n*k=0 from adh)with h|h<;>omega
  subst this;exact⟨rfl,rfl⟩
 .have:len=n:=aEx hk (by rw[<-g2,hn]);subst this;exact⟨(Sl.cells (.inr ⟨b,off,len,cap,grow,rfl,g2,g3,g4⟩)).2,rfl⟩
def OI {T:List CV}{b off:Nat}(h:Sl st X v 1 T)(hb:st.m.g b=some (.cells L t g))(hn:T.length<=n)(hl:off+T.length<=L.length)(ho:aU T=true):
 ∃st',gw false 1 (.slice b off n cap 0) v st=.ok (I T.length) st'/\st'.nx=st.nx/\st'.m.g b=some (.cells (bo L off T) t g)/\(∀q,q≠b->st'.m.g q=st.m.g q):=by
 obtain⟨h1,h2⟩:=h.QO pX T.length pX
 have e:gw false 1 (.slice b off n cap 0) v st=(match FP v with
  |some m=>(match cellsOf false 1 (min m n) v st with
   |some t=>bz (Nat.beq (min m n) 0) (yj .i64 st 0)
    (bz (Bool.and (aU t) (Bool.or (Nat.beq 0 0) (Nat.ble 1 cap)))
     (match st.m.g b with
     |some (.cells s ty g)=>Option.rec (Option.rec .bad (λs'=>yj .i64 ⟨st.m.put b (some (.cells s' ty g)),st.nx⟩ (min m n)) (Bj s off t (off+cap*0))) (λs'=>yj .i64 ⟨st.m.put b (some (.cells s' ty g)),st.nx⟩ (min m n)) (dU s off t)
     |_=>.bad) .bad)
   |none=>.bad)
  |none=>.bad):=by
  unfold gw;cases FP v<;>rfl
 rw[e,h2];dsimp only;rw[aEi hn];have e2:cellsOf false 1 T.length v st=some T:=h1;rw[e2];dsimp only;rw[ho,hb]
 by_cases h0:T.length=0
 .have:=aDP.1 h0;subst this;refine⟨st,rfl,rfl,?_,λq _=>rfl⟩;rw[hb];simp[bo]
 .have Jd:Nat.beq T.length 0=false:=by cases h:Nat.beq T.length 0 with|false=>rfl|true=>rw[aDZ]at h;omega
  rw[Jd];have e3:dU L off T=some (bo L off T):=by unfold dU;rw[aDy hl];rfl
  dsimp only;rw[e3];refine⟨St.set st b (.cells (bo L off T) t g),rfl,rfl,aq _ _ _,λq hq=>al _ _ _ _ hq⟩
def qj {b:Nat}(h1:l<=h)(h2:h<=n)(h3:l<n)(st:St):bR n 1 (.ptr b 0) (some (I l)) (some (I h)) st=.ok (.slice b l (h-l) (n-l) 0) st:=by
 have e:bR n 1 (.ptr b 0) (some (I l)) (some (I h)) st=(match nw (some (I l)) (some (I h)) n n with
  |some (l,h)=>ot (Nat.sub h l) λk=>ot (Nat.sub n l) λc=>bz (Nat.beq n l) (.ok (.slice b 0 k c 0) st) (ot (Nat.add 0 (Nat.mul l 1)) λo=>.ok (.slice b o k c 0) st)
  |none=>.bad):=rfl
 rw[e,pP,aDy ⟨h1,h2⟩];simp only[dH,aO,aDZ];rw[aDv pX];have:Nat.add 0 (Nat.mul l 1)=l:=rq
 rw[this];rfl
def jJ {b t:Nat}(h:st.m.g b=some (.cells z t g)):iW b z t st=.ok (.ptr b 0) st:=by
 unfold iW;rw[h];simp
def gM {b off:Nat}{l:List CV}(h:st.m.g b=some (.cells l t g))(hn:off+n<=l.length):aK n (.ptr b off) st=.ok (.agg ((l.drop off).take n)) st:=by
 have e:ia l off n=some ((l.drop off).take n):=by unfold ia;rw[aDy hn]
 unfold aK;simp only[h,e]
def aR {b:Nat}{l:List CV}(h:st.m.g b=some (.cells l t g))(hn:l.length=n):aK n (.ptr b 0) st=.ok (.agg l) st:=by
 rw[gM h pX,aDX,aDA pX]
end
def uv (n:Nat):List UInt8:=if 127<n then UInt8.ofNat (n%128+128)::uv (n/128)else [UInt8.ofNat n]
termination_by n
decreasing_by omega
def iB {n:Nat}(h:127<n):uv n=UInt8.ofNat (n%128+128)::uv (n/128):=by rw[uv,aDy h]
def jq {n:Nat}(h:n<=127):uv n=[UInt8.ofNat n]:=by rw[uv,aDv pX]
def jS (n:Nat)(h:n<=2147483647):1<=(uv n).length/\(uv n).length<=5:=by
 have key:∀k n,n<128^(k+1)->1<=(uv n).length/\(uv n).length<=k+1:=by
  intro k
  induction k with
  |zero=>intro n h;rw[jq pX];simp
  |succ k ih=>
   intro n h
   by_cases hn:127<n
   .rw[iB hn];have:=ih (n/128) (Nat.div_lt_of_lt_mul (by rw[aFY,aFs]at h;exact h));simp;omega
   .rw[jq pX];simp
 have:=key 4 n pX;omega
