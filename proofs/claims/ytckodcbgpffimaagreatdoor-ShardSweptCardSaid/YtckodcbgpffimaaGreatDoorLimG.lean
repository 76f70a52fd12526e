import Derived.Test.YtckodcbgpffimaaGreatDoorLimF
namespace Lim
open Go
noncomputable section
set_option linter.defProp false
section
variable {Z Z':O}{X:δ Nat}{v:K}{k:Nat}{L:δ K}{e:Nat}{F:δ Nat}
abbrev I (n:Int):K:=.int .i64 n
def al (l:δ Γ):δ K:=l.map bG
@[simp] def bP (l:δ Γ):(al l).length=l.length:=ZO
def Sl (Z:O)(X:δ Nat)(v:K)(k:Nat)(L:δ K):Prop:=
 (v=.ae/\L=[])\/
 ∃b off len cap grow,v=.slice b off len cap grow/\L.length=len*k/\(len<=cap/\(grow=0\/grow=k))/\
  (len=0\/(b∉X/\b<Z.nx/\∃l t g,Z.m.g b=Φ (.cells l t g)/\off+len*k<=l.length/\(l.drop off).take (len*k)=L))
def Sl.mono (h:Sl Z X v k L)(c:Kp X Z Z'):Sl Z' X v k L:=by
 rcases h with h|⟨b,off,len,cap,grow,o,n,m,a⟩
 .exact .inl h
 .refine .inr ⟨b,off,len,cap,grow,o,n,m,?_⟩;rcases a with a|⟨f,d,l,t,g,j,i⟩
  .exact .inl a
  .exact .inr ⟨f,ov d c.nx,l,t,g,by rw[c.keep b d f];exact j,i⟩
def Sl.fc {Y:δ Nat}(h:Sl Z X v k L)(c:∀q∈Y,q∈X\/Z.nx<=q):Sl Z Y v k L:=by
 rcases h with h|⟨b,off,len,cap,grow,m,l,j,a⟩
 .exact .inl h
 .refine .inr ⟨b,off,len,cap,grow,m,l,j,?_⟩;rcases a with a|⟨i,g,f⟩
  .exact .inl a
  .exact .inr ⟨λd=>by rcases c b d with h|h;exact i h;omega,g,f⟩
def Sl.len (h:Sl Z X v k L)(n:Nat)(hn:L.length=n*k)(a:0<k)(s:O):aY .slice v s=.ok (I n) s:=by
 rcases h with⟨rfl,rfl⟩|⟨b,off,len,cap,grow,rfl,c,_⟩
 .have:n=0:=by
   rcases Nat.mul_eq_zero.1 (show n*k=0 from afL)with h|h<;>omega
  subst this;rfl
 .have:len=n:=So a (by rw[<-c,hn]);subst this;rfl
def nh (k n b off len cap grow:Nat)(Z:O):dW k n (.slice b off len cap grow) Z=if n=0 then Φ []else if grow=0\/n<=len then (match Z.m.g b with|some (.cells s _ _)=>iv s off (n*k)|some (.ro s _)=>iv s off (n*k)|_=>ν)else ν:=by
 have e:dW k n (.slice b off len cap grow) Z=bF (Nat.beq n 0) (Φ []) (bF (Bool.or (Nat.beq grow 0) (Nat.ble n len)) (match Z.m.g b with|some (.cells s _ _)=>iv s off (n*k)|some (.ro s _)=>iv s off (n*k)|_=>ν) ν):=rfl;rw[e];simp only[aS,md,xF,nR]
def Sl.cells {b off len cap grow:Nat}(h:Sl Z X (.slice b off len cap grow) k L):L.length=len*k/\dW k len (.slice b off len cap grow) Z=Φ L:=by
 rcases h with⟨h,_⟩|⟨s,r,n,q,o,m,d,p,a⟩
 .cases h
 .cases m;refine⟨d,?_⟩;rw[nh]
  by_cases c:len=0
  .subst c;have:L=[]:=by apply sS.1;simpa using d
   subst this;rfl
  .rcases a with a|⟨_,_,l,t,g,j,i,f⟩
   .exact absurd a c
   .rw[B c,gq (.inr (hI _)),j];unfold iv;dsimp only;rw[gq i,f]
def Sl.src (h:Sl Z X v k L)(z:δ K):∃n,L.length=n*k/\cZ .slice k z v Z=Φ (n,L):=by
 have c:=h;rcases h with⟨rfl,rfl⟩|⟨b,off,len,cap,grow,rfl,a,f,d⟩
 .exact⟨0,V,rfl⟩
 .refine⟨len,a,?_⟩;have e:cZ .slice k z (.slice b off len cap grow) Z=(match dW k len (.slice b off len cap grow) Z with|some s=>Φ (len,s)|none=>ν):=rfl;rw[e,c.cells.2]
def Sl.idx (h:Sl Z X v 1 L){i:Nat}(hi:i<L.length)(k:K->Prop)(d:k L[i]):Lim.idx 1 v (I i) Z k:=by
 rcases h with⟨rfl,rfl⟩|⟨b,off,len,cap,grow,rfl,n,m,c⟩
 .simp at hi
 .have hl:L.length=len:=by simpa using n
  rcases c with c|⟨_,_,l,t,g,j,o,f⟩
  .omega
  .have hc:(Bool.and (Nat.ble (Nat.succ i) len) (Bool.or (Nat.beq grow 0) (Nat.ble len cap)))=θ:=by
    simp only[mZ,xF,nR,md];exact⟨J,.inr m.1⟩
   have e:de 1 (.slice b off len cap grow) (I i) Z=.ok (.ptr b (off+i*1)) Z:=by
    show bF _ _ _=_;rw[aS,gq hc];rfl
   unfold Lim.idx;rw[e];simp only[af,av,j,ak,Fi]
   have:l[off+i]?=Φ L[i]:=by
    have a:=f.symm;rw[li J]
    congr 1
    subst a;simp
   rw[this];exact d
def Own (Z:O)(v:K)(k e:Nat)(L:δ K)(F:δ Nat):Prop:=
 (v=.ae/\L=[]/\F=[])\/
 (∃b l t g,v=.slice b 0 0 0 0/\L=[]/\F=[b]/\Z.m.g b=Φ (.cells l t g))\/
 (∃b n,v=.slice b 0 n n k/\0<n/\L.length=n*k/\F=[b]/\Z.m.g b=Φ (.cells L e θ))
def Own.mono (h:Own Z v k e L F)(i:∀b∈F,Z'.m.g b=Z.m.g b):Own Z' v k e L F:=by
 rcases h with h|⟨b,l,t,g,f,d,c,a⟩|⟨b,n,f,d,c,a,j⟩
 .exact .inl h
 .exact .inr (.inl ⟨b,l,t,g,f,d,c,by rw[i b (by simp[c])];exact a⟩)
 .exact .inr (.inr ⟨b,n,f,d,c,a,by rw[i b (by simp[a])];exact j⟩)
def Own.sl (h:Own Z v k e L F)(f:∀b∈F,b∉X/\b<Z.nx):Sl Z X v k L:=by
 rcases h with⟨a,c,_⟩|⟨b,l,t,g,a,c,i,d⟩|⟨b,n,a,c,i,d,j⟩
 .exact .inl ⟨a,c⟩
 .exact .inr ⟨b,0,0,0,0,a,by simp[c],⟨hI _,.inl rfl⟩,.inl rfl⟩
 .exact .inr ⟨b,0,n,n,k,a,i,⟨hI _,.inr rfl⟩,.inr ⟨(f b (by simp[d])).1,(f b (by simp[d])).2,L,e,θ,j,J,QN⟩⟩
def Own.cI (h:Own Z v k e L F):cI v=θ/\v.bY=[v]:=by
 rcases h with⟨rfl,_⟩|⟨b,l,t,g,rfl,_⟩|⟨b,n,rfl,_⟩<;>exact⟨rfl,rfl⟩
def Own.append {n bytes:Nat}{T:δ K}(h:Own Z v k e L F)(hk:0<k)(hT:T.length=n*k)(o:bh T=θ)(f:∀b∈F,b<Z.nx)
 (p:(L.length+T.length)*(bytes+1)<=140737488355328):∃v' Z' F',bI e k bytes v (Φ (n,T)) Z=.ok v' Z'/\Own Z' v' k e (L++T) F'/\Kp F Z Z'/\(∀b∈F',(b∈F\/b=Z.nx)/\b<Z'.nx):=by
 have a:∀m,m*k<=L.length+T.length->m*bytes<=140737488355328/\m<=140737488355328:=by
  intro m a;have h1:=rx (by simpa using Nat.mul_le_mul_left m hk) a;have h2:m*bytes<=(L.length+T.length)*(bytes+1):=aOd h1 J;have c:=rx h1 (by simpa using Nat.mul_le_mul_left (L.length+T.length) (show 1<=bytes+1 from J));exact⟨J,J⟩
 by_cases i:n=0
 .subst i;have:T=[]:=by apply sS.1;simpa using hT
  subst this;rw[zo];refine⟨v,Z,F,?_,h,Kp.refl _ _,λb hb=>⟨.inl hb,f b hb⟩⟩;rcases h with⟨rfl,_⟩|⟨b,l,t,g,rfl,_⟩|⟨b,m,rfl,_⟩
  .rfl
  .rfl
  .show bF (Nat.beq 0 0) (bF (Nat.ble m m) _ _) _=_;rw[show Nat.ble m m=θ by rw[nR];exact hI _];rfl
 .have d:Nat.beq n 0=φ:=by cases h:Nat.beq n 0 with|false=>rfl|true=>rw[md]at h;exact absurd h i
  have j:Nat.ble 1 k=θ:=by rw[nR];exact hk
  rcases h with⟨rfl,rfl,rfl⟩|⟨b,l,t,g,rfl,rfl,rfl,x⟩|⟨b,m,rfl,h2,c,rfl,w⟩
  .obtain⟨q1,q2⟩:=a n (by simp[hT]);refine⟨.slice Z.nx 0 n n k,⟨Z.m.put Z.nx (Φ (.cells T e θ)),Z.nx+1⟩,[Z.nx],?_,?_,(Kp.refl [] Z).new _,λb hb=>⟨.inr ael,afC⟩⟩
   .show bF _ _ _=_;rw[d,j,show Nat.ble (Nat.mul n bytes) 140737488355328=θ by rw[nR];exact q1,show Nat.ble n 140737488355328=θ by rw[nR];exact q2];rfl
   .exact .inr (.inr ⟨Z.nx,n,rfl,J,aen,rfl,PT.du _ _ _⟩)
  .obtain⟨q1,q2⟩:=a n (by simp[hT]);refine⟨.slice Z.nx 0 n n k,⟨Z.m.put Z.nx (Φ (.cells T e θ)),Z.nx+1⟩,[Z.nx],?_,?_,(Kp.refl [b] Z).new _,λb hb=>⟨.inr ael,afC⟩⟩
   .unfold bI;simp only[d,aS,pi,ii,dR];have z:Nat.add 0 n=n:=oa n;rw[z,B ô,gq afA,x];simp[iv]
   .exact .inr (.inr ⟨Z.nx,n,rfl,J,aen,rfl,PT.du _ _ _⟩)
  .have s:=f b V;obtain⟨q1,q2⟩:=a (m+n) (by rw[tx,<-c,<-hT];exact hI _);refine⟨.slice Z.nx 0 (m+n) (m+n) k,⟨(Z.m.put b ν).put Z.nx (Φ (.cells (L++T) e θ)),Z.nx+1⟩,[Z.nx],?_,?_,?_,λb hb=>⟨.inr ael,afC⟩⟩
   .unfold bI;simp only[d,aS,pi,ii,dR];rw[show Nat.add m n=m+n from rfl,B ô,gq afA,w];have y:iv L 0 (m*k)=Φ L:=by unfold iv;rw[gq J,tu,lw J]
    dsimp only;rw[y];dsimp only;rw[B (by rw[md];omega),gq (by simp only[mZ,md,nR];exact⟨gt,gt,gt,o,h2⟩)]
   .exact .inr (.inr ⟨Z.nx,m+n,rfl,J,by rw[km,c,hT,tx],rfl,PT.du _ _ _⟩)
   .refine⟨V,λq h1 h2=>?_,λu q r=>?_⟩
    .show((Z.m.put b ν).put Z.nx _).g q=_;rw[PT.dy _ _ _ _ J,PT.dy _ _ _ _ Vl]
    .show((Z.m.put b ν).put Z.nx _).g q=_;simp only at r;rw[PT.dy _ _ _ _ J,PT.dy _ _ _ _ J];exact u q J
end
section
variable {i:Int}{j:Nat}{u:K}{es:δ fh}{Z Z':O}{e:fh}
abbrev MZ:=δ (Int×K)
def mH:MZ->Int->υ (Nat×K)
 |[],_=>ν
 |p::r,i=>if i=p.1 then Φ (0,p.2)else (mH r i).map λq=>(q.1+1,q.2)
def kz:MZ->Int->υ K
 |[],_=>ν
 |p::r,i=>if i=p.1 then Φ p.2 else kz r i
def oQ:MZ->Int->K->MZ
 |[],i,x=>[(i,x)]
 |p::r,i,x=>if i=p.1 then (i,x)::r else p::oQ r i x
def sR:MZ->Int->MZ
 |[],_=>[]
 |p::r,i=>if i=p.1 then r else p::sR r i
def Eb (m:MZ)(i:Int):kz m i=(mH m i).map (·.2):=by
 induction m with
 |nil=>rfl
 |cons p r a=>
  simp only[kz,mH]
  split
  .rfl
  .rw[a];cases mH r i<;>rfl
def Iw (m:MZ)(i j:Int)(x:K):kz (oQ m i x) j=if j=i then Φ x else kz m j:=by
 induction m with
 |nil=>simp[oQ,kz]
 |cons p r a=>
  simp only[oQ]
  split
  .rename_i h;subst h;simp only[kz];split<;>simp_all
  .rename_i h;simp only[kz,a]
   split
   .rename_i h2;subst h2;rw[B (λe=>h e.symm)]
   .rfl
def wS {m:MZ}(h:mH m i=Φ (j,u)):m[j]?=Φ (i,u)/\∀x,oQ m i x=m.set j (i,x)/\sR m i=m.eraseIdx j:=by
 induction m generalizing j with
 |nil=>cases h
 |cons p r b=>
  simp only[mH]at h
  split at h
  .rename_i e;cases h;subst e;exact⟨rfl,λx=>⟨by simp[oQ],by simp[sR]⟩⟩
  .rename_i e;cases hf:mH r i with
   |none=>rw[hf]at h;cases h
   |some q=>
    rw[hf]at h;obtain⟨f,d⟩:=q;cases h;obtain⟨c,a⟩:=b hf;exact⟨c,λx=>⟨by simp[oQ,e,(a x).1],by simp[sR,e,(a x).2]⟩⟩
def sQ {m:MZ}(h:mH m i=ν):i∉m.map (·.1)/\∀x,oQ m i x=m++[(i,x)]/\sR m i=m:=by
 induction m with
 |nil=>exact⟨V,λx=>⟨rfl,rfl⟩⟩
 |cons p r b=>
  simp only[mH]at h
  split at h
  .cases h
  .rename_i e;obtain⟨c,a⟩:=b (by cases hf:mH r i with|none=>rfl|some q=>rw[hf]at h;cases h);exact⟨by simp only[pw,ip,rt];exact⟨e,c⟩,λx=>⟨by simp[oQ,e,(a x).1],by simp[sR,e,(a x).2]⟩⟩
def qr {m:MZ}:i∈m.map (·.1)↔(kz m i).isSome=θ:=by
 induction m with
 |nil=>simp[kz]
 |cons p r a=>
  simp only[pw,ip,kz]
  split
  .rename_i e;simp[e]
  .rename_i e;rw[<-a];simp[e]
def qf {m:MZ}(h:(m.map (·.1)).Nodup)(i:Int)(x:K):((oQ m i x).map (·.1)).Nodup:=by
 induction m with
 |nil=>simp[oQ]
 |cons p r b=>
  simp only[oQ];simp only[pw,me]at h
  split
  .rename_i e;subst e;simpa using h
  .rename_i e;simp only[pw,me];refine⟨λa=>?_,b h.2⟩;rw[qr,Iw]at a
   split at a
   .rename_i e2;exact e e2.symm
   .exact h.1 (qr.2 a)
def Si {m:MZ}(h:(m.map (·.1)).Nodup)(i j:Int):kz (sR m i) j=if j=i then ν else kz m j:=by
 induction m with
 |nil=>simp[sR,kz]
 |cons p r a=>
  simp only[pw,me]at h;simp only[sR]
  split
  .rename_i e;subst e
   split
   .rename_i e2;subst e2;cases hg:kz r p.1 with
    |none=>rfl
    |some u=>exact absurd (qr.2 (by rw[hg];rfl)) h.1
   .rename_i e2;simp[kz,e2]
  .rename_i e;simp only[kz,a h.2]
   split
   .rename_i e2;subst e2;rw[B (λb=>e b.symm)]
   .rfl
def LJ {m:MZ}(h:(m.map (·.1)).Nodup)(i:Int):((sR m i).map (·.1)).Nodup:=by
 induction m with
 |nil=>exact h
 |cons p r b=>
  have c:=h;simp only[pw,me]at h;simp only[sR]
  split
  .exact h.2
  .rename_i e;simp only[pw,me];refine⟨λa=>?_,b h.2⟩;rw[qr,Si h.2]at a
   split at a
   .cases a
   .exact h.1 (qr.2 a)
def da (es:δ fh)(m:MZ):Prop:=es.map (λe=>(e.1,e.2.1))=m.map (λp=>(I p.1,p.2))
def vG {m:MZ}(h:da es m)(i:Int)(j:Nat):kT .int (I i) es j=Φ ((mH m i).map λq=>(j+q.1,q.2)):=by
 induction es generalizing m j with
 |nil=>cases m with
  |nil=>rfl
  |cons p r=>simp[da]at h
 |cons e es a=>
  cases m with
  |nil=>simp[da]at h
  |cons p r=>
   simp only[da,pw,IP,Ms]at h;obtain⟨⟨f,d⟩,c⟩:=h;have k:kT .int (I i) (e::es) j=Option.rec ν (λb=>bF b (Φ (Φ (j,e.2.1))) (kT .int (I i) es (Nat.succ j))) (mN .int (I i) e.1):=rfl;rw[k,f];have g:mN .int (I i) (I p.1)=Φ (decide (i=p.1)):=by simp[mN]
   rw[g];simp only[aS,ws,mH,a c (j+1),Nat.succ_eq_add_one]
   split
   .simp[d]
   .cases mH r i with
    |none=>rfl
    |some q=>simp only[AR];congr 3;omega
def vm (es:δ fh)(i:Nat)(e:fh):zT es i e=es.set i e:=by
 induction es generalizing i with
 |nil=>rfl
 |cons x r a=>cases i with
  |zero=>rfl
  |succ i=>show x::zT r i e=_;rw[a];rfl
def zz (es:δ fh)(i:Nat):ED es i=es[i]?:=by
 induction es generalizing i with
 |nil=>rfl
 |cons x r a=>cases i with
  |zero=>rfl
  |succ i=>show ED r i=_;rw[a];rfl
def Jv (es:δ fh)(i:Nat):Jw es i=es.eraseIdx i:=by
 induction es generalizing i with
 |nil=>rfl
 |cons x r a=>cases i with
  |zero=>rfl
  |succ i=>show x::Jw r i=_;rw[a];rfl
def rV (i:Int):tD .int (I i)=θ:=by simp[tD,abW,mN]
def ef (Z:O)(b:Nat)(m:MZ):Prop:=∃es c,Z.m.g b=Φ (.map es c)/\da es m/\(m.map (·.1)).Nodup/\(es.map (·.2.2)).Nodup/\∀e∈es,e.2.2<c
def IsMap (Z:O)(b:Nat)(m:MZ):Prop:=ef Z b m\/∃es,Z.m.g b=Φ (.lmap es)/\da es m/\(m.map (·.1)).Nodup
def ef.nd {b:Nat}{m:MZ}(h:ef Z b m):(m.map (·.1)).Nodup:=by obtain⟨es,c,_,_,h,_⟩:=h;exact h
def IsMap.nd {b:Nat}{m:MZ}(h:IsMap Z b m):(m.map (·.1)).Nodup:=by rcases h with h|⟨es,_,_,h⟩;exact h.nd;exact h
def ef.mono {b:Nat}{m:MZ}(h:ef Z b m)(a:Z'.m.g b=Z.m.g b):ef Z' b m:=by
 obtain⟨es,c,f,d⟩:=h;exact⟨es,c,by rw[a];exact f,d⟩
def IsMap.mono {b:Nat}{m:MZ}(h:IsMap Z b m)(a:Z'.m.g b=Z.m.g b):IsMap Z' b m:=by
 rcases h with h|⟨es,d,c⟩
 .exact .inl (h.mono a)
 .exact .inr ⟨es,by rw[a];exact d,c⟩
def ef.new (Z:O):ef (O.new Z (.map [] 0)) Z.nx []:=⟨[],0,V,rfl,V,V,V⟩
def IA {m:MZ}(h:da es m)(i:Int):yq i es=kz m i:=by
 induction es generalizing m with
 |nil=>cases m with
  |nil=>rfl
  |cons p r=>simp[da]at h
 |cons e es a=>
  cases m with
  |nil=>simp[da]at h
  |cons p r=>
   simp only[da,pw,IP,Ms]at h;obtain⟨⟨d,c⟩,b⟩:=h;have f:yq i (e::es)=bF (Gf i e.1) (Φ e.2.1) (yq i es):=rfl;rw[f,d,a b,c];simp only[Gf,aS,kz,ws]
def IsMap.lookup {b:Nat}{m:MZ}(h:IsMap Z b m)(z:K)(k:Bool)(i:Int)(s:O)(d:s.m.g b=Z.m.g b):jk .int z k (.map b) (I i) s=
 if k=θ then .ok (.tuple [(kz m i).getD z,.bool (kz m i).isSome]) s else .ok ((kz m i).getD z) s:=by
 unfold jk;rw[rV,aS,gq rfl];rcases h with⟨es,c,a,f,_⟩|⟨es,a,f,_⟩
 .have e1:qh (.map b) s=ν:=by simp[qh,d,a]
  have l:xp (.map b) s=Φ es:=by simp[xp,d,a]
  rw[e1,l];simp only[vG f,Eb];cases mH m i with
  |none=>simp
  |some q=>simp
 .have e1:qh (.map b) s=Φ es:=by simp[qh,d,a]
  rw[e1];simp only[xY,LV,IA f];cases kz m i with
  |none=>simp
  |some u=>simp
def da.len {m:MZ}(h:da es m):es.length=m.length:=by simpa using congrArg List.length h
def IsMap.len {b:Nat}{m:MZ}(h:IsMap Z b m):aY .map (.map b) Z=.ok (I m.length) Z:=by
 rcases h with⟨es,c,d,a,_⟩|⟨es,d,a,_⟩
 .simp[aY,d,a.len]
 .simp[aY,d,a.len]
def da.set {m:MZ}(h:da es m)(j:Nat)(i:Int)(x:K)(a:Nat):da (es.set j (I i,x,a)) (m.set j (i,x)):=by
 unfold da at*;rw[List.map_set,List.map_set,h]
def da.snoc {m:MZ}(h:da es m)(i:Int)(x:K)(a:Nat):da (es++[(I i,x,a)]) (m++[(i,x)]):=by
 unfold da at*;simp[h]
def da.at {m:MZ}(h:da es m)(b:m[j]?=Φ (i,u)):∃c,es[j]?=Φ (I i,u,c):=by
 have a:(es.map λe=>(e.1,e.2.1))[j]?=Φ (I i,u):=by rw[h,ul,b];rfl
 rw[ul]at a;cases he:es[j]? with
 |none=>rw[he]at a;cases a
 |some e=>
  rw[he]at a;simp only[AR,S2,Ms]at a;exact⟨e.2.2,by rw[<-a.1,<-a.2]⟩
def A2 {e':fh}(h:es[j]?=Φ e)(a:e'.2.2=e.2.2):(es.set j e').map (·.2.2)=es.map (·.2.2):=by
 rw[List.map_set];apply aNF;intro k;rw[List.getElem?_set]
 split
 .rename_i e1;subst e1;obtain⟨c,b⟩:=qo.1 h;simp[a,c,b]
 .rfl
def IsMap.update {b:Nat}{m:MZ}(h:IsMap Z b m)(i:Int)(x:K):∃blk,fe .int (.map b) (I i) x Z=.ok .undef (O.set Z b blk)/\IsMap (O.set Z b blk) b (oQ m i x)/\(ef Z b m->ef (O.set Z b blk) b (oQ m i x)):=by
 rcases h with⟨es,c,z,g,l,L,y⟩|⟨es,z,g,l⟩
 .have key:∃blk,fe .int (.map b) (I i) x Z=.ok .undef (O.set Z b blk)/\ef (O.set Z b blk) b (oQ m i x):=by
   unfold fe;rw[rV,aS,gq rfl];simp only[z,vG g];cases k:mH m i with
   |none=>
    simp only[Option.map_none,dR];refine⟨.map (es++[(I i,x,c)]) (c+1),rfl,es++[(I i,x,c)],c+1,V,?_,qf l i x,?_,?_⟩
    .rw[((sQ k).2 x).1];exact g.snoc i x c
    .rw[wd,zy];refine⟨L,V,λa ha b Y=>?_⟩;simp only[pw,List.map_nil,If]at Y;obtain⟨e,d,rfl⟩:=lm.1 ha;have:=y e d;omega
    .intro e d;rcases lh.1 d with d|d
     .have:=y e d;omega
     .simp only[If]at d;subst d;exact ã c
   |some q=>
    obtain⟨j,u⟩:=q;obtain⟨S,Q⟩:=wS k;obtain⟨v,d⟩:=g.at S;simp only[AR,oa,zz,d,vm];rw[show wi (I i) (I i)=θ by simp[wi,A5],aS,gq rfl];refine⟨.map (es.set j (I i,x,v)) c,rfl,es.set j (I i,x,v),c,V,?_,qf l i x,?_,?_⟩
    .rw[(Q x).1];exact g.set j i x v
    .rw[A2 (e':=(I i,x,v)) d rfl];exact L
    .intro e hm;rcases aNh hm with hm|rfl
     .exact y e hm
     .exact y (I i,u,v) (Do d)
  obtain⟨blk,T,H⟩:=key;exact⟨blk,T,.inl H,λ_=>H⟩
 .have G:¬ef Z b m:=λ⟨es',c,h,_⟩=>by rw[z]at h;cases h
  unfold fe;rw[rV,aS,gq rfl];simp only[z,Bi,LV,IA g]
  have N:∀(es:δ fh) (m:MZ),da es m->kz m i=ν->sU i x es=es:=by
   intro es
   induction es with
   |nil=>intro m _ _;rfl
   |cons e es D=>
    intro m h f;cases m with
    |nil=>simp[da]at h
    |cons p r=>
     simp only[da,pw,IP,Ms]at h;obtain⟨⟨n,M⟩,s⟩:=h;have C:sU i x (e::es)=bF (Gf i e.1) ((e.1,x,e.2.2)::sU i x es) (e::sU i x es):=rfl;simp only[kz]at f
     split at f
     .cases f
     .rename_i W;have o:Gf i e.1=φ:=by rw[n];simp[Gf,W]
      rw[C,o,D r s f];rfl
  have F:∀(es:δ fh) (m:MZ),da es m->(m.map (·.1)).Nodup->(kz m i).isSome=θ->da (sU i x es) (oQ m i x):=by
   intro es
   induction es with
   |nil=>intro m h w f;cases m with
    |nil=>cases f
    |cons p r=>simp[da]at h
   |cons e es D=>
    intro m h w f;cases m with
    |nil=>cases f
    |cons p r=>
     simp only[da,pw,IP,Ms]at h;obtain⟨⟨n,M⟩,s⟩:=h;simp only[pw,me]at w;have C:sU i x (e::es)=bF (Gf i e.1) ((e.1,x,e.2.2)::sU i x es) (e::sU i x es):=rfl
     by_cases hi:i=p.1
     .have o:Gf i e.1=θ:=by rw[n];simp[Gf,hi]
      have X:kz r i=ν:=by
       cases hg:kz r i with
       |none=>rfl
       |some u=>exact absurd (qr.2 (by rw[<-hi,hg];rfl)) w.1
      rw[C,o,N es r s X];simp only[aS,ix,oQ,gq hi,da,pw,IP,Ms];exact⟨⟨by rw[n,hi],gt⟩,s⟩
     .have o:Gf i e.1=φ:=by rw[n];simp[Gf,hi]
      have P:(kz r i).isSome=θ:=by simpa[kz,hi]using f
      rw[C,o];simp only[aS,pi,ii,oQ,B hi,da,pw,IP,Ms];exact⟨⟨n,M⟩,D r s w.2 P⟩
  cases hg:kz m i with
  |none=>
   have k:mH m i=ν:=by
    rw[Eb]at hg;cases k:mH m i with
    |none=>rfl
    |some q=>rw[k]at hg;cases hg
   refine⟨.lmap (es++[(I i,x,0)]),rfl,.inr ⟨es++[(I i,x,0)],V,?_,qf l i x⟩,λh=>absurd h G⟩;rw[((sQ k).2 x).1];exact g.snoc i x 0
  |some u=>exact⟨.lmap (sU i x es),rfl,.inr ⟨sU i x es,V,F es m g l (by rw[hg];rfl),qf l i x⟩,λh=>absurd h G⟩
def Qj (h:es[j]?=Φ e)(a:(es.map (·.2.2)).Nodup):∀k,uO e.2.2 es k=Φ (k+j,e):=by
 induction es generalizing j with
 |nil=>simp at h
 |cons x r c=>
  intro k;have f:uO e.2.2 (x::r) k=bF (Nat.beq x.2.2 e.2.2) (Φ (k,x)) (uO e.2.2 r (Nat.succ k)):=rfl;rw[f];simp only[aS,md];simp only[pw,me]at a;cases j with
  |zero=>simp at h;subst h;simp
  |succ j=>
   have b:r[j]?=Φ e:=GU
   rw[B (λd=>a.1 (lm.2 ⟨e,Do b,d.symm⟩)),c b a.2]
   congr 2
   show k+1+j=k+(j+1);omega
def ef.entry {b:Nat}{m:MZ}(h:ef Z b m)(z:K)(i:Int):∃v d blk,gp .int z (.map b) (I i) Z=.ok (.tuple [v,I d]) (O.set Z b blk)/\
 ∀y s,s.m.g b=Φ blk->∃l,eA (.map b) (I d) y s=.ok .undef (O.set s b l)/\ef (O.set s b l) b (oQ m i y):=by
 obtain⟨es,c,P,r,N,x,p⟩:=h;unfold gp;rw[rV,aS,gq rfl];simp only[P,vG r]
 have n:∀(es2:δ fh) (o j d:Nat) (u:K),es2[j]?=Φ (I i,u,d)->(es2.map (·.2.2)).Nodup->(∀e∈es2,e.2.2<o)->(∀y,da (es2.set j (I i,y,d)) (oQ m i y))->
  ∀y s,s.m.g b=Φ (.map es2 o)->∃l,eA (.map b) (I d) y s=.ok .undef (O.set s b l)/\ef (O.set s b l) b (oQ m i y):=by
  intro es2 o j d u w D C Q y s H;refine⟨.map (es2.set j (I i,y,d)) o,?_,es2.set j (I i,y,d),o,V,Q y,qf N i y,?_,?_⟩
  .have S:eA (.map b) (I d) y s=(match s.m.g b with
    |some (.map es clock)=>(match uO d es 0 with
     |some (i,(k,_,d))=>.ok .undef ⟨s.m.put b (Φ (.map (zT es i (k,y,d)) clock)),s.nx⟩
     |none=>.bad)
    |_=>.bad):=rfl
   rw[S,H];dsimp only;have:=Qj w D 0;dsimp only at this;rw[this];simp only[oa,vm]
   rfl
  .rw[A2 (e':=(I i,y,d)) w rfl];exact D
  .intro e f;rcases aNh f with f|rfl
   .exact C e f
   .exact C (I i,u,d) (Do w)
 cases hf:mH m i with
 |none=>
  simp only[Option.map_none,dR];refine⟨z,c,.map (es++[(I i,z,c)]) (c+1),rfl,n _ _ es.length c z V ?_ ?_ ?_⟩
  .rw[wd,zy];refine⟨x,V,λa M b L=>?_⟩;simp only[pw,List.map_nil,If]at L;obtain⟨e,f,rfl⟩:=lm.1 M;have:=p e f;omega
  .intro e f;rcases lh.1 f with f|f
   .have:=p e f;omega
   .simp only[If]at f;subst f;exact ã c
  .intro y;rw[((sQ hf).2 y).1];have:(es++[(I i,z,c)]).set es.length (I i,y,c)=es++[(I i,y,c)]:=by simp
   rw[this];exact r.snoc i y c
 |some q=>
  obtain⟨j,u⟩:=q;obtain⟨G,F⟩:=wS hf;obtain⟨d,f⟩:=r.at G;simp only[AR,oa,zz,f,vm];rw[show wi (I i) (I i)=θ by simp[wi,A5],aS,gq rfl];refine⟨u,d,.map (es.set j (I i,u,d)) c,rfl,n _ _ j d u (by rw[List.getElem?_set_self (qo.1 f).1]) ?_ ?_ ?_⟩
  .rw[A2 (e':=(I i,u,d)) f rfl];exact x
  .intro e hm;rcases aNh hm with hm|rfl
   .exact p e hm
   .exact p (I i,u,d) (Do f)
  .intro y;rw[List.set_set,(F y).1];exact r.set j i y d
def rp {b c:Type}(f:b->c)(l:δ b)(j:Nat):(l.eraseIdx j).map f=(l.map f).eraseIdx j:=by
 induction l generalizing j with
 |nil=>rfl
 |cons a l d=>cases j with
  |zero=>rfl
  |succ j=>simp[d]
def ef.delete {b:Nat}{m:MZ}(h:ef Z b m)(i:Int):∃Z',qM .int (.map b) (I i) Z=.ok .undef Z'/\(Z'=Z\/∃blk,Z'=O.set Z b blk)/\ef Z' b (sR m i):=by
 have n:=h;obtain⟨es,c,l,a,k,g,f⟩:=h;unfold qM;rw[rV,aS,gq rfl];simp only[l,vG a];cases hf:mH m i with
 |none=>exact⟨Z,rfl,.inl rfl,by rw[((sQ hf).2 .undef).2];exact n⟩
 |some q=>
  obtain⟨j,u⟩:=q;obtain⟨o,d⟩:=wS hf;simp only[AR,oa,Jv];refine⟨O.set Z b (.map (es.eraseIdx j) c),rfl,.inr ⟨_,rfl⟩,es.eraseIdx j,c,V,?_,LJ k i,?_,?_⟩
  .rw[(d .undef).2];unfold da at*;rw[rp,rp,a]
  .rw[rp];exact g.sublist (List.eraseIdx_sublist _ _)
  .intro e he;exact f e (List.mem_of_mem_eraseIdx he)
end
section
variable {α:Type}{L:δ K}{n:Nat}{Z Z':O}{v:K}{k cap:Nat}{F:δ Nat}{e:Nat}{x:K}{h:Nat}{X:δ Nat}{z:δ K}{t:TypeId}{g:Bool}
def dU {L:δ (δ α)}{w:Nat}(h:∀x∈L,x.length=w):L.flatten.length=L.length*w:=by
 induction L with
 |nil=>simp
 |cons a L b=>
  rw[YN,km,b (λx c=>h x (EQ _ c)),h a (zt ..),lx,tx,Li,æ]
def vz {L:δ (δ α)}{w:Nat}(h:∀x∈L,x.length=w)(i:Nat)(hi:i<=L.length):L.flatten.drop (i*w)=(L.drop i).flatten:=by
 induction L generalizing i with
 |nil=>simp
 |cons a L b=>
  cases i with
  |zero=>simp
  |succ i=>
   rw[YN,tx,Li,List.drop_append,ys (by rw[h a (zt ..)];omega),ow,h a (zt ..),Pi,
    b (λx c=>h x (EQ _ c)) i J9]
   rfl
def vy {L:δ (δ α)}{w:Nat}(h:∀x∈L,x.length=w)(i:Nat)(hi:i<=L.length):L.flatten.take (i*w)=(L.take i).flatten:=by
 induction L generalizing i with
 |nil=>simp
 |cons a L b=>
  cases i with
  |zero=>simp
  |succ i=>
   rw[YN,tx,Li,WF,lw (by rw[h a (zt ..)];omega),h a (zt ..),Pi,
    b (λx c=>h x (EQ _ c)) i J9]
   rfl
def uE {L:δ (δ α)}{w:Nat}(h:∀x∈L,x.length=w)(i:Nat)(hi:i<L.length):(L.flatten.drop (i*w)).take w=L[i]:=by
 rw[vz h i (Nat.le_of_lt hi),vT hi,YN,WF,lw (by rw[h _ (mp ..)];omega),h _ (mp ..)];simp
def TN {L:δ (δ α)}{w:Nat}(h:∀x∈L,x.length=w)(i:Nat)(hi:i<L.length)(o n:Nat)(a:o+n<=w):(L.flatten.drop (i*w+o)).take n=(L[i].drop o).take n:=by
 rw[<-uE h i hi,St,aOe,AQ,us J]
def TO {L:δ (δ α)}{w:Nat}(h:∀x∈L,x.length=w)(i:Nat)(hi:i<L.length)(o:Nat)(a:o<w):L.flatten[i*w+o]?=L[i][o]?:=by
 rw[<-uE h i hi,ý,gq a,aNS]
def zw {L:δ (δ K)}{w:Nat}(h:∀x∈L,x.length=w)(i:Nat)(hi:i<L.length)(x:δ K)(a:x.length=w):bC L.flatten (i*w) x=(L.set i x).flatten:=by
 unfold bC;rw[vy h i (Nat.le_of_lt hi),a,show i*w+w=(i+1)*w by rw[tx,Li],vz h (i+1) hi,aNx,gq hi];simp
def bD {b:δ K->O->(δ K->O->Prop)->Prop}(c:Nat->δ K->O->Prop)(step:∀n a s k,c n a s->(∀d f s',d<n->c d f s'->k f s')->b a s k){a:δ K}{s:O}(h:c n a s):cV b a s:=by
 have key:∀m n a s,n<m->c n a s->Ed b m a s:=by
  intro m
  induction m with
  |zero=>intro n a s h;omega
  |succ m i=>intro n a s h hi;exact step n a s _ hi λd f s' l j=>i d f s' J j
 exact⟨n+1,key (n+1) n a s J h⟩
def Row (Z:O)(v:K)(k n:Nat)(L:δ K)(b:Nat):Prop:=
 ∃t g gr,v=.slice b 0 n n gr/\(gr=0\/gr=k)/\L.length=n*k/\Z.m.g b=Φ (.cells L t g)
def Row.mono {b:Nat}(h:Row Z v k n L b)(a:Z'.m.g b=Z.m.g b):Row Z' v k n L b:=by
 obtain⟨t,g,gr,i,f,d,c⟩:=h;exact⟨t,g,gr,i,f,d,by rw[a];exact c⟩
def iq {size b off len grow:Nat}{i:Nat}(h:i<len)(a:grow=0\/len<=cap)(Z:O):de size (.slice b off len cap grow) (I i) Z=.ok (.ptr b (off+i*size)) Z:=by
 have c:(Bool.and (Nat.ble (Nat.succ i) len) (Bool.or (Nat.beq grow 0) (Nat.ble len cap)))=θ:=by
  simp only[mZ,xF,nR,md];exact⟨J,a⟩
 show bF _ _ _=_;rw[aS,gq c];rfl
def Own.keep {G:δ Nat}(h:Own Z v k e L G)(d:Kp F Z Z')(a:∀b∈G,b<Z.nx/\b∉F):Own Z' v k e L G:=
 h.mono λb c=>d.keep b (a b c).1 (a b c).2
def Made (k e:Nat)(L:δ K)(Z:O)(x:K)(Z':O):Prop:=∃F,Kp [] Z Z'/\Own Z' x k e L F/\∀b∈F,Z.nx<=b/\b<Z'.nx
def Made.sl (h:Made k e L Z x Z')(X:δ Nat)(d:∀b∈X,b<Z.nx):Sl Z' X x k L:=by
 obtain⟨F,i,f,c⟩:=h;exact f.sl λb a=>⟨λh=>by have:=d b h;have:=c b a;omega,(c b a).2⟩
def vK (n d cap:Nat):Dz (Φ (I n)) d cap=if n<=cap then Φ n else ν:=by
 have e:Dz (Φ (I n)) d cap=bF (Nat.ble n cap) (Φ n) ν:=rfl;rw[e,aS];simp only[nR]
def rY (l h len cap:Nat):pM (Φ (I l)) (Φ (I h)) len cap=if l<=h/\h<=cap then Φ (l,h)else ν:=by
 unfold pM;rw[vK]
 by_cases b:h<=cap<;>by_cases a:l<=h<;>simp[b,a,vK]
def vI (l len cap:Nat):pM (Φ (I l)) ν len cap=if l<=len then Φ (l,len)else ν:=by
 unfold pM;have e:Dz ν len cap=Φ len:=rfl;rw[e]
 by_cases a:l<=len<;>simp[a,vK]
def vJ (h len cap:Nat):pM ν (Φ (I h)) len cap=if h<=cap then Φ (0,h)else ν:=by
 unfold pM;have e:Dz ν 0 h=Φ 0:=rfl
 by_cases a:h<=cap<;>simp[a,vK,e]
def kL {b off len grow l:Nat}{lo hi:υ K}(j:pM lo hi len cap=Φ (l,h))(i:len<=cap)(f:grow=0\/grow=k):
 ∃d,aQ k (.slice b off len cap grow) lo hi Z=.ok (.slice b d (h-l) (cap-l) grow) Z/\(d=off+l*k\/(l=cap/\d=off)):=by
 have e:aQ k (.slice b off len cap grow) lo hi Z=bF (Nat.ble len cap) (match pM lo hi len cap with
  |some (l,h)=>qT (Nat.sub h l) λn=>qT (Nat.sub cap l) λc=>
   bF (Bool.and (Nat.beq grow 0) (Nat.beq l cap)) (.ok (.slice b off n c grow) Z) (qT (Nat.add off (Nat.mul l k)) λo=>bF (Bool.or (Nat.beq grow 0) (Nat.beq grow k)) (.ok (.slice b o n c grow) Z) .bad)
  |none=>.bad) .bad:=rfl
 rw[e,j];simp only[dR,aS,nR,mZ,xF,md];rw[gq i]
 by_cases a:grow=0/\l=cap
 .rw[gq a];exact⟨off,rfl,.inr ⟨a.2,rfl⟩⟩
 .rw[B a,gq f];exact⟨_,rfl,.inl rfl⟩
def Sl.part (j:Sl Z X v k L)(m:0<k)(hn:L.length=n*k){l:Nat}(I:l<=h)(q:h<=n){lo hi:υ K}(p:∀cap,n<=cap->pM lo hi n cap=Φ (l,h))(H:n=0->pM lo hi 0 0=Φ (0,0))(s:O):
 ∃v',aQ k v lo hi s=.ok v' s/\Sl Z X v' k ((L.drop (l*k)).take ((h-l)*k)):=by
 rcases j with⟨rfl,rfl⟩|⟨b,off,len,cap,grow,rfl,C,a,f⟩
 .have:n=0:=by
   rcases Nat.mul_eq_zero.1 (show n*k=0 from afL)with h|h<;>omega
  refine⟨.ae,?_,.inl ⟨rfl,V⟩⟩;show(match pM lo hi 0 0 with|some _=>OR.ok .ae s|none=>.bad)=_;rw[H this]
 .have:len=n:=So m (by rw[<-C,hn]);subst this;obtain⟨i,G,d⟩:=kL (k:=k) (b:=b) (off:=off) (Z:=s) (p cap a.1) a.1 a.2;have N:l*k+(h-l)*k=h*k:=by rw[<-tx];congr 1;omega
  have o:=zv k q;refine⟨_,G,.inr ⟨b,i,h-l,cap-l,grow,rfl,?_,⟨J,a.2⟩,?_⟩⟩
  .rw[pu,st,hn];omega
  .by_cases h0:h-l=0
   .exact .inl h0
   .right;rcases f with f|⟨y,w,c,t,g,u,M,r⟩
    .omega
    .have D:i=off+l*k:=by rcases d with d|⟨d,_⟩;exact d;omega
     subst D;refine⟨y,w,c,t,g,u,J,?_⟩;rw[<-r,St,aOe,AQ,us J]
def Sl.lo (b:Sl Z X v k L)(c:0<k)(a:L.length=n*k){l:Nat}(h:l<=n)(s:O):∃v',aQ k v (Φ (I l)) ν s=.ok v' s/\Sl Z X v' k (L.drop (l*k)):=by
 obtain⟨v',f,d⟩:=b.part c a (l:=l) (h:=n) h (hI _) (lo:=Φ (I l)) (hi:=ν) (λcap i=>by rw[vI,gq h]) (λj=>by rw[vI,gq J];congr 2;omega) s;refine⟨v',f,?_⟩
 rwa [lw (by rw[st,a,Nat.sub_mul];exact hI _)]at d
def Sl.hi (a:Sl Z X v k L)(c:0<k)(b:L.length=n*k)(hh:h<=n)(s:O):∃v',aQ k v ν (Φ (I h)) s=.ok v' s/\Sl Z X v' k (L.take (h*k)):=by
 obtain⟨v',d,h2⟩:=a.part c b (l:=0) (h:=h) (sw _) hh (lo:=ν) (hi:=Φ (I h)) (λcap f=>afD) (λi=>by rw[vJ,gq J];congr 2;omega) s;exact⟨v',d,Vl⟩
def Sl.both (b:Sl Z X v k L)(d:0<k)(c:L.length=n*k){l:Nat}(a:l<=h)(hh:h<=n)(s:O):∃v',aQ k v (Φ (I l)) (Φ (I h)) s=.ok v' s/\Sl Z X v' k ((L.drop (l*k)).take ((h-l)*k)):=
 b.part d c a hh (λcap f=>by rw[rY,gq ⟨a,J⟩]) (λi=>by rw[rY,gq ⟨a,J⟩];congr 2<;>omega) s
def Sl.str {l:δ Γ}(d:Sl Z X v 1 (al l)):cX .strOf v Z=.ok (.str l) Z:=by
 rcases d with⟨rfl,h⟩|⟨b,off,len,cap,grow,rfl,j,i,f⟩
 .have:l=[]:=by cases l with|nil=>rfl|cons a l=>cases h
  subst this;rfl
 .have c:Sl Z X (.slice b off len cap grow) 1 (al l):=.inr ⟨b,off,len,cap,grow,rfl,j,i,f⟩
  have e:cX .strOf (.slice b off len cap grow) Z=(match dW 1 len (.slice b off len cap grow) Z with
   |some t=>(match Ka t with|some l=>.ok (.str l) Z|none=>.bad)
   |_=>.bad):=rfl
  rw[e,c.cells.2];show(match Ka (l.map bG)with|some l=>OR.ok (.str l) Z|none=>.bad)=_;rw[EY]
def mO (d:z.length=k)(a:x.bY.length=k)(b:x.isAny=φ)(Z:O):bB e 1 (cr 1 z) [(0,k,x)] Z=.ok (.slice Z.nx 0 1 1 0) (O.new Z (.cells x.bY e φ)):=by
 have c:gY [(0,k,x)] (cr 1 z)=Φ x.bY:=by
  have:cr 1 z=z:=by simp[cr]
  rw[cW,gq ⟨⟨a,b⟩,by rw[this];omega⟩,this];simp[bC,ys (show z.length<=x.bY.length from J)]
 unfold bB;rw[c];rfl
def aeA (bytes:Nat){Kq0:K->O->Prop}(h:Own Z v k e L F)(o:0<k)(hF:∀b∈F,b<Z.nx)(m:z.length=k)(d:x.bY.length=k)(p:x.isAny=φ)(l:bh x.bY=θ)
 (a:(L.length+k)*(bytes+1)<=140737488355328) (q:∀v' Z' F',Own Z' v' k e (L++x.bY) F'->Kp F Z Z'->(∀b∈F',(b∈F\/Z.nx<=b)/\b<Z'.nx)->Kq0 v' Z'):
 E (bB e 1 (cr 1 z) [(0,k,x)] Z) λi c=>E (bI e k bytes v (cZ .slice k z i c) c) Kq0:=by
 rw[mO m d p,aP];have j:Kp F Z (O.new Z (.cells x.bY e φ)):=(Kp.refl F Z).new _;have r:Own (O.new Z (.cells x.bY e φ)) v k e L F:=h.mono λb hb=>bo _ _ _ (hF b hb);have h2:=wm (k:=k) (n:=1) (z:=z) (ay Z (.cells x.bY e φ)) J J;obtain⟨v',Z',F',w,u,s,f⟩:=r.append (n:=1) (bytes:=bytes) (T:=x.bY) o J l (λb hb=>aaz) (by rw[d];exact a);rw[h2,w,aP];refine q v' Z' F' u (j.trans s lk) λb hb=>⟨(f b hb).1.imp id λh=>by simp at h;omega,(f b hb).2⟩
def mC {r:OR}{k k':K->Prop}(h:U r k)(a:∀v,k v->k' v):U r k':=by
 cases r with
 |ok v s=>exact a v h
 |bad=>exact h
def iO {k:δ K->O->Prop}{body:(δ K->O->Prop)->Prop}(b:δ K->O->Prop)(d:∀k',(∀a s,b a s->k' a s)->body k')(c:∀a s,b a s->k a s):dp k body:=d k c
def Sl.Us (h:Sl Z X v k L)(c:0<k)(n:Nat)(hn:L.length=n*k):dW k n v Z=Φ L/\IB v=Φ n:=by
 rcases h with⟨rfl,rfl⟩|⟨b,off,len,cap,grow,rfl,a,f,d⟩
 .have:n=0:=by
   rcases Nat.mul_eq_zero.1 (show n*k=0 from afL)with h|h<;>omega
  subst this;exact⟨rfl,rfl⟩
 .have:len=n:=So c (by rw[<-a,hn]);subst this;exact⟨(Sl.cells (.inr ⟨b,off,len,cap,grow,rfl,a,f,d⟩)).2,rfl⟩
def R4 {T:δ K}{b off:Nat}(h:Sl Z X v 1 T)(a:Z.m.g b=Φ (.cells L t g))(f:T.length<=n)(i:off+T.length<=L.length)(d:bh T=θ):
 ∃Z',gL φ 1 (.slice b off n cap 0) v Z=.ok (I T.length) Z'/\Z'.nx=Z.nx/\Z'.m.g b=Φ (.cells (bC L off T) t g)/\(∀q,q≠b->Z'.m.g q=Z.m.g q):=by
 obtain⟨l,j⟩:=h.Us J T.length J
 have e:gL φ 1 (.slice b off n cap 0) v Z=(match IB v with
  |some m=>(match cellsOf φ 1 (min m n) v Z with
   |some t=>bF (Nat.beq (min m n) 0) (Ar .i64 Z 0)
    (bF (Bool.and (bh t) (Bool.or (Nat.beq 0 0) (Nat.ble 1 cap)))
     (match Z.m.g b with
     |some (.cells s ty g)=>Option.rec (Option.rec .bad (λs'=>Ar .i64 ⟨Z.m.put b (Φ (.cells s' ty g)),Z.nx⟩ (min m n)) (Du s off t (off+cap*0))) (λs'=>Ar .i64 ⟨Z.m.put b (Φ (.cells s' ty g)),Z.nx⟩ (min m n)) (eB s off t)
     |_=>.bad) .bad)
   |none=>.bad)
  |none=>.bad):=by
  unfold gL;cases IB v<;>rfl
 rw[e,j];dsimp only;rw[us f];have r:cellsOf φ 1 T.length v Z=Φ T:=l;rw[r];dsimp only;rw[d,a]
 by_cases o:T.length=0
 .have:=sS.1 o;subst this;refine⟨Z,rfl,rfl,?_,λq _=>rfl⟩;rw[a];simp[bC]
 .have u:Nat.beq T.length 0=φ:=by cases h:Nat.beq T.length 0 with|false=>rfl|true=>rw[md]at h;omega
  rw[u];have p:eB L off T=Φ (bC L off T):=by unfold eB;rw[gq i];rfl
  dsimp only;rw[p];refine⟨O.set Z b (.cells (bC L off T) t g),rfl,rfl,ao _ _ _,λq c=>ar _ _ _ _ c⟩
def xX {b l:Nat}(d:l<=h)(a:h<=n)(f:l<n)(Z:O):cD n 1 (.ptr b 0) (Φ (I l)) (Φ (I h)) Z=.ok (.slice b l (h-l) (n-l) 0) Z:=by
 have e:cD n 1 (.ptr b 0) (Φ (I l)) (Φ (I h)) Z=(match pM (Φ (I l)) (Φ (I h)) n n with
  |some (l,h)=>qT (Nat.sub h l) λk=>qT (Nat.sub n l) λc=>bF (Nat.beq n l) (.ok (.slice b 0 k c 0) Z) (qT (Nat.add 0 (Nat.mul l 1)) λo=>.ok (.slice b o k c 0) Z)
  |none=>.bad):=rfl
 rw[e,rY,gq ⟨d,a⟩];simp only[dR,aS,md];rw[B J];have:Nat.add 0 (Nat.mul l 1)=l:=V
 rw[this];rfl
def jZ {b t:Nat}(h:Z.m.g b=Φ (.cells z t g)):jL b z t Z=.ok (.ptr b 0) Z:=by
 unfold jL;rw[h];simp
def im {b off:Nat}{l:δ K}(h:Z.m.g b=Φ (.cells l t g))(a:off+n<=l.length):aF n (.ptr b off) Z=.ok (.agg ((l.drop off).take n)) Z:=by
 have e:iv l off n=Φ ((l.drop off).take n):=by unfold iv;rw[gq a]
 unfold aF;simp only[h,e]
def aG {b:Nat}{l:δ K}(h:Z.m.g b=Φ (.cells l t g))(a:l.length=n):aF n (.ptr b 0) Z=.ok (.agg l) Z:=by
 rw[im h J,tu,lw J]
end
def uv (n:Nat):δ Γ:=if 127<n then UInt8.ofNat (n%128+128)::uv (n/128)else [UInt8.ofNat n]
termination_by n
decreasing_by omega
def jI {n:Nat}(h:127<n):uv n=UInt8.ofNat (n%128+128)::uv (n/128):=by rw[uv,gq h]
def kH {n:Nat}(h:n<=127):uv n=[UInt8.ofNat n]:=by rw[uv,B J]
def gf (n:Nat)(h:n<=2147483647):1<=(uv n).length/\(uv n).length<=5:=by
 have key:∀k n,n<128^(k+1)->1<=(uv n).length/\(uv n).length<=k+1:=by
  intro k
  induction k with
  |zero=>intro n h;rw[kH J];simp
  |succ k a=>
   intro n h
   by_cases b:127<n
   .rw[jI b];have:=a (n/128) (Nat.div_lt_of_lt_mul (by rw[WP,LH]at h;exact h));simp;omega
   .rw[kH J];simp
 have:=key 4 n J;omega
