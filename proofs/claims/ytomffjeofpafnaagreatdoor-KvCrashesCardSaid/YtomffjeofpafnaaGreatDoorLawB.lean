import Derived.Test.YtomffjeofpafnaaGreatDoorLawA
namespace Lim
open Go
noncomputable section
set_option linter.defProp false
set_option maxRecDepth 100000
section
variable {st st':St}
def aeF (a:Int)(m:Nat)(k:0<m)(o:m<=100000):∃n:Nat,n<m/\∀(s:St) (K:CV->Prop),K (I n)->us (dw (.toInt .u64) (I a) s) λd=>us (aj .rem none true d (.int .u64 m) s) λc=>us (dw (.toInt .i64) c s) K:=by
 have g:0<=IntKind.u64.wrap a:=by rw[IntKind.wrap_u64];omega
 have f:(IntKind.u64.wrap a).tmod m=(IntKind.u64.wrap a)%m:=Int.tmod_eq_emod_of_nonneg g;have e:0<=(IntKind.u64.wrap a)%m:=Int.emod_nonneg _ uM;have l:(IntKind.u64.wrap a)%m<m:=Int.emod_lt_of_pos _ uM;refine⟨((IntKind.u64.wrap a)%m).toNat,uM,λst K b=>?_⟩;have j:dw (.toInt .u64) (I a) st=.ok (.int .u64 (IntKind.u64.wrap a)) st:=rfl;rw[j,af,av,Qa,aHM uM,af];have i:dw (.toInt .i64) (.int .u64 ((IntKind.u64.wrap a).tmod m)) st=.ok (.int .i64 (IntKind.i64.wrap ((IntKind.u64.wrap a).tmod m))) st:=rfl;rw[i,af,f,bA uM];rw[Int.toNat_of_nonneg e]at b;exact b
end
section
variable {st st':St}
def fC.sorted {G:GM}{L:List aW}(h:fC G L):fZ L:=by
 rcases h.tree with⟨_,rfl⟩|⟨hh,ps,_,a⟩
 .exact List.Pairwise.nil
 .exact a.facts.sorted
end
def pX.more {L:List aW}{N T g:Nat}{D:aU}(h:pX L N T D)(m:T<=g):pX L N g D:=by
 obtain⟨G,l,k,j,a,b,c,d,e,f,i,n⟩:=h;exact⟨G,l,k,j,a,b,c,d,e,f,i,uM⟩
section
variable {τ:Nat} {π:PI} {st st':St} {L Lk:List aW} {T N fr:Nat}
def gD.sR (h:gD τ π st L Lk T N fr):∀b∈own τ π,b<st.nx:=by
 obtain⟨⟨G,o,c,l,d,f,g,i⟩,k,j⟩:=h;intro b a;obtain⟨r,e,n,m⟩:=d.log;unfold own at a;rw[e]at a;rcases aHJ.1 a with h|h
 .rw[h];exact c.lt
 .rcases aHT.1 h with h|h
  .have h:b=r:=by simpa using h
   omega
  .exact c.pg.lt b h
def Pq (h:gD τ π st L Lk T N fr):R 17 [.ptr τ 0] st λv st'=>v=I fr/\st'=st:=by
 obtain⟨⟨G,i,a,g,e,b,c,rfl⟩,f,d⟩:=h;exact Pp a
def gD.off {X:List Nat}(h:gD τ π st L Lk T N fr)(c:Kp X st st')(d:∀b∈own τ π,b∉X):gD τ π st' L Lk T N fr:=by
 have i:=h.sR;have x:=λb f=>c.keep b (i b f) (d b f);obtain⟨⟨G,s,a,q,j,k,l,m⟩,p,n⟩:=h;obtain⟨ty,g,o⟩:=a.get;obtain⟨r,w,v,u⟩:=j.log;refine⟨⟨G,s,⟨a.pg.keep c λb f=>d b (kj f),aId a.lt c.nx,a.not,⟨ty,g,(c.keep τ a.lt (d τ (by simp[own]))).trans o⟩,c.fresh a.fr⟩,q,j.keep c λr' e=>d r' (by unfold own;rw[e];simp),k,l,m⟩,p,n⟩
end
def DB {a:Type}(L:List a)(p q:a->Bool)(h:∀x,p x=true->q x=true->False):(L.filter p).length+(L.filter q).length<=L.length:=by
 induction L with
 |nil=>simp
 |cons x r c=>
  rw[aJa,aJa];cases hp:p x<;>cases b:q x
  .simp;omega
  .simp;omega
  .simp;omega
  .exact(h x hp b).elim
def P4 (L:List aW)(a:bY)(v:List UInt8):(nt L a v).length<=L.length+1:=by
 have:=DB L (λx=>decide (dO x.1 a)) (λx=>decide (dO a x.1)) λx h1 h2=>ju aal abm;have e:nt L a v=L.filter (λx=>decide (dO x.1 a))++(a,v)::L.filter (λx=>decide (dO a x.1)):=rfl;rw[e,aHR,aIg];exact Nat.succ_le_succ this
def Sp (L:List aW)(a:bY):(pz L a).length<=L.length:=by
 have:=DB L (λx=>decide (dO x.1 a)) (λx=>decide (dO a x.1)) λx h1 h2=>ju aal abm;have e:pz L a=L.filter (λx=>decide (dO x.1 a))++L.filter (λx=>decide (dO a x.1)):=rfl;rw[e,aHR];exact this
section
variable {τ:Nat} {π:PI} {st st':St} {L Lk:List aW} {T N fr:Nat}
def Made.eH {x:CV}{ty:Nat}{l:List CV}{s s':St}(h:Made 2 ty l s x s'){X:List Nat}(d:∀q∈X,q<s.nx):Kp [] s s'/\Sl s' X x 2 l:=by
 obtain⟨F,f,e,c⟩:=h;exact⟨f,e.sl λb a=>⟨λhh=>by have:=d b hh;have:=(c b a).1;omega,(c b a).2⟩⟩
def Uf (h:gD τ π st L Lk T N fr):fZ L:=by
 obtain⟨⟨G,c,b,a,_⟩,_⟩:=h;exact a.sorted
end
