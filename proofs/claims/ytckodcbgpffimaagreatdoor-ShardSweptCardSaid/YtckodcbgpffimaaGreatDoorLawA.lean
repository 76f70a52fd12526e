import Derived.Test.YtckodcbgpffimaaGreatDoorPagG
namespace Lim
open Go
noncomputable section
set_option linter.defProp false
set_option maxRecDepth 100000
def Wi (L:δ aT):∀x∈L.map bR,x.length=2:=by
 intro x a;obtain⟨c,_,rfl⟩:=lm.1 a;rfl
def aex (fr to:bS)(p:aT):Dy fr to p=(decide (lO fr p.1)&&(decide (to=[])||decide (eI p.1 to))):=by
 unfold Dy lO
 by_cases h:eI p.1 fr<;>simp[h]
def EB {a:Type}(L:δ a)(p q:a->Bool)(h:∀x,p x=θ->q x=θ->False):(L.filter p).length+(L.filter q).length<=L.length:=by
 induction L with
 |nil=>simp
 |cons x r c=>
  rw[Ep,Ep];cases hp:p x<;>cases b:q x
  .simp;omega
  .simp;omega
  .simp;omega
  .exact(h x hp b).elim
def RP (L:δ aT)(key:bS)(v:δ Γ):(oO L key v).length<=L.length+1:=by
 have:=EB L (λx=>decide (eI x.1 key)) (λx=>decide (eI key x.1)) λx h1 h2=>mc QM Vl;have e:oO L key v=L.filter (λx=>decide (eI x.1 key))++(key,v)::L.filter (λx=>decide (eI key x.1)):=rfl;rw[e,km,lx];exact Nat.succ_le_succ this
def Uj (L:δ aT)(key:bS):(mM L key).length<=L.length:=by
 have:=EB L (λx=>decide (eI x.1 key)) (λx=>decide (eI key x.1)) λx h1 h2=>mc QM Vl;have e:mM L key=L.filter (λx=>decide (eI x.1 key))++L.filter (λx=>decide (eI key x.1)):=rfl;rw[e,km];exact this
section
variable {τ:Nat} {π:PI} {Z Z':O} {L Lk:δ aT} {T N fr:Nat}
def r7.Bn (h:r7 τ π Z L Lk T N fr):∀b∈own τ π,b<Z.nx:=by
 obtain⟨⟨G,o,c,k,d,n,f,g⟩,j,i⟩:=h;intro b a;obtain⟨r,e,m,l⟩:=d.log;unfold own at a;rw[e]at a;rcases ip.1 a with h|h
 .rw[h];exact c.lt
 .rcases lh.1 h with h|h
  .have h:b=r:=by simpa using h
   omega
  .exact c.pg.lt b h
def aaT (h:r7 τ π Z L Lk T N fr):Rq0 130 [.ptr τ 0] Z λv Z'=>v=I fr/\Z'=Z:=by
 obtain⟨⟨G,i,a,f,d,g,b,rfl⟩,e,c⟩:=h;exact Ra a
def r7.off {X:δ Nat}(h:r7 τ π Z L Lk T N fr)(c:Kp X Z Z')(d:∀b∈own τ π,b∉X):r7 τ π Z' L Lk T N fr:=by
 have k:=h.Bn;obtain⟨⟨G,s,a,p,f,q,i,j⟩,n,l⟩:=h;obtain⟨ty,g,m⟩:=a.get;obtain⟨r,w,v,u⟩:=f.log;refine⟨⟨G,s,⟨a.pg.keep c λb o=>d b (vh o),ov a.lt c.nx,a.not,⟨ty,g,(c.keep τ a.lt (d τ (by simp[own]))).trans m⟩,c.fresh a.fr⟩,p,f.keep c λr' e=>d r' (by unfold own;rw[e];simp),q,i,j⟩,n,l⟩
def Made.fc {x:K}{ty:Nat}{l:δ K}{s s':O}(h:Made 2 ty l s x s'){X:δ Nat}(d:∀q∈X,q<s.nx):Kp [] s s'/\Sl s' X x 2 l:=by
 obtain⟨F,f,e,c⟩:=h;exact⟨f,e.sl λb a=>⟨λhh=>by have:=d b hh;have:=(c b a).1;omega,(c b a).2⟩⟩
end
