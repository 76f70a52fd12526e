import Derived.Test.YtckodcbgpffimaaGreatDoorBtA
namespace Lim
open Go
noncomputable section
set_option linter.defProp false
section
variable {D:aX}{i:Nat}{s:kh}
structure Calm (D:aX):Prop where
 dead:D.dead=false
def Fl (kept:Nat->Bool)(w:ru):∀(W:δ ru) (i:Nat) (L:δ kh),ie kept i L (W++[w])=if kept (i+W.length)=θ then (ie kept i L W).set w.1 w.2 else ie kept i L W:=by
 intro W
 induction W with
 |nil=>intro i L;simp[ie]
 |cons v W a=>
  intro i L;simp only[ut,ie,lx];rw[a];rw[show i+1+W.length=i+(W.length+1) from J]
def aX.Jx (D:aX)(W:δ ru)(w:ru)(j:Nat)(D' a:aX)(e:D'.waits=W++[w])(d:D'.aB=D.aB)(c:a.waits=W)(b:a.aB=D.aB):D'.cur j=if j=w.1 then w.2 else a.cur j:=by
 unfold aX.cur;rw[e,c,zX]
 by_cases h:j=w.1
 .rw[gq J,gq h];simp
 .rw[B J,B h];cases hx:qi W (j:Int)with
  |none=>simp only[d,b]
  |some k=>
   have:=zm hx;simp only[aMM,Å this]
def settled (L:δ kh):∀(W:δ ru),(∀w∈W,w.1<L.length)->∀(D:aX),D.waits=W->D.aB=L->∀j,(ie (λ_=>true) 0 L W).getD j []=D.cur j:=by
 suffices key:∀a:δ ru,(∀w∈a.reverse,w.1<L.length)->∀(D:aX),D.waits=a.reverse->D.aB=L->∀j,(ie (λ_=>true) 0 L a.reverse).getD j []=D.cur j by
  intro W d D c b j;have:=key W.reverse (by rwa [aND]) D (by rwa [aND]) b j
  rwa [aND]at this
 intro a
 induction a with
 |nil=>
  intro _ D c b j;unfold aX.cur;rw[c,List.reverse_nil,wV,b];rfl
 |cons w a f=>
  intro d D c b j;rw[List.reverse_cons]at d c⊢;rw[Fl,gq rfl];have k:=f (λv e=>d v (by simp at e⊢;exact .inl e)) {D with waits:=a.reverse} rfl b j;rw[aX.Jx D a.reverse w j D {D with waits:=a.reverse} c rfl rfl rfl];have g:w.1<(ie (λ_=>true) 0 L a.reverse).length:=by rw[qI];exact d w V
  by_cases h:j=w.1
  .rw[gq h,h];simp[aMM,g]
  .rw[B h,<-k];simp only[aMM];rw[List.getElem?_set_ne (ny h)]
def aX.En (D:aX):Prop:=∀w∈D.waits,w.1<D.aB.length
structure lS (L:List kh)(W:List ru)(D':aX):Prop where
 dead:D'.dead=true
 waits:D'.waits=[]
 len:D'.aB.length=L.length
 cur:∀j,D'.cur j=L.getD j []\/∃w∈W,w.1=j/\D'.cur j=w.2
def HE (kept:Nat->Bool)(j:Nat):∀(W:δ ru) (i:Nat) (L:δ kh),(ie kept i L W).getD j []=L.getD j []\/∃w∈W,w.1=j/\(ie kept i L W).getD j []=w.2:=by
 intro W
 induction W with
 |nil=>intro i L;exact .inl rfl
 |cons w W b=>
  intro i L;simp only[ie];rcases b (i+1) (if kept i=θ then L.set w.1 w.2 else L)with h|⟨v,c,e,d⟩
  .rw[h]
   split
   .by_cases a:w.1=j
    .by_cases hl:j<L.length
     .right;refine⟨w,V,a,?_⟩;subst a;simp[aMM,hl]
     .left;rw[List.set_eq_of_length_le J]
    .left;simp only[aMM];rw[List.getElem?_set_ne a]
   .exact .inl rfl
  .exact .inr ⟨v,EQ _ c,e,d⟩
def pQ (h:D.waits=[])(j:Nat):D.cur j=D.aB.getD j []:=by unfold aX.cur;rw[h,wV]
def On (D:aX)(keep:δ Bool):lS D.aB D.waits (D.Ag keep):=by
 refine⟨rfl,rfl,qI ..,λj=>?_⟩;rw[pQ (D:=D.Ag keep) rfl];exact HE _ j D.waits 0 D.aB
def lS.more {L:δ kh}{W a:δ ru}{D':aX}(h:lS L W D')(b:∀w∈W,w∈a):lS L a D':=
 ⟨h.dead,h.waits,h.len,λj=>(h.cur j).imp id λ⟨w,h1,h2⟩=>⟨w,b w h1,h2⟩⟩
def Kl (h:Calm D)(hi:i<D.aB.length)(b:s.length=512):
 ((D.write i s).1=0/\D.write i s=(0,{D with waits:=D.waits++[(i,s)]}.tick))\/((D.write i s).1=20/\D.set=θ/\lS D.aB (D.waits++[(i,s)]) (D.write i s).2):=by
 have e:D.write i s=if D.out then (20,{D with waits:=D.waits++[(i,s)]}.Ag D.keep)else (0,{D with waits:=D.waits++[(i,s)]}.tick):=by
  unfold aX.write;rw[B (by rw[h.dead];decide),B (by rw[b];omega)];rfl
 rw[e]
 by_cases a:D.out
 .rw[gq a];exact .inr ⟨rfl,a.1,On {D with waits:=D.waits++[(i,s)]} D.keep⟩
 .rw[B a];exact .inl ⟨rfl,rfl⟩
def Calm.write (h:Calm D)(hi:i<D.aB.length)(c:s.length=512)(b:D.En):
 ((D.write i s).1=0/\Calm (D.write i s).2/\(D.write i s).2.aB=D.aB/\(D.write i s).2.En/\(D.write i s).2.waits=D.waits++[(i,s)]/\(∀j,(D.write i s).2.cur j=if j=i then s else D.cur j)/\(D.write i s).2.set=D.set)\/
 ((D.write i s).1=20/\D.set=θ/\lS D.aB (D.waits++[(i,s)]) (D.write i s).2):=by
 rcases Kl h hi c with⟨_,e⟩|d
 .left;rw[e];refine⟨rfl,⟨h.dead⟩,rfl,?_,rfl,λj=>?_,rfl⟩
  .intro w a;have a:w∈D.waits++[(i,s)]:=a;rcases lh.1 a with h1|h1
   .exact b w h1
   .have:w=(i,s):=by simpa using h1
    rw[this];exact hi
  .exact aX.Jx D D.waits (i,s) j _ D rfl rfl rfl rfl
 .exact .inr d
def Calm.flush (h:Calm D)(b:D.En):
 (D.flush.1=0/\Calm D.flush.2/\D.flush.2.aB.length=D.aB.length/\D.flush.2.waits=[]/\(∀j,D.flush.2.cur j=D.cur j)/\D.flush.2.set=D.set)\/(D.flush.1=20/\D.set=θ/\lS D.aB D.waits D.flush.2):=by
 have e:D.flush=if D.out then (20,D.Ag D.keep)else (0,(D.tick).settle λ_=>true):=by
  unfold aX.flush;rw[B (by rw[h.dead];decide)]
 rw[e]
 by_cases a:D.out
 .rw[gq a];exact .inr ⟨rfl,a.1,On D D.keep⟩
 .rw[B a];refine .inl ⟨rfl,⟨h.dead⟩,qI ..,rfl,λj=>?_,rfl⟩;rw[<-settled D.aB D.waits b D rfl rfl j]
  rfl
def Calm.read (h:Calm D)(hi:i<D.aB.length):D.read i=(0,D.cur i):=by
 unfold aX.read;rw[B (by rw[h.dead];decide),B J];rfl
def Calm.head (h:Calm D)(d:D.waits=[])(l:0<D.aB.length)(base:Nat):
 ((D.head base).1=0/\Calm (D.head base).2/\(D.head base).2.aB.length=D.aB.length/\(D.head base).2.waits=[]/\(∀j,(D.head base).2.cur j=if j=0 then dZ base else D.cur j)/\(D.head base).2.set=D.set)\/
 ((D.head base).1=20/\D.set=θ/\lS D.aB [(0,dZ base)] (D.head base).2):=by
 unfold aX.head;rcases h.write l (yz base) (by unfold aX.En;rw[d];simp)with⟨a,g,b,r,q,p,k⟩|⟨a,g,b⟩
 .have a:(D.write 0 (dZ base)).1=0:=a;rw[gq a];rcases g.flush r with⟨f,e,c,o,n,m⟩|⟨f,e,c⟩
  .exact .inl ⟨f,e,by rw[<-b];exact c,o,λj=>(n j).trans (p j),m.trans k⟩
  .refine .inr ⟨f,k.symm.trans e,?_⟩;rw[b,q,d]at c;exact c
 .have a:(D.write 0 (dZ base)).1=20:=a;rw[B (by rw[a];decide)];rw[d]at b;exact .inr ⟨a,g,b⟩
end
set_option maxRecDepth 100000
section
variable {Z Z':O} {p a:Nat} {lg:K} {M:cA} {bd bn bi bc:Nat} {F:δ Nat} {D:aX}
end
section
variable {P:Nat->Piece}{rec:δ Γ}{base:Nat}{rs:δ (δ Γ)}
def jX (P:Nat->Piece)(count:Nat):Nat->δ (δ Γ)->Nat->Prop
 |s,[],e=>e=s
 |s,rec::rs,e=>(∀i,i<bf rec.length->P ((s+1+i)%count)=cO rec s (bf rec.length) i)/\jX P count (s+bf rec.length) rs e
def l7 (n:Nat):0<bf n:=by unfold bf;split<;>omega
def Le (n:Nat):n<=bf n*501:=by unfold bf;split<;>omega
def wR {a b count:Nat}(h:a<b)(c:b-a<count):a%count≠b%count:=by
 intro e;have:=Nat.sub_mod_eq_zero_of_mod_eq e.symm;rw[QF c]at this;omega
def jX.le {count:Nat}:∀{rs:δ (δ Γ)} {s e:Nat},jX P count s rs e->s<=e/\(rs≠[]->s<e):=by
 intro rs
 induction rs with
 |nil=>intro s e h;have h:e=s:=h;subst h;exact⟨hI _,λh=>absurd rfl h⟩
 |cons rec rs a=>
  intro s e h;have h1:=(a h.2).1;have h2:=l7 rec.length;exact⟨J,λ_=>J⟩
def jX.congr {P':Nat->Piece}{count:Nat}:∀{rs:δ (δ Γ)} {s e:Nat},jX P count s rs e->(∀x,s<x->x<=e->P' (x%count)=P (x%count))->jX P' count s rs e:=by
 intro rs
 induction rs with
 |nil=>intro s e h _;exact h
 |cons rec rs d=>
  intro s e h c;have h1:=(jX.le h.2).1;exact⟨λi hi=>by rw[c _ J J];exact h.1 i hi,d h.2 λx a b=>c x J b⟩
def jX.snoc {count:Nat}:∀{rs:δ (δ Γ)} {s e:Nat},jX P count s rs e->(∀i,i<bf rec.length->P ((e+1+i)%count)=cO rec e (bf rec.length) i)->jX P count s (rs++[rec]) (e+bf rec.length):=by
 intro rs
 induction rs with
 |nil=>intro s e h hi;have h:e=s:=h;subst h;exact⟨hi,rfl⟩
 |cons r rs a=>intro s e h hi;exact⟨h.1,a h.2 hi⟩
def jX.YK {count:Nat}:∀{rs:δ (δ Γ)} {s e:Nat},jX P count s rs e->rs≠[]->(P (e%count)).n=e:=by
 intro rs
 induction rs with
 |nil=>intro s e h h2;exact absurd rfl h2
 |cons rec rs a=>
  intro s e h _;cases rs with
  |nil=>
   have b:e=s+bf rec.length:=h.2;have h2:=l7 rec.length;have:=h.1 (bf rec.length-1) J;rw[show s+1+(bf rec.length-1)=e from J]at this;rw[this];unfold cO;simp;omega
  |cons r rs=>exact a h.2 V
def HU {count:Nat}{s:Nat}(h:∀i,i<bf rec.length->P ((s+1+i)%count)=cO rec s (bf rec.length) i)(f last:Nat)(a:δ (δ Γ)):
 ∀j i,i+j=bf rec.length->0<j->jq P count (f+j) (s+i) (rec.take (i*501)) a last=jq P count f (s+bf rec.length) [] (a++[rec]) (s+bf rec.length):=by
 intro j
 induction j with
 |zero=>intro i _ m;omega
 |succ j c=>
  intro i hi _;have hp:=h i J;rw[show s+1+i=s+i+1 from J]at hp;have d:(P ((s+i+1)%count)).n=s+i+1:=by rw[hp];unfold cO;simp;omega
  have k:(P ((s+i+1)%count)).data=(rec.drop (i*501)).take 501:=by rw[hp];rfl
  have e:(P ((s+i+1)%count)).last=decide (i+1=bf rec.length):=by rw[hp];rfl
  have l:rec.take (i*501)++(rec.drop (i*501)).take 501=rec.take ((i+1)*501):=by
   rw[show(i+1)*501=i*501+501 by omega,List.take_add]
  rw[show f+(j+1)=(f+j)+1 from J,jq,gq d,e,k,l]
  by_cases he:i+1=bf rec.length
  .have g:j=0:=by omega
   subst g;have b:=Le rec.length;rw[gq õ,lw (by rw[he];exact b),show s+i+1=s+bf rec.length from J];rfl
  .rw[B õ,show s+i+1=s+(i+1) from J];exact c (i+1) J J
def RK {count:Nat}:∀{rs:δ (δ Γ)} {s e:Nat},jX P count s rs e->(P ((e+1)%count)).n≠e+1->∀(fuel:Nat) (a:δ (δ Γ)),e<=s+fuel->jq P count fuel s [] a s=(a++rs,e):=by
 intro rs
 induction rs with
 |nil=>
  intro s e h b fuel a d;have h:=h;subst h;cases fuel with
  |zero=>simp[jq]
  |succ f=>rw[jq,B b];simp
 |cons rec rs c=>
  intro s e h b fuel a d;have h1:=(jX.le h.2).1;have h2:=l7 rec.length;have:=HU h.1 (fuel-bf rec.length) s a (bf rec.length) 0 J h2;rw[show fuel-bf rec.length+bf rec.length=fuel from J]at this;simp only[rc,Nat.zero_mul,S6]at this;rw[this,c h.2 b _ _ J];simp
def rE (P:Nat->Piece)(count base:Nat):∀i k,i<=k->lu P count base i<=lu P count base k:=by
 intro i k
 induction k with
 |zero=>intro h;have:i=0:=by omega
        rw[this];exact hI _
 |succ k a=>
  intro h
  by_cases b:i=k+1
  .rw[b];exact hI _
  .have:=a J;simp only[lu]
   split<;>omega
def E5 {count e:Nat}(h:jX P count base rs e)(d:0<count)(a:∀j,j<count->(P j).n<=e):lu P count base count=e:=by
 have h1:=AA P count base e h.le.1 a count (hI _);refine Nat.le_antisymm h1 ?_;cases rs with
 |nil=>
  have c:=h;rw[c];exact rE P count base 0 count J
 |cons r rs=>
  have hl:=h.YK V;have b:=h.le.2 V;have f:e%count<count:=NO _ d;have h2:=rE P count base (e%count+1) count J
  have g:e<=lu P count base (e%count+1):=by
   simp only[lu];rw[gq ⟨by rw[hl];omega,by rw[hl]⟩,hl];omega
  omega
def xV (P:Nat->Piece)(count:Nat)(rec:δ Γ)(last:Nat):Nat->Nat->Piece
 |0=>P
 |k+1=>λj=>if j=(last+1+k)%count then cO rec last (bf rec.length) k else xV P count rec last k j
def KY {count:Nat}{last:Nat}(j:Nat):∀k,(∀i,i<k->j≠(last+1+i)%count)->xV P count rec last k j=P j:=by
 intro k
 induction k with
 |zero=>intro _;rfl
 |succ k a=>intro h;simp only[xV];rw[B (h k J)];exact a λi hi=>h i J
def Wd {count:Nat}{last:Nat}(k i:Nat)(hi:i<k)(b:k<=count):xV P count rec last k ((last+1+i)%count)=cO rec last (bf rec.length) i:=by
 induction k with
 |zero=>omega
 |succ k a=>
  simp only[xV]
  by_cases h:i=k
  .rw[gq (by rw[h]),h]
  .rw[B (wR J J)];exact a J J
def jX.put {count last:Nat}(h:jX P count base rs last)(b:bf rec.length+(last-base)<=count):jX (xV P count rec last (bf rec.length)) count base (rs++[rec]) (last+bf rec.length):=by
 have a:=h.le.1;refine(h.congr λx d c=>KY _ _ λi hi=>?_).snoc λi hi=>Wd _ i hi J;exact wR J J
def abp {count last:Nat}(h:∀j,j<count->(P j).n<=last):∀k,k<=bf rec.length->∀j,j<count->(xV P count rec last k j).n<=last+bf rec.length:=by
 intro k
 induction k with
 |zero=>intro _ j a;have:=h j a;simp only[xV];omega
 |succ k b=>
  intro c j a;simp only[xV]
  split
  .unfold cO;simp;omega
  .exact b J j a
end
abbrev fx:=Nat×kh
def TZ (e:fx):δ Γ:=uv e.1++(uv (mD e.2).length++mD e.2)
def eR (l:δ fx):δ Γ:=(l.map TZ).flatten
def HW (a b:δ fx):eR (a++b)=eR a++eR b:=by unfold eR;simp
def ON (l:δ Γ):mD l++List.replicate (l.length-(mD l).length) 0=l:=by
 have key:∀m:δ Γ,(m.dropWhile (λb=>b==0)).length<=m.length/\List.replicate (m.length-(m.dropWhile (λb=>b==0)).length) 0++m.dropWhile (λb=>b==0)=m:=by
  intro m
  induction m with
  |nil=>simp
  |cons b m c=>
   rw[List.dropWhile_cons]
   by_cases h:b=0
   .subst h;simp only[beq_self_eq_true,ix,lx];refine⟨J,?_⟩;rw[show m.length+1-(m.dropWhile (λb=>b==0)).length=(m.length-(m.dropWhile (λb=>b==0)).length)+1 from J,aNr,ut,c.2]
   .rw[B GU];simp
 have:=(key l.reverse).2;have h2:=congrArg List.reverse this;rw[List.reverse_append,aND,List.reverse_replicate,aNR]at h2;unfold mD;rw[aNR];exact h2
def DM (l:δ Γ):(mD l).length<=l.length:=by
 have:=congrArg List.length (ON l);rw[km,F0]at this;omega
def Bc (d:δ fx)(l:δ fx):δ fx:=l.foldl (λd e=>jr d e.1 e.2) d
def eU (d:δ fx)(Ls:δ (δ fx)):δ fx:=Ls.foldl Bc d
def xT (d:δ fx)(Ls:δ (δ fx))(l:δ fx):eU d (Ls++[l])=Bc (eU d Ls) l:=by unfold eU;rw[List.foldl_append];rfl
section
variable {Z Z':O} {p a:Nat} {lg:K} {M:cA} {bd bn bi bc:Nat} {F:δ Nat} {D:aX}
end
