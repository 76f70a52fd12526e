import Derived.Test.YtckodcbgpffimaaGreatDoorSndC
namespace Lim
open Go Go.RowKit Go.Proofs
noncomputable section
set_option linter.defProp false
set_option maxRecDepth 100000
def CB:P0.follows .mixedOrders=θ:=uV
def ahA:aeO P0 224:=
 ⟨249,4,255,_,Tryz.underlying249,Tryz.sizeOf255,λargs w=>run_callFunc_extern Tryz.func224 uV uV uV (e:=Extern.SlicesOverlaps.overlaps #[249,249] #[4]) uV args w⟩
def ahz:aeO P0 276:=
 ⟨172,4,3,_,Tryz.underlying172,Tryz.sizeOf3,λargs w=>run_callFunc_extern Tryz.func276 uV uV uV (e:=Extern.SlicesOverlaps.overlaps #[172,172] #[4]) uV args w⟩
def JX:sn P0 I1:=by
 intro f args Z v Z' h;unfold I1 at h;simp only[aS,md]at h
 split at h
 .rename_i e;subst e;exact D9 ahA h
 .split at h
  .rename_i e;subst e;exact D9 ahz h
  .cases h
def vN {f:Nat}(b:f≠224)(a:f≠276)(args:δ K)(s:O):I1 f args s=ν:=by
 unfold I1;simp only[aS,md];rw[B b,B a]
def aeZ (args:δ K)(s:O)(x:K)(s':O)(h:YB args s=Φ (.ok x s'))(Q:K->O->Prop)(a:Q x s'):R1 224 args s Q:=JT (show I1 224 args s=Φ (.ok x s')from h) a
def aeY (args:δ K)(s:O)(x:K)(s':O)(h:YB args s=Φ (.ok x s'))(Q:K->O->Prop)(a:Q x s'):R1 276 args s Q:=JT (show I1 276 args s=Φ (.ok x s')from h) a
def ach:aeX 183 255 4:=λn i b vb L T s l k j g f e d c a m=>Cy (vN tW tW _ _) (by rw[YY];exact aie J J J rfl rfl l k j g f e d c a m)
def Xb:aeX 247 3 1:=λn i b vb L T s l k j g f e d c a m=>Cy (vN tW tW _ _) (by rw[SE];exact aie J J J rfl rfl l k j g f e d c a m)
def acg:aeW 183 255 4:=λn i b vb L T s k j g f e d c a l=>Cy (vN tW tW _ _) (by rw[YY];exact aid aeZ J J k j g f e d c a l)
def Xa:aeW 247 3 1:=λn i b vb L T s k j g f e d c a l=>Cy (vN tW tW _ _) (by rw[SE];exact aid aeY J J k j g f e d c a l)
def XZ:UX P0 188 512:=by
 refine⟨Tryz.f188,208,3,225,20,_,_,_,_,_,_,_,_,_,_,_,_,_,_,_,_,_,_,Tryz.func188,uV,rfl,tW,rfl,rfl,rfl,rfl,rfl,?_,⟨rfl,rfl⟩,⟨rfl,rfl⟩,⟨rfl,rfl⟩,⟨rfl,rfl⟩,⟨rfl,rfl⟩,⟨rfl,rfl⟩,⟨rfl,rfl⟩,⟨rfl,rfl⟩,⟨rfl,rfl⟩,⟨rfl,rfl⟩,⟨rfl,rfl⟩,⟨rfl,rfl⟩,⟨rfl,rfl⟩,⟨rfl,rfl⟩,Tryz.underlying208,uV,tW,uV,?_,Tryz.isAgg225⟩
 .intro o ho;simp only[ip,wn,PP]at ho;rcases ho with rfl|rfl|rfl|rfl|rfl|rfl|rfl|rfl|rfl|rfl|rfl|rfl|rfl|rfl<;>rfl
 .cases h:P0.info? 225 with
  |none=>exact absurd h (by have:(P0.info? 225).isSome=θ:=by kernel_rfl
                            intro e;rw[e]at this;cases this)
  |some i=>
   have c:(P0.info? 225).map (·.size)=Φ 512:=uV
   have a:(P0.info? 225).map (λi=>i.zero.map λz=>z.cells.size)=Φ (Φ 512):=uV
   rw[h]at c a;simp only[AR,S2]at c a;cases b:i.zero with
   |none=>rw[b]at a;cases a
   |some z=>
    rw[b]at a;simp only[AR,S2]at a;exact⟨i,z,rfl,b,c,a⟩
