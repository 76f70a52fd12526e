import Derived.Test.YtomffjeofpafnaaGreatDoorBtA
namespace Lim
open Go
noncomputable section
set_option linter.defProp false
structure Calm (D:bf):Prop where
 dead:D.dead=false
 set:D.set=false
def DL (kept:Nat->Bool)(w:rU):∀(W:List rU) (i:Nat) (L:List jU),iv kept i L (W++[w])=if kept (i+W.length)=true then (iv kept i L W).set w.1 w.2 else iv kept i L W:=by
 intro W
 induction W with
 |nil=>intro i L;simp[iv]
 |cons v W ih=>
  intro i L;simp only[aFS,iv,aFp];rw[ih];rw[show i+1+W.length=i+(W.length+1) from qE]
def bf.HF (D:bf)(W:List rU)(w:rU)(j:Nat)(D' D'':bf)(h1:D'.waits=W++[w])(h2:D'.aA=D.aA)(h3:D''.waits=W)(h4:D''.aA=D.aA):D'.cur j=if j=w.1 then w.2 else D''.cur j:=by
 unfold bf.cur;rw[h1,h3,yp]
 by_cases h:j=w.1
 .rw[aEW qE,aEW h];simp
 .rw[aET qE,aET h];cases hx:oq W (j:Int)with
  |none=>simp only[h2,h4]
  |some k=>
   have:=xI hx;simp only[aHb,aGr this]
def settled (L:List jU):∀(W:List rU),(∀w∈W,w.1<L.length)->∀(D:bf),D.waits=W->D.aA=L->∀j,(iv (λ_=>true) 0 L W).getD j []=D.cur j:=by
 suffices key:∀V:List rU,(∀w∈V.reverse,w.1<L.length)->∀(D:bf),D.waits=V.reverse->D.aA=L->∀j,(iv (λ_=>true) 0 L V.reverse).getD j []=D.cur j by
  intro W hw D h1 h2 j;have:=key W.reverse (by rwa [aGG]) D (by rwa [aGG]) h2 j
  rwa [aGG]at this
 intro V
 induction V with
 |nil=>
  intro _ D h1 h2 j;unfold bf.cur;rw[h1,List.reverse_nil,Ar,h2];rfl
 |cons w V ih=>
  intro hw D h1 h2 j;rw[List.reverse_cons]at hw h1⊢;rw[DL,aEW rfl];have h3:=ih (λv hv=>hw v (by simp at hv⊢;exact .inl hv)) {D with waits:=V.reverse} rfl h2 j;rw[bf.HF D V.reverse w j D {D with waits:=V.reverse} h1 rfl rfl rfl];have hl:w.1<(iv (λ_=>true) 0 L V.reverse).length:=by rw[sC];exact hw w uG
  by_cases h:j=w.1
  .rw[aEW h,h];simp[aHb,hl]
  .rw[aET h,<-h3];simp only[aHb];rw[List.getElem?_set_ne (aFL h)]
def bf.AA (D:bf):Prop:=∀w∈D.waits,w.1<D.aA.length
def Calm.write {D:bf}(h:Calm D){i:Nat}{s:jU}(hi:i<D.aA.length)(hs:s.length=512)(hw:D.AA):
 (D.write i s).1=0/\Calm (D.write i s).2/\(D.write i s).2.aA=D.aA/\(D.write i s).2.AA/\(D.write i s).2.waits.length=D.waits.length+1/\∀j,(D.write i s).2.cur j=if j=i then s else D.cur j:=by
 have e:D.write i s=(0,{D with waits:=D.waits++[((i:Int).toNat,s)]}.tick):=by
  unfold bf.write;rw[aET (by rw[h.dead];decide),aET (by rw[hs];omega),aET (by unfold bf.out;rw[h.set];simp)]
 rw[e];refine⟨rfl,⟨h.dead,h.set⟩,rfl,?_,by simp[bf.tick],λj=>?_⟩
 .intro w Zq;have Zq:w∈D.waits++[((i:Int).toNat,s)]:=Zq;rcases aEY.1 Zq with h1|h1
  .exact hw w h1
  .have:w=((i:Int).toNat,s):=by simpa using h1
   rw[this];exact hi
 .exact bf.HF D D.waits (i,s) j _ D rfl rfl rfl rfl
def Calm.flush {D:bf}(h:Calm D)(hw:D.AA):
 D.flush.1=0/\Calm D.flush.2/\D.flush.2.aA.length=D.aA.length/\D.flush.2.waits=[]/\∀j,D.flush.2.cur j=D.cur j:=by
 have e:D.flush=(0,(D.tick).settle λ_=>true):=by
  unfold bf.flush;rw[aET (by rw[h.dead];decide),aET (by unfold bf.out;rw[h.set];simp)]
 rw[e];refine⟨rfl,⟨h.dead,h.set⟩,sC _ _ _ _,rfl,λj=>?_⟩;rw[<-settled D.aA D.waits hw D rfl rfl j]
 rfl
def Calm.read {D:bf}(h:Calm D){i:Nat}(hi:i<D.aA.length):D.read i=(0,D.cur i):=by
 unfold bf.read;rw[aET (by rw[h.dead];decide),aET qE];rfl
def Calm.head {D:bf}(h:Calm D)(hw:D.AA)(h0:0<D.aA.length)(base:Nat):
 (D.head base).1=0/\Calm (D.head base).2/\(D.head base).2.aA.length=D.aA.length/\(D.head base).2.waits=[]/\∀j,(D.head base).2.cur j=if j=0 then dD base else D.cur j:=by
 obtain⟨a1,a2,a3,a4,a5,a6⟩:=h.write h0 (rf base) hw;obtain⟨b1,b2,b3,b4,b5⟩:=a2.flush a4;have a1:(D.write 0 (dD base)).1=0:=a1;unfold bf.head;rw[aEW a1];exact⟨b1,b2,by rw[<-a3];exact b3,b4,λj=>(b5 j).trans (a6 j)⟩
set_option maxRecDepth 100000
def Pv {l:List Nat}{n:Nat}(h:n∉l):nj l n=l++[n]:=by
 induction l with
 |nil=>rfl
 |cons p r ih=>
  simp only[aEP,aGk]at h;simp only[nj,aET h.1,aFS];rw[ih h.2]
def bZ.clean (M:bZ)(m:j9)(idle:List Nat):bZ:={M with now:=[],count:=[],m:=m,kept:=m,idle:=idle}
section
variable {st st':St} {p a:Nat} {lg:CV} {M:bZ} {bd bn bi bc:Nat} {F:List Nat} {D:bf}
def HY (h:cP st p a lg M bd bn bi bc)(hd:dz st a F D)(rY:D.dead=false)(hF:∀b∈F,b≠p){m':j9}{frs:List Nat}
 (h0:({M with now:=[]}:bZ).get D 0=bR m') (hm:UI (bR m')=m') (Ns:M.first+M.aH<=D.aA.length) (oI:0<M.aH) (hhd:m'.head=frs.headD 0) (j0:∀n∈frs,0<n/\n<M.aH) (ja:frs.Nodup) (gG:OG {M with now:=[]} D frs):
 R 75 [.ptr p 0] st λv st'=>v=I 0/\Kp [p] st st'/\∃OC TJ TK,cP st' p a lg (M.clean m' frs) bd OC TJ TK/\∀b∈[OC,TJ,TK],st.nx<=b:=by
 refine bP ?_;rw[w75];have hsz:=(show D.aA.length<=65536 from by obtain⟨_,_,_,_,_,_,_,h⟩:=hd;exact h.size);rw[cD,af,ag,aET u7,iO,aS,iO,aS,iO,aS];have x1:(St.new st (.map [] 0)).nx=st.nx+1:=rfl;have x2:(St.new (St.new st (.map [] 0)) (.map [] 0)).nx=st.nx+2:=rfl;have x3:(St.new (St.new (St.new st (.map [] 0)) (.map [] 0)) (.map [] 0)).nx=st.nx+3:=rfl;rw[x1,x2];have k3:Kp [] st (St.new (St.new (St.new st (.map [] 0)) (.map [] 0)) (.map [] 0)):=(((Kp.refl [] st).new _).new _).new _;have m1:dy (St.new (St.new (St.new st (.map [] 0)) (.map [] 0)) (.map [] 0)) st.nx []:=(dy.new st).mono (by rw[bg _ _ _ vR,bg _ _ _ uG]);have m2:dy (St.new (St.new (St.new st (.map [] 0)) (.map [] 0)) (.map [] 0)) (st.nx+1) []:=(dy.new (St.new st (.map [] 0))).mono (by show(St.new _ _).m.g (st.nx+1)=_;rw[bg _ _ _ uG];rfl);have m3:dy (St.new (St.new (St.new st (.map [] 0)) (.map [] 0)) (.map [] 0)) (st.nx+2) []:=dy.new (St.new (St.new st (.map [] 0)) (.map [] 0));generalize St.new (St.new (St.new st (.map [] 0)) (.map [] 0)) (.map [] 0)=s3 at*;have hp3:=h.lt p uG;have aqi:=h.lt bd uG;have nd:=h.nd;simp only[aFd,aEP,aFy,aGt,aGk]at nd;have g3:=(k3.keep p hp3 uG).trans h.main;have qk:bD [.ptr a 0,lg,I M.first,I M.aH,.map bd,.map bn,I M.kept.root,I M.kept.used,I M.kept.head,I M.kept.free,I M.m.root,I M.m.used,I M.m.head,I M.m.free,.map bi,.map bc] 5 [.map st.nx]=[.ptr a 0,lg,I M.first,I M.aH,.map bd,.map st.nx,I M.kept.root,I M.kept.used,I M.kept.head,I M.kept.free,I M.m.root,I M.m.used,I M.m.head,I M.m.free,.map bi,.map bc]:=rfl
 have kx:bD [.ptr a 0,lg,I M.first,I M.aH,.map bd,.map st.nx,I M.kept.root,I M.kept.used,I M.kept.head,I M.kept.free,I M.m.root,I M.m.used,I M.m.head,I M.m.free,.map bi,.map bc] 15 [.map (st.nx+1)]=[.ptr a 0,lg,I M.first,I M.aH,.map bd,.map st.nx,I M.kept.root,I M.kept.used,I M.kept.head,I M.kept.free,I M.m.root,I M.m.used,I M.m.head,I M.m.free,.map bi,.map (st.nx+1)]:=rfl;have EB:bD [.ptr a 0,lg,I M.first,I M.aH,.map bd,.map st.nx,I M.kept.root,I M.kept.used,I M.kept.head,I M.kept.free,I M.m.root,I M.m.used,I M.m.head,I M.m.free,.map bi,.map (st.nx+1)] 14 [.map (st.nx+2)]=[.ptr a 0,lg,I M.first,I M.aH,.map bd,.map st.nx,I M.kept.root,I M.kept.used,I M.kept.head,I M.kept.free,I M.m.root,I M.m.used,I M.m.head,I M.m.free,.map (st.nx+2),.map (st.nx+1)]:=rfl
 have GU:∀{s:St} {l:List CV} {x:CV} {o:Nat} {K:St->Prop},s.m.g p=some (.cells l 158 false)->x.cN=[x]->cE x=true->o<l.length->K (St.set s p (.cells (bD l o [x]) 158 false))->oK 1 o (.ptr p 0) x s K:=by
  intro s l x o K hg h1 h2 h3 hK;simp only[oK,bF,ah,af,aJ,hg,aW,h1,aER];exact⟨⟨rfl,by simp[h2],h3⟩,hK⟩
 refine GU g3 rfl rfl (by decide:(5:Nat)<16) ?_;refine GU (ar _ _ _) rfl rfl (by rw[qk];exact(by decide:(15:Nat)<16)) ?_;rw[qk,set_set];refine GU (ar _ _ _) rfl rfl (by rw[kx];exact(by decide:(14:Nat)<16)) ?_;rw[kx,set_set,EB]
 have hP6:cP (St.set s3 p (.cells [.ptr a 0,lg,I M.first,I M.aH,.map bd,.map st.nx,I M.kept.root,I M.kept.used,I M.kept.head,I M.kept.free,I M.m.root,I M.m.used,I M.m.head,I M.m.free,.map (st.nx+2),.map (st.nx+1)] 158 false)) p a lg {M with now:=[],idle:=[],count:=[]} bd st.nx (st.nx+2) (st.nx+1):=
  ⟨ar _ _ _,h.dirty.mono ((al _ _ _ _ (aFL nd.1.1)).trans (k3.keep bd aqi uG)),m1.mono (al _ _ _ _ qE),m3.mono (al _ _ _ _ qE),m2.mono (al _ _ _ _ qE),by
   simp only[aFd,aEP,aFy,aGt,aGk];refine⟨⟨nd.1.1,qE,qE,qE⟩,⟨qE,qE,qE⟩,⟨qE,qE⟩,qE,not_false,aHo⟩,by
   intro b hb;simp at hb;show b<s3.nx;omega,h.lgs⟩
 have k6:Kp [p] st (St.set s3 p (.cells [.ptr a 0,lg,I M.first,I M.aH,.map bd,.map st.nx,I M.kept.root,I M.kept.used,I M.kept.head,I M.kept.free,I M.m.root,I M.m.used,I M.m.head,I M.m.free,.map (st.nx+2),.map (st.nx+1)] 158 false)):=(k3.mono uG).set _ (.inl uG) qE;have n6:(St.set s3 p (.cells [.ptr a 0,lg,I M.first,I M.aH,.map bd,.map st.nx,I M.kept.root,I M.kept.used,I M.kept.head,I M.kept.free,I M.m.root,I M.m.used,I M.m.head,I M.m.free,.map (st.nx+2),.map (st.nx+1)] 158 false)).nx=st.nx+3:=x3;generalize St.set s3 p (.cells [.ptr a 0,lg,I M.first,I M.aH,.map bd,.map st.nx,I M.kept.root,I M.kept.used,I M.kept.head,I M.kept.free,I M.m.root,I M.m.used,I M.m.head,I M.m.free,.map (st.nx+2),.map (st.nx+1)] 158 false)=s6 at*;have AP:=hd.keep k6 λb hb=>by simpa using hF b hb
 have uw:∀n,({M with now:=[],idle:=[],count:=[]}:bZ).get D n=({M with now:=[]}:bZ).get D n:=λn=>rfl;have h0':=gZ m';refine(zi hP6 AP rY (n:=0) (by show M.first+0<_;omega) (by rw[uw,h0];exact h0')).mono ?_;rintro _ s7 ⟨rfl,k7⟩;rw[aE,af,aN,aE,af,uw,h0];have Bs:(aj (bR m')).length=512:=by simpa using h0'
 refine lD Bs (bI _) ?_;have k9:=k7.page (aj (bR m'));have g9:(St.set (St.new s7 (.cells (zr 512) 173 false)) s7.nx (.cells (aj (bR m')) 173 false)).m.g s7.nx=some (.cells (aj (bR m')) 173 false):=ar _ _ _;generalize St.set (St.new s7 (.cells (zr 512) 173 false)) s7.nx (.cells (aj (bR m')) 173 false)=s9 at*;have e2:∀s,ai .neq (some .int) true (I 0) (.int .i64 0) s=.ok (.bool false) s:=λs=>rfl;rw[e2,af,ag,aET u7,aK (n:=512) g9 Bs,af];refine(adY h0').mono ?_;rintro _ s10 ⟨rfl,qh⟩;rw[hm];have Y8:=k9.trans qh uG;have yW:=hP6.keep Y8 uG;have Vz:=AP.keep Y8 uG;have aoC:=yW.main
 have Vm:∀{s:St} {x1 x2 x3 x4 y1 y2 y3 y4:CV} {K:St->Prop},s.m.g p=some (.cells [.ptr a 0,lg,I M.first,I M.aH,.map bd,.map st.nx,x1,x2,x3,x4,y1,y2,y3,y4,.map (st.nx+2),.map (st.nx+1)] 158 false)->K (St.set s p (.cells [.ptr a 0,lg,I M.first,I M.aH,.map bd,.map st.nx,x1,x2,x3,x4,I m'.root,I m'.used,I m'.head,I m'.free,.map (st.nx+2),.map (st.nx+1)] 158 false))->oK 4 10 (.ptr p 0) (.agg [I m'.root,I m'.used,I m'.head,I m'.free]) s K:=by
  intro s x1 x2 x3 x4 y1 y2 y3 y4 K hg hK;simp only[oK,bF,ah,af,aJ,hg,aW,aT,aER];exact⟨⟨rfl,rfl,uG⟩,hK⟩
 refine Vm aoC ?_;rw[show AV 4 10 (.ptr p 0) (St.set s10 p (.cells [.ptr a 0,lg,I M.first,I M.aH,.map bd,.map st.nx,I M.kept.root,I M.kept.used,I M.kept.head,I M.kept.free,I m'.root,I m'.used,I m'.head,I m'.free,.map (st.nx+2),.map (st.nx+1)] 158 false))=λK=>us (dP (.ptr p 0) (St.set s10 p (.cells [.ptr a 0,lg,I M.first,I M.aH,.map bd,.map st.nx,I M.kept.root,I M.kept.used,I M.kept.head,I M.kept.free,I m'.root,I m'.used,I m'.head,I m'.free,.map (st.nx+2),.map (st.nx+1)] 158 false))) λp'=>us (an 10 p' _) λa'=>us (aI 4 a' _) K from rfl];simp only[bF,af,ah,aER];rw[gF (n:=4) (ar _ _ _) uG,af]
 have afL:∀{s:St} {x1 x2 x3 x4 y1 y2 y3 y4:CV} {K:St->Prop},s.m.g p=some (.cells [.ptr a 0,lg,I M.first,I M.aH,.map bd,.map st.nx,x1,x2,x3,x4,y1,y2,y3,y4,.map (st.nx+2),.map (st.nx+1)] 158 false)->K (St.set s p (.cells [.ptr a 0,lg,I M.first,I M.aH,.map bd,.map st.nx,I m'.root,I m'.used,I m'.head,I m'.free,y1,y2,y3,y4,.map (st.nx+2),.map (st.nx+1)] 158 false))->oK 4 6 (.ptr p 0) (.agg [I m'.root,I m'.used,I m'.head,I m'.free]) s K:=by
  intro s x1 x2 x3 x4 y1 y2 y3 y4 K hg hK;simp only[oK,bF,ah,af,aJ,hg,aW,aT,aER];exact⟨⟨rfl,rfl,uG⟩,hK⟩
 refine afL (ar _ _ _) ?_;rw[set_set];have aod:=yW.lt p uG;have Y7:Kp [p] s6 (St.set s10 p (.cells [.ptr a 0,lg,I M.first,I M.aH,.map bd,.map st.nx,I m'.root,I m'.used,I m'.head,I m'.free,I m'.root,I m'.used,I m'.head,I m'.free,.map (st.nx+2),.map (st.nx+1)] 158 false)):=(Y8.mono uG).set _ (.inl uG) aod
 have Ka:cP (St.set s10 p (.cells [.ptr a 0,lg,I M.first,I M.aH,.map bd,.map st.nx,I m'.root,I m'.used,I m'.head,I m'.free,I m'.root,I m'.used,I m'.head,I m'.free,.map (st.nx+2),.map (st.nx+1)] 158 false)) p a lg (M.clean m' []) bd st.nx (st.nx+2) (st.nx+1):=by
  have nd6:=yW.nd;simp only[aFd,aEP,aFy,aGt,aGk]at nd6;exact⟨ar _ _ _,yW.dirty.mono (al _ _ _ _ (aFL nd6.1.1)),yW.now.mono (al _ _ _ _ (aFL nd6.1.2.1)),yW.idle.mono (al _ _ _ _ (aFL nd6.1.2.2.1)),yW.count.mono (al _ _ _ _ (aFL nd6.1.2.2.2)),yW.nd,yW.lt,h.lgs⟩
 generalize St.set s10 p (.cells [.ptr a 0,lg,I M.first,I M.aH,.map bd,.map st.nx,I m'.root,I m'.used,I m'.head,I m'.free,I m'.root,I m'.used,I m'.head,I m'.free,.map (st.nx+2),.map (st.nx+1)] 158 false)=bO at*;have Vy:=AP.keep Y7 λb hb=>by simpa using hF b hb
 have TL:=k6.trans Y7 uG;have Om:=Y7.nx;have Vi:=Ka.main;have Rz:∀done n,(M.clean m' done).get D n=({M with now:=[]}:bZ).get D n:=λdone n=>rfl;rw[cV];simp only[sY,bF,ah,af,aB,Vi,aq,aER,Nat.reduceAdd,aEN,aEL,ay,aL,aM];refine bN (λfu vs s=>∃done rest,done++rest=frs/\fu=rest.length/\vs=[.ptr p 0,I (rest.headD 0)]/\Kp [st.nx+2] bO s/\cP s p a lg (M.clean m' done) bd st.nx (st.nx+2) (st.nx+1)/\OG {M with now:=[]} D rest) ?_ (n:=frs.length) ⟨[],frs,rfl,rfl,by show [CV.ptr p 0,I m'.head]=_;rw[hhd],Kp.refl _ _,Ka,gG⟩;rintro fu vs s k ⟨done,rest,Rp,hfu,rfl,hk,hP,hrw⟩ next;simp only[aL,aM];have mr:=hk.nx;cases rest with
 |nil=>
  have e3:ai .neq (some .int) true (I (([]:List Nat).headD 0)) (.int .i64 0) s=.ok (.bool false) s:=rfl;rw[e3,af,ag,aET u7];rw[aFN]at Rp;subst Rp;exact⟨aer,TL.trans hk (by intro q hq;simp at hq;right;omega),st.nx,st.nx+2,st.nx+1,hP,by intro b hb;simp at hb;omega⟩
 |cons n r=>
  have hn:=j0 n (by rw[<-Rp];simp)
  have Vd:n∉done:=by
   intro hh;have:=ja;rw[<-Rp,aFM]at this;exact this.2.2 n hh n uG rfl
  have e3:ai .neq (some .int) true (I ((n::r).headD 0)) (.int .i64 0) s=.ok (.bool true) s:=by
   rw[az,fh];show OR.ok (.bool (!decide ((n:Int)=0))) s=_;rw[aEO qE];rfl
  have e4:ai .lss none true (I ((n::r).headD 0)) (.int .i64 0) s=.ok (.bool false) s:=by
   rw[az,c8];show OR.ok (.bool (decide ((n:Int)<0))) s=_;rw[aEO qE]
  have e5:ai .geq none false (I ((n::r).headD 0)) (I M.aH) s=.ok (.bool false) s:=by
   rw[az,sG];show OR.ok (.bool (decide ((M.aH:Int)<=(n:Int)))) s=_;rw[aEO qE]
  have CR:=hP.main;have hl:=IsMap.lookup (.inl hP.idle) (.bool false) false n s rfl;rw[aET u7,FP,aET (show¬n∈(M.clean m' done).idle from Vd)]at hl;simp only[Option.getD_none]at hl;have afz:s.m.g p=some (.cells [.ptr a 0,lg,I M.first,I M.aH,.map bd,.map st.nx,I m'.root,I m'.used,I m'.head,I m'.free,I m'.root,I m'.used,I m'.head,I m'.free,.map (st.nx+2),.map (st.nx+1)] 158 false):=CR;rw[e3,af,ag,aEW rfl,e4,af];simp only[aG,aEM,aFa,aFf,bh,af,j7,bF,ah,aB,afz,aq,aER,aEN,aEL,ay,e5,aF];rw[show gN .int (.bool false) false (.map (st.nx+2)) (I ((n::r).headD 0)) s=.ok (.bool false) s from hl,af];simp only[ag,aEM,aFa];obtain⟨blk,u1,u2,u3⟩:=IsMap.update (.inl hP.idle) n (.bool true);have u4:=u3 hP.idle;rw[zK,show(M.clean m' done).idle=done from rfl,Pv Vd]at u4;simp only[fB,bF,ah,af,aB,afz,aq,aER,aEN,aEL,ay];rw[show dO .int (.map (st.nx+2)) (I ((n::r).headD 0)) (.bool true) s=.ok .undef (St.set s (st.nx+2) blk)from u1,aS];have JV:=hP.lt (st.nx+2) uG;have rX:=hP.nd;simp only[aFd,aEP,aFy,aGt,aGk]at rX
  have uz:cP (St.set s (st.nx+2) blk) p a lg (M.clean m' (done++[n])) bd st.nx (st.nx+2) (st.nx+1):=
   ⟨(al _ _ _ _ rX.1.2.2.1).trans CR,hP.dirty.mono (al _ _ _ _ rX.2.1.2.1),hP.now.mono (al _ _ _ _ rX.2.2.1.1),u4,hP.count.mono (al _ _ _ _ (aFL rX.2.2.2.1)),hP.nd,hP.lt,h.lgs⟩
  have nz:Kp [st.nx+2] bO (St.set s (st.nx+2) blk):=hk.set _ (.inl uG) JV;generalize St.set s (st.nx+2) blk=gY at*;have hdF:∀b∈F,b∉[st.nx+2]:=λb hb=>by have:=hd.lt b hb;simp;omega
  have Nt:=Vy.keep nz hdF;have hlen:(fo (r.headD 0)).length=512:=sR _;refine(zi uz Nt rY (n:=n) (by show M.first+n<_;omega) (by rw[Rz,hrw.1];exact hlen)).mono ?_;rintro _ bU ⟨rfl,zn⟩;rw[aE,af,aN,aE,af,Rz,hrw.1];have aqu:(aj (fo (r.headD 0))).length=512:=by simpa using hlen
  refine lD aqu (bI _) ?_;have Oq:=zn.page (aj (fo (r.headD 0)));have VJ:(St.set (St.new bU (.cells (zr 512) 173 false)) bU.nx (.cells (aj (fo (r.headD 0))) 173 false)).m.g bU.nx=some (.cells (aj (fo (r.headD 0))) 173 false):=ar _ _ _;have n18:(St.set (St.new bU (.cells (zr 512) 173 false)) bU.nx (.cells (aj (fo (r.headD 0))) 173 false)).nx=bU.nx+1:=rfl;generalize St.set (St.new bU (.cells (zr 512) 173 false)) bU.nx (.cells (aj (fo (r.headD 0))) 173 false)=dp at*;have Bq:bY 512 1 (.ptr bU.nx 0) none (some (.int .i64 4)) dp=.ok (.slice bU.nx 0 4 512 0) dp:=rfl;rw[e2,af,ag,aET u7,Bq,af];have BO:aj ((fo (r.headD 0)).take 4)=(aj (fo (r.headD 0))).take 4:=abK
  have lq:Sl dp [] (.slice bU.nx 0 4 512 0) 1 (aj ((fo (r.headD 0)).take 4)):=.inr ⟨bU.nx,0,4,512,0,rfl,by rw[BO,aFc];omega,⟨qE,.inl rfl⟩,.inr ⟨uG,qE,_,_,_,VJ,qE,by rw[aFr,BO]⟩⟩;have hl4:((fo (r.headD 0)).take 4).length<=4:=O0
  refine(tJ lq qE (ub _ hl4)).same ?_
  have Fe:r.headD 0<2147483648:=by
   cases r with
   |nil=>simp
   |cons x r=>have:=j0 x (by rw[<-Rp];simp);simp;omega
  rw[yA Fe];refine next r.length _ _ (by rw[hfu];simp) ⟨done++[n],r,by rw[<-Rp];simp,rfl,rfl,nz.trans Oq uG,uz.keep Oq uG,hrw.2⟩
end
section
variable {P:Nat->Piece}{rec:List UInt8}{base:Nat}{rs:List (List UInt8)}{last:Nat}
def kG (P:Nat->Piece)(count:Nat):Nat->List (List UInt8)->Nat->Prop
 |s,[],e=>e=s
 |s,rec::rs,e=>(∀i,i<bt rec.length->P ((s+1+i)%count)=db rec s (bt rec.length) i)/\kG P count (s+bt rec.length) rs e
def oY (n:Nat):0<bt n:=by unfold bt;split<;>omega
def Jp (n:Nat):n<=bt n*501:=by unfold bt;split<;>omega
def Qv {a b count:Nat}(h:a<b)(h2:b-a<count):a%count≠b%count:=by
 intro e;have:=Nat.sub_mod_eq_zero_of_mod_eq e.symm;rw[aGz h2]at this;omega
def kG.le {count:Nat}:∀{rs:List (List UInt8)} {s e:Nat},kG P count s rs e->s<=e/\(rs≠[]->s<e):=by
 intro rs
 induction rs with
 |nil=>intro s e h;have h:e=s:=h;subst h;exact⟨aEQ _,λh=>absurd rfl h⟩
 |cons rec rs ih=>
  intro s e h;have h1:=(ih h.2).1;have h2:=oY rec.length;exact⟨qE,λ_=>qE⟩
def kG.congr {P':Nat->Piece}{count:Nat}:∀{rs:List (List UInt8)} {s e:Nat},kG P count s rs e->(∀x,s<x->x<=e->P' (x%count)=P (x%count))->kG P' count s rs e:=by
 intro rs
 induction rs with
 |nil=>intro s e h _;exact h
 |cons rec rs ih=>
  intro s e h hx;have h1:=(kG.le h.2).1;exact⟨λi hi=>by rw[hx _ qE qE];exact h.1 i hi,ih h.2 λx a b=>hx x qE b⟩
def kG.snoc {count:Nat}:∀{rs:List (List UInt8)} {s e:Nat},kG P count s rs e->(∀i,i<bt rec.length->P ((e+1+i)%count)=db rec e (bt rec.length) i)->kG P count s (rs++[rec]) (e+bt rec.length):=by
 intro rs
 induction rs with
 |nil=>intro s e h hi;have h:e=s:=h;subst h;exact⟨hi,rfl⟩
 |cons r rs ih=>intro s e h hi;exact⟨h.1,ih h.2 hi⟩
def kG.aej {count:Nat}:∀{rs:List (List UInt8)} {s e:Nat},kG P count s rs e->rs≠[]->(P (e%count)).n=e:=by
 intro rs
 induction rs with
 |nil=>intro s e h h2;exact absurd rfl h2
 |cons rec rs ih=>
  intro s e h _;cases rs with
  |nil=>
   have he:e=s+bt rec.length:=h.2;have h2:=oY rec.length;have:=h.1 (bt rec.length-1) qE;rw[show s+1+(bt rec.length-1)=e from qE]at this;rw[this];unfold db;simp;omega
  |cons r rs=>exact ih h.2 uG
def PU {count:Nat}{s:Nat}(h:∀i,i<bt rec.length->P ((s+1+i)%count)=db rec s (bt rec.length) i)(f last:Nat)(out:List (List UInt8)):
 ∀j i,i+j=bt rec.length->0<j->mZ P count (f+j) (s+i) (rec.take (i*501)) out last=mZ P count f (s+bt rec.length) [] (out++[rec]) (s+bt rec.length):=by
 intro j
 induction j with
 |zero=>intro i _ h0;omega
 |succ j ih=>
  intro i hi _;have hp:=h i qE;rw[show s+1+i=s+i+1 from qE]at hp;have hn:(P ((s+i+1)%count)).n=s+i+1:=by rw[hp];unfold db;simp;omega
  have hd:(P ((s+i+1)%count)).data=(rec.drop (i*501)).take 501:=by rw[hp];rfl
  have hl:(P ((s+i+1)%count)).last=decide (i+1=bt rec.length):=by rw[hp];rfl
  have BO:rec.take (i*501)++(rec.drop (i*501)).take 501=rec.take ((i+1)*501):=by
   rw[show(i+1)*501=i*501+501 by omega,List.take_add]
  rw[show f+(j+1)=(f+j)+1 from qE,mZ,aEW hn,hl,hd,BO]
  by_cases he:i+1=bt rec.length
  .have hj:j=0:=by omega
   subst hj;have oN:=Jp rec.length;rw[aEW aaT,aEX (by rw[he];exact oN),show s+i+1=s+bt rec.length from qE];rfl
  .rw[aET aaT,show s+i+1=s+(i+1) from qE];exact ih (i+1) qE qE
def PV {count:Nat}:∀{rs:List (List UInt8)} {s e:Nat},kG P count s rs e->(P ((e+1)%count)).n≠e+1->∀(fuel:Nat) (out:List (List UInt8)),e<=s+fuel->mZ P count fuel s [] out s=(out++rs,e):=by
 intro rs
 induction rs with
 |nil=>
  intro s e h ij fuel out hf;have h:e=s:=h;subst h;cases fuel with
  |zero=>simp[mZ]
  |succ f=>rw[mZ,aET ij];simp
 |cons rec rs ih=>
  intro s e h ij fuel out hf;have h1:=(kG.le h.2).1;have h2:=oY rec.length;have:=PU h.1 (fuel-bt rec.length) s out (bt rec.length) 0 qE h2;rw[show fuel-bt rec.length+bt rec.length=fuel from qE]at this;simp only[aFC,Nat.zero_mul,aGM]at this;rw[this,ih h.2 ij _ _ qE];simp
def Cl (P:Nat->Piece)(count base:Nat):∀i k,i<=k->mD P count base i<=mD P count base k:=by
 intro i k
 induction k with
 |zero=>intro h;have:i=0:=by omega
        rw[this];exact aEQ _
 |succ k ih=>
  intro h
  by_cases he:i=k+1
  .rw[he];exact aEQ _
  .have:=ih qE;simp only[mD]
   split<;>omega
def Uf {count e:Nat}(h:kG P count base rs e)(h0:0<count)(hle:∀j,j<count->(P j).n<=e):mD P count base count=e:=by
 have h1:=KB P count base e h.le.1 hle count (aEQ _);refine Nat.le_antisymm h1 ?_;cases rs with
 |nil=>
  have he:e=base:=h;rw[he];exact Cl P count base 0 count qE
 |cons r rs=>
  have hl:=h.aej uG;have hlt:=h.le.2 uG;have hj:e%count<count:=Nat.mod_lt _ h0;have h2:=Cl P count base (e%count+1) count qE
  have h3:e<=mD P count base (e%count+1):=by
   simp only[mD];rw[aEW ⟨by rw[hl];omega,by rw[hl]⟩,hl];omega
  omega
def wg (P:Nat->Piece)(count:Nat)(rec:List UInt8)(last:Nat):Nat->Nat->Piece
 |0=>P
 |k+1=>λj=>if j=(last+1+k)%count then db rec last (bt rec.length) k else wg P count rec last k j
def Jn {count:Nat}(j:Nat):∀k,(∀i,i<k->j≠(last+1+i)%count)->wg P count rec last k j=P j:=by
 intro k
 induction k with
 |zero=>intro _;rfl
 |succ k ih=>intro h;simp only[wg];rw[aET (h k qE)];exact ih λi hi=>h i qE
def Uv {count:Nat}(k i:Nat)(hi:i<k)(hk:k<=count):wg P count rec last k ((last+1+i)%count)=db rec last (bt rec.length) i:=by
 induction k with
 |zero=>omega
 |succ k ih=>
  simp only[wg]
  by_cases h:i=k
  .rw[aEW (by rw[h]),h]
  .rw[aET (Qv qE qE)];exact ih qE qE
def kG.put {count:Nat}(h:kG P count base rs last)(hr:bt rec.length+(last-base)<=count):kG (wg P count rec last (bt rec.length)) count base (rs++[rec]) (last+bt rec.length):=by
 have hle:=h.le.1;refine(h.congr λx h1 h2=>Jn _ _ λi hi=>?_).snoc λi hi=>Uv _ i hi qE;exact Qv qE qE
def YI {count:Nat}(h:∀j,j<count->(P j).n<=last):∀k,k<=bt rec.length->∀j,j<count->(wg P count rec last k j).n<=last+bt rec.length:=by
 intro k
 induction k with
 |zero=>intro _ j hj;have:=h j hj;simp only[wg];omega
 |succ k ih=>
  intro hk j hj;simp only[wg]
  split
  .unfold db;simp;omega
  .exact ih qE j hj
end
section
variable {G:List Nat}{L:List (List UInt8)}{x:CV}{Fo:List Nat}
abbrev eO:=Nat×jU
def NL (e:eO):List UInt8:=uv e.1++(uv (jv e.2).length++jv e.2)
def gf (l:List eO):List UInt8:=(l.map NL).flatten
def Ct (e:eO)(l:List eO):gf (e::l)=uv e.1++(uv (jv e.2).length++(jv e.2++gf l)):=by unfold gf NL;simp
def Gb (a b:List eO):gf (a++b)=gf a++gf b:=by unfold gf;simp
def Ut (e:eO)(l:List eO):gf (e::l)≠[]:=by
 rw[Ct];intro h;have:=zC e.1;have h2:=congrArg List.length h;simp at h2;have h3:(uv e.1).length=0:=by rw[h2.1];rfl
 omega
def Ck (l:List UInt8):jv l++List.replicate (l.length-(jv l).length) 0=l:=by
 have key:∀m:List UInt8,(m.dropWhile (λb=>b==0)).length<=m.length/\List.replicate (m.length-(m.dropWhile (λb=>b==0)).length) 0++m.dropWhile (λb=>b==0)=m:=by
  intro m
  induction m with
  |nil=>simp
  |cons b m ih=>
   rw[List.dropWhile_cons]
   by_cases h:b=0
   .subst h;simp only[beq_self_eq_true,aFm,aFp];refine⟨qE,?_⟩;rw[show m.length+1-(m.dropWhile (λb=>b==0)).length=(m.length-(m.dropWhile (λb=>b==0)).length)+1 from qE,aGV,aFS,ih.2]
   .rw[aET OY];simp
 have:=(key l.reverse).2;have h2:=congrArg List.reverse this;rw[List.reverse_append,aGG,List.reverse_replicate,List.length_reverse]at h2;unfold jv;rw[List.length_reverse];exact h2
def xv (l:List UInt8):(jv l).length<=l.length:=by
 have:=congrArg List.length (Ck l);rw[aEU,aFI]at this;omega
def oL (d:List eO)(l:List eO):List eO:=l.foldl (λd e=>ig d e.1 e.2) d
def eo (d:List eO)(Ls:List (List eO)):List eO:=Ls.foldl oL d
def qP (d:List eO)(Ls:List (List eO))(l:List eO):eo d (Ls++[l])=oL (eo d Ls) l:=by unfold eo;rw[aGS];rfl
def MN (d:List eO)(l:List eO)(e:eO):oL d (l++[e])=ig (oL d l) e.1 e.2:=by unfold oL;rw[aGS];rfl
section
variable {st st':St} {p a:Nat} {lg:CV} {M:bZ} {bd bn bi bc:Nat} {F:List Nat} {D:bf}
def lT.at {vs:List CV}(h:lT st G vs L){i:Nat}(hi:i<L.length):∃fk:i<vs.length,lr st G vs[i] 1 (aj L[i]):=by
 induction vs generalizing L i with
 |nil=>cases L with|nil=>simp at hi|cons l L=>exact h.elim
 |cons v vs ih=>
  cases L with
  |nil=>exact h.elim
  |cons l L=>
   cases i with
   |zero=>exact⟨uG,h.1⟩
   |succ i=>
    obtain⟨a,b⟩:=ih h.2 O1;exact⟨acH,b⟩
def pI.keep {X:List Nat}(h:pI st x L Fo G)(hk:Kp X st st')(h1:∀b∈Fo,b∉X)(h2:∀b∈G,b∉X):pI st' x L Fo G:=by
 obtain⟨vs,a,b,c,d,e⟩:=h;exact⟨vs,a.keep hk λq hq=>⟨c q hq,h1 q hq⟩,b.keep hk h2,λq hq=>aFg (c q hq) hk.nx,λq hq=>aFg (d q hq) hk.nx,e⟩
def MK (h:cP st p a lg M bd bn bi bc){Ls:List (List eO)}(hx:pI st x (Ls.map gf) Fo G)(hFo:∀b∈Fo,b≠bd)(hG:∀b∈G,b≠bd)(hLs:∀l∈Ls,∀e∈l,e.1<M.aH/\e.2.length=512)(hsz:∀l∈Ls,(gf l).length<=1000000)(hn:Ls.length<=1000000)(oI:M.aH<=1000000):
 R 72 [.ptr p 0,x] st λv st'=>v=.bool true/\Kp [bd] st st'/\cP st' p a lg {M with dirty:=eo M.dirty Ls} bd bn bi bc:=by
 refine bP ?_;rw[w72];have U5:=hx;obtain⟨vs0,hv1,hv2,hv3,hv4,hv5⟩:=hx;have hvl:vs0.length=Ls.length:=by have:=hv2.len;rw[aFK]at this;exact this
 have hlen:=λs=>(hv1.sl (X:=[]) λb hb=>⟨uG,hv3 b hb⟩).len Ls.length qE qE s;rw[cV,hlen,af];simp only[aL,aM];refine bN (λfu vs s=>∃i,fu+i=Ls.length/\vs=[.ptr p 0,x,I Ls.length,I i]/\Kp [bd] st s/\cP s p a lg {M with dirty:=eo M.dirty (Ls.take i)} bd bn bi bc/\pI s x (Ls.map gf) Fo G) ?_ (n:=Ls.length) ⟨0,rfl,rfl,Kp.refl _ _,h,U5⟩;rintro fu vs s k ⟨i,hi,rfl,hk,hP,hR⟩ next;simp only[aL,aM];rw[dC,af,ag]
 by_cases hc:i<Ls.length
 .rw[aEV hc,aEW rfl];obtain⟨vs1,r1,r2,r3,r4,r5⟩:=hR;have ayR:vs1.length=Ls.length:=by have:=r2.len;rw[aFK]at this;exact this
  have lq:Sl s [] x 1 vs1:=r1.sl λb hb=>⟨uG,r3 b hb⟩;refine lq.idx (i:=i) qE _ ?_;obtain⟨fk,ZD⟩:=r2.at (i:=i) Dx;rw[aHc]at ZD;have Rc:=aFj hc;rw[cV];refine(wC ZD.nil (hsz _ Rc)).mono ?_;rintro _ ey ⟨r,Fr,rfl,oM,BS,RO⟩;have aqx:=pI.keep ⟨vs1,r1,r2,r3,r4,r5⟩ oM uG uG;have n13:=oM.nx;simp only[aL,aM];refine bN (λfu2 vs s'=>∃done rest,done++rest=Ls[i]/\fu2=rest.length/\vs=[.ptr p 0,.ptr r 0,x,I Ls.length,I i]/\Kp (bd::Fr) ey s'/\cP s' p a lg {M with dirty:=oL (eo M.dirty (Ls.take i)) done} bd bn bi bc/\oG s' r Fr (gf rest)/\pI s' x (Ls.map gf) Fo G) ?_ (n:=Ls[i].length) ⟨[],Ls[i],rfl,rfl,rfl,Kp.refl _ _,hP.keep oM uG,BS,aqx⟩;rintro fu2 vs s4 k2 ⟨done,rest,Vv,apn,rfl,nK,TG,Va,hR4⟩ Gy;simp only[aL,aM];have agE:=h.lt bd uG;have mr:=hk.nx;have RN:∀b∈Fr,st.nx<=b:=λb hb=>by have:=RO b hb;omega
  refine(qO Va).same ?_;simp only[aG,aFm,bh,af,eR];refine(VP Va).same ?_;cases rest with
  |nil=>
   rw[aEV (show gf []=[]from rfl)];simp only[cU,aFh,af,aF,aFm,ag,aEM,aFa,gH i qE];have he:=aFe hc;refine next (fu-1) _ _ qE ⟨i+1,qE,rfl,?_,?_,hR4⟩
   .exact(hk.trans oM uG).trans nK λq hq=>by
     rcases aEP.1 hq with rfl|hq
     .exact .inl uG
     .exact .inr (RN q hq)
   .rw[he,qP,<-Vv,aFN];exact TG
  |cons e rest=>
   obtain⟨n,sec⟩:=e;have hes:=hLs _ Rc (n,sec) (by rw[<-Vv];simp);rw[aEO (Ut _ _)];have CR:=TG.main;have e1:=vd M.aH qE qE s4 none;simp only[cU,aFf,af,aF,aFm,ag,fB,bF,ah,aB,CR,aq,aER,aEN,aEL,ay,e1];rw[Ct]at Va;have agF:∀b∈[p,bd,bn,bi,bc],b∉Fr:=λb hb hh=>by have:=h.lt b hb;have:=RN b hh;omega
   refine(kX (m:=M.aH-1) Va (by show n<=_;have:=hes.1;simp at this;omega) qE).mono ?_;rintro _ s7 ⟨rfl,k7,n7,rd7⟩;have htl:=xv sec;have wM:sec.length=512:=hes.2;refine(DQ (m:=512) rd7 (by show(jv sec).length<=_;omega) qE).mono ?_;rintro _ s8 ⟨rfl,k8,n8,rd8⟩;refine(qO rd8).same ?_;simp only[cU,aFh,af,ag,aEM,aFa];have hP8:=(TG.keep k7 agF).keep k8 agF;rw[cH,aS];have qh:Kp [] s8 (St.new s8 (.cells (zr 512) 173 false)):=(Kp.refl [] s8).new _;have LV:(St.new s8 (.cells (zr 512) 173 false)).m.g s8.nx=some (.cells (zr 512) 173 false):=ao _ _;have On:(St.new s8 (.cells (zr 512) 173 false)).nx=s8.nx+1:=rfl;generalize St.new s8 (.cells (zr 512) 173 false)=s10 at*;have Bq:bY 512 1 (.ptr s8.nx 0) none none s10=.ok (.slice s8.nx 0 512 512 0) s10:=rfl;rw[Bq,af];obtain⟨dq,c1,c2,c3,c4⟩:=Gu (b:=s8.nx) (off:=0) (n:=512) (cap:=512) (d:=jv sec) LV qE (by rw[qC];omega);rw[c1,aS,bG]
   have kP:bD (zr 512) 0 (aj (jv sec))=aj sec:=by
    unfold bD;rw[aGM,aFt,bJ,aER,nO]
    conv=>rhs;rw[<-Ck sec]
    rw[bL]
    congr 1
    unfold aj;rw[<-aGl]
    congr 1
    rw[aGW,wM]
   rw[kP]at c3
   have qx:Kp [s8.nx] s10 dq:=⟨qE,λq h1 h2=>c4 q TV,λhf q hq=>by
    have:q≠s8.nx:=qE
    rw[c4 q this];exact hf q qE⟩
   have G0:∀b∈[p,bd,bn,bi,bc],b∉[s8.nx]:=λb hb=>by have:=hP8.lt b hb;simp;omega
   have yV:=(hP8.keep qh uG).keep qx G0;have Re:=yV.main;obtain⟨blk,u1,u2,u3⟩:=IsMap.update yV.dirty n (.agg (aj sec));rw[wb]at u2;have oO:(aj sec).length=512:=by simpa using wM
   simp only[Re,aq,aEN,aEL,ay];rw[aK (n:=512) c3 oO,af,u1,aS];refine⟨⟨aer,aer,aer⟩,aer,?_⟩;have rX:=h.nd;simp only[aFd,aEP,aFy,aGt,aGk]at rX;have agH:=yV.lt bd uG;have qg:Kp [bd] dq (St.set dq bd blk):=(Kp.refl _ dq).set _ (.inl uG) agH;have aeq:Kp (bd::Fr) s4 (St.set dq bd blk):=((((k7.mono (by intro q hq;left;simp[hq])).trans k8 (by intro q hq;left;simp[hq])).trans qh uG).trans qx (by intro q hq;right;simp at hq;omega)).trans qg (by intro q hq;left;simp at hq;simp[hq]);have agZ:∀b∈Fr,b<s8.nx:=λb hb=>by obtain⟨_,_,_,_,_,h3,_⟩:=rd8;exact h3 b hb
   have Ka:cP (St.set dq bd blk) p a lg {M with dirty:=oL (eo M.dirty (Ls.take i)) (done++[(n,sec)])} bd bn bi bc:=
    ⟨(al _ _ _ _ (aFL (aFL rX.1.1))).trans Re,by rw[MN];exact u2,yV.now.mono (al _ _ _ _ (aFL rX.2.1.1)),yV.idle.mono (al _ _ _ _ (aFL rX.2.1.2.1)),yV.count.mono (al _ _ _ _ (aFL rX.2.1.2.2)),h.nd,yV.lt,h.lgs⟩
   refine Gy rest.length _ _ (by rw[apn];simp) ⟨done++[(n,sec)],rest,by rw[<-Vv];simp,rfl,rfl,nK.trans aeq (ael),Ka,?_,?_⟩
   .exact((rd8.keep qh uG).keep qx λb hb=>by have:=agZ b hb;simp;omega).keep qg λb hb=>by have:=RN b hb;simp;omega
   .exact hR4.keep aeq (λb hb hh=>by
     rcases aEP.1 hh with rfl|hh
     .exact hFo _ hb rfl
     .have h1:=RO b hh;obtain⟨_,_,_,q3,_,_⟩:=U5;have:=q3 b hb;omega) (λb hb hh=>by
     rcases aEP.1 hh with rfl|hh
     .exact hG _ hb rfl
     .have h1:=RO b hh;obtain⟨_,_,_,_,q4,_⟩:=U5;have:=q4 b hb;omega)
 .rw[aEO hc,aET u7];have he:Ls.take i=Ls:=aEX qE;rw[he]at hP;exact⟨aer,hk,hP⟩
end
end
