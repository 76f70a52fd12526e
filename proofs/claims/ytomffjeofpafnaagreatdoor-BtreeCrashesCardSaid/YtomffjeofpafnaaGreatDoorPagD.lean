import Derived.Test.YtomffjeofpafnaaGreatDoorBtA
namespace Lim
open Go
noncomputable section
set_option linter.defProp false
section
variable {D:aP}{i:Nat}{s:iJ}
structure Calm (D:aP):Prop where
 dead:D.dead=false
def CW (kept:Nat->Bool)(w:pj):∀(W:List pj) (i:Nat) (L:List iJ),gh kept i L (W++[w])=if kept (i+W.length)=true then (gh kept i L W).set w.1 w.2 else gh kept i L W:=by
 intro W
 induction W with
 |nil=>intro i L;simp[gh]
 |cons v W ih=>
  intro i L;simp only[aEp,gh,aDT];rw[ih];rw[show i+1+W.length=i+(W.length+1) from pX]
def aP.GY (D:aP)(W:List pj)(w:pj)(j:Nat)(D' D'':aP)(h1:D'.waits=W++[w])(h2:D'.ao=D.ao)(h3:D''.waits=W)(h4:D''.ao=D.ao):D'.cur j=if j=w.1 then w.2 else D''.cur j:=by
 unfold aP.cur;rw[h1,h3,xP]
 by_cases h:j=w.1
 .rw[aDy pX,aDy h];simp
 .rw[aDv pX,aDv h];cases hx:nW W (j:Int)with
  |none=>simp only[h2,h4]
  |some k=>
   have:=wZ hx;simp only[aFd,aET this]
def settled (L:List iJ):∀(W:List pj),(∀w∈W,w.1<L.length)->∀(D:aP),D.waits=W->D.ao=L->∀j,(gh (λ_=>true) 0 L W).getD j []=D.cur j:=by
 suffices key:∀V:List pj,(∀w∈V.reverse,w.1<L.length)->∀(D:aP),D.waits=V.reverse->D.ao=L->∀j,(gh (λ_=>true) 0 L V.reverse).getD j []=D.cur j by
  intro W hw D h1 h2 j;have:=key W.reverse (by rwa [aFJ]) D (by rwa [aFJ]) h2 j
  rwa [aFJ]at this
 intro V
 induction V with
 |nil=>
  intro _ D h1 h2 j;unfold aP.cur;rw[h1,List.reverse_nil,uH,h2];rfl
 |cons w V ih=>
  intro hw D h1 h2 j;rw[List.reverse_cons]at hw h1⊢;rw[CW,aDy rfl];have h3:=ih (λv hv=>hw v (by simp at hv⊢;exact .inl hv)) {D with waits:=V.reverse} rfl h2 j;rw[aP.GY D V.reverse w j D {D with waits:=V.reverse} h1 rfl rfl rfl];have hl:w.1<(gh (λ_=>true) 0 L V.reverse).length:=by rw[oG];exact hw w rq
  by_cases h:j=w.1
  .rw[aDy h,h];simp[aFd,hl]
  .rw[aDv h,<-h3];simp only[aFd];rw[List.getElem?_set_ne (aEr h)]
def aP.BY (D:aP):Prop:=∀w∈D.waits,w.1<D.ao.length
structure kI (L:List iJ)(W:List pj)(D':aP):Prop where
 dead:D'.dead=true
 waits:D'.waits=[]
 len:D'.ao.length=L.length
 cur:∀j,D'.cur j=L.getD j []\/∃w∈W,w.1=j/\D'.cur j=w.2
def EU (kept:Nat->Bool)(j:Nat):∀(W:List pj) (i:Nat) (L:List iJ),(gh kept i L W).getD j []=L.getD j []\/∃w∈W,w.1=j/\(gh kept i L W).getD j []=w.2:=by
 intro W
 induction W with
 |nil=>intro i L;exact .inl rfl
 |cons w W ih=>
  intro i L;simp only[gh];rcases ih (i+1) (if kept i=true then L.set w.1 w.2 else L)with h|⟨v,hv,h1,h2⟩
  .rw[h]
   split
   .by_cases hj:w.1=j
    .by_cases hl:j<L.length
     .right;refine⟨w,rq,hj,?_⟩;subst hj;simp[aFd,hl]
     .left;rw[List.set_eq_of_length_le pX]
    .left;simp only[aFd];rw[List.getElem?_set_ne hj]
   .exact .inl rfl
  .exact .inr ⟨v,aDS _ hv,h1,h2⟩
def kZ (h:D.waits=[])(j:Nat):D.cur j=D.ao.getD j []:=by unfold aP.cur;rw[h,uH]
def KO (D:aP)(keep:List Bool):kI D.ao D.waits (D.oR keep):=by
 refine⟨rfl,rfl,oG _ _ _ _,λj=>?_⟩;rw[kZ (D:=D.oR keep) rfl];exact EU _ j D.waits 0 D.ao
def kI.more {L:List iJ}{W W':List pj}{D':aP}(h:kI L W D')(hw:∀w∈W,w∈W'):kI L W' D':=
 ⟨h.dead,h.waits,h.len,λj=>(h.cur j).imp id λ⟨w,h1,h2⟩=>⟨w,hw w h1,h2⟩⟩
def HM (h:Calm D)(hi:i<D.ao.length)(hs:s.length=512):
 ((D.write i s).1=0/\D.write i s=(0,{D with waits:=D.waits++[(i,s)]}.tick))\/((D.write i s).1=20/\D.set=true/\kI D.ao (D.waits++[(i,s)]) (D.write i s).2):=by
 have e:D.write i s=if D.out then (20,{D with waits:=D.waits++[(i,s)]}.oR D.keep)else (0,{D with waits:=D.waits++[(i,s)]}.tick):=by
  unfold aP.write;rw[aDv (by rw[h.dead];decide),aDv (by rw[hs];omega)];rfl
 rw[e]
 by_cases ho:D.out
 .rw[aDy ho];exact .inr ⟨rfl,ho.1,KO {D with waits:=D.waits++[(i,s)]} D.keep⟩
 .rw[aDv ho];exact .inl ⟨rfl,rfl⟩
def Calm.write (h:Calm D)(hi:i<D.ao.length)(hs:s.length=512)(hw:D.BY):
 ((D.write i s).1=0/\Calm (D.write i s).2/\(D.write i s).2.ao=D.ao/\(D.write i s).2.BY/\(D.write i s).2.waits=D.waits++[(i,s)]/\(∀j,(D.write i s).2.cur j=if j=i then s else D.cur j)/\(D.write i s).2.set=D.set)\/
 ((D.write i s).1=20/\D.set=true/\kI D.ao (D.waits++[(i,s)]) (D.write i s).2):=by
 rcases HM h hi hs with⟨_,e⟩|hc
 .left;rw[e];refine⟨rfl,⟨h.dead⟩,rfl,?_,rfl,λj=>?_,rfl⟩
  .intro w X3;have X3:w∈D.waits++[(i,s)]:=X3;rcases aDB.1 X3 with h1|h1
   .exact hw w h1
   .have:w=(i,s):=by simpa using h1
    rw[this];exact hi
  .exact aP.GY D D.waits (i,s) j _ D rfl rfl rfl rfl
 .exact .inr hc
def Calm.flush (h:Calm D)(hw:D.BY):
 (D.flush.1=0/\Calm D.flush.2/\D.flush.2.ao.length=D.ao.length/\D.flush.2.waits=[]/\(∀j,D.flush.2.cur j=D.cur j)/\D.flush.2.set=D.set)\/(D.flush.1=20/\D.set=true/\kI D.ao D.waits D.flush.2):=by
 have e:D.flush=if D.out then (20,D.oR D.keep)else (0,(D.tick).settle λ_=>true):=by
  unfold aP.flush;rw[aDv (by rw[h.dead];decide)]
 rw[e]
 by_cases ho:D.out
 .rw[aDy ho];exact .inr ⟨rfl,ho.1,KO D D.keep⟩
 .rw[aDv ho];refine .inl ⟨rfl,⟨h.dead⟩,oG _ _ _ _,rfl,λj=>?_,rfl⟩;rw[<-settled D.ao D.waits hw D rfl rfl j]
  rfl
def Calm.read (h:Calm D)(hi:i<D.ao.length):D.read i=(0,D.cur i):=by
 unfold aP.read;rw[aDv (by rw[h.dead];decide),aDv pX];rfl
def Calm.head (h:Calm D)(hw:D.waits=[])(h0:0<D.ao.length)(base:Nat):
 ((D.head base).1=0/\Calm (D.head base).2/\(D.head base).2.ao.length=D.ao.length/\(D.head base).2.waits=[]/\(∀j,(D.head base).2.cur j=if j=0 then cU base else D.cur j)/\(D.head base).2.set=D.set)\/
 ((D.head base).1=20/\D.set=true/\kI D.ao [(0,cU base)] (D.head base).2):=by
 unfold aP.head;rcases h.write h0 (qB base) (by unfold aP.BY;rw[hw];simp)with⟨a1,a2,a3,a4,a5,a6,a7⟩|⟨a1,a2,a3⟩
 .have a1:(D.write 0 (cU base)).1=0:=a1;rw[aDy a1];rcases a2.flush a4 with⟨b1,b2,b3,b4,b5,b6⟩|⟨b1,b2,b3⟩
  .exact .inl ⟨b1,b2,by rw[<-a3];exact b3,b4,λj=>(b5 j).trans (a6 j),b6.trans a7⟩
  .refine .inr ⟨b1,a7.symm.trans b2,?_⟩;rw[a3,a5,hw]at b3;exact b3
 .have a1:(D.write 0 (cU base)).1=20:=a1;rw[aDv (by rw[a1];decide)];rw[hw]at a3;exact .inr ⟨a1,a2,a3⟩
end
set_option maxRecDepth 100000
def NW {l:List Nat}{n:Nat}(h:n∉l):nh l n=l++[n]:=by
 induction l with
 |nil=>rfl
 |cons p r ih=>
  simp only[aDs,aEM]at h;simp only[nh,aDv h.1,aEp];rw[ih h.2]
def bQ.clean (M:bQ)(m:iA)(idle:List Nat):bQ:={M with now:=[],count:=[],m:=m,kept:=m,idle:=idle}
section
variable {st st':St} {p a:Nat} {lg:CV} {M:bQ} {bd bn bi bc:Nat} {F:List Nat} {D:aP}
def Hl (h:cC st p a lg M bd bn bi bc)(hd:cG st a F D)(nZ:D.dead=false)(hF:∀b∈F,b≠p){m':iA}{frs:List Nat}
 (h0:({M with now:=[]}:bQ).get D 0=bL m') (hm:SU (bL m')=m') (Mh:M.first+M.aE<=D.ao.length) (qz:0<M.aE) (hhd:m'.head=frs.headD 0) (iw:∀n∈frs,0<n/\n<M.aE) (je:frs.Nodup) (jB:Ni {M with now:=[]} D frs):
 R 75 [.ptr p 0] st λv st'=>v=I 0/\Kp [p] st st'/\∃RS RT RU,cC st' p a lg (M.clean m' frs) bd RS RT RU/\∀b∈[RS,RT,RU],st.nx<=b:=by
 refine bN ?_;rw[w75];have hsz:=(show D.ao.length<=65536 from by obtain⟨_,_,_,_,_,_,_,h⟩:=hd;exact h.size);rw[c8,af,ag,aDv wI,ju,aT,ju,aT,ju,aT];have x1:(St.new st (.map [] 0)).nx=st.nx+1:=rfl;have x2:(St.new (St.new st (.map [] 0)) (.map [] 0)).nx=st.nx+2:=rfl;have x3:(St.new (St.new (St.new st (.map [] 0)) (.map [] 0)) (.map [] 0)).nx=st.nx+3:=rfl;rw[x1,x2];have k3:Kp [] st (St.new (St.new (St.new st (.map [] 0)) (.map [] 0)) (.map [] 0)):=(((Kp.refl [] st).new _).new _).new _;have m1:dt (St.new (St.new (St.new st (.map [] 0)) (.map [] 0)) (.map [] 0)) st.nx []:=(dt.new st).mono (by rw[ba _ _ _ AI,ba _ _ _ rq]);have m2:dt (St.new (St.new (St.new st (.map [] 0)) (.map [] 0)) (.map [] 0)) (st.nx+1) []:=(dt.new (St.new st (.map [] 0))).mono (by show(St.new _ _).m.g (st.nx+1)=_;rw[ba _ _ _ rq];rfl);have m3:dt (St.new (St.new (St.new st (.map [] 0)) (.map [] 0)) (.map [] 0)) (st.nx+2) []:=dt.new (St.new (St.new st (.map [] 0)) (.map [] 0));generalize St.new (St.new (St.new st (.map [] 0)) (.map [] 0)) (.map [] 0)=s3 at*;have hp3:=h.lt p rq;have aoN:=h.lt bd rq;have nd:=h.nd;simp only[aDG,aDs,aEe,aEW,aEM]at nd;have g3:=(k3.keep p hp3 rq).trans h.main;have ri:bo [.ptr a 0,lg,I M.first,I M.aE,.map bd,.map bn,I M.kept.root,I M.kept.used,I M.kept.head,I M.kept.free,I M.m.root,I M.m.used,I M.m.head,I M.m.free,.map bi,.map bc] 5 [.map st.nx]=[.ptr a 0,lg,I M.first,I M.aE,.map bd,.map st.nx,I M.kept.root,I M.kept.used,I M.kept.head,I M.kept.free,I M.m.root,I M.m.used,I M.m.head,I M.m.free,.map bi,.map bc]:=rfl
 have ko:bo [.ptr a 0,lg,I M.first,I M.aE,.map bd,.map st.nx,I M.kept.root,I M.kept.used,I M.kept.head,I M.kept.free,I M.m.root,I M.m.used,I M.m.head,I M.m.free,.map bi,.map bc] 15 [.map (st.nx+1)]=[.ptr a 0,lg,I M.first,I M.aE,.map bd,.map st.nx,I M.kept.root,I M.kept.used,I M.kept.head,I M.kept.free,I M.m.root,I M.m.used,I M.m.head,I M.m.free,.map bi,.map (st.nx+1)]:=rfl;have DM:bo [.ptr a 0,lg,I M.first,I M.aE,.map bd,.map st.nx,I M.kept.root,I M.kept.used,I M.kept.head,I M.kept.free,I M.m.root,I M.m.used,I M.m.head,I M.m.free,.map bi,.map (st.nx+1)] 14 [.map (st.nx+2)]=[.ptr a 0,lg,I M.first,I M.aE,.map bd,.map st.nx,I M.kept.root,I M.kept.used,I M.kept.head,I M.kept.free,I M.m.root,I M.m.used,I M.m.head,I M.m.free,.map (st.nx+2),.map (st.nx+1)]:=rfl
 have Gc:∀{s:St} {l:List CV} {x:CV} {o:Nat} {K:St->Prop},s.m.g p=some (.cells l 158 false)->x.cA=[x]->ck x=true->o<l.length->K (St.set s p (.cells (bo l o [x]) 158 false))->lD 1 o (.ptr p 0) x s K:=by
  intro s l x o K hg h1 h2 h3 hK;simp only[lD,br,ah,af,aF,hg,aS,h1,aDx];exact⟨⟨rfl,adi,h3⟩,hK⟩
 refine Gc g3 rfl rfl (by decide:(5:Nat)<16) ?_;refine Gc (aq _ _ _) rfl rfl (by rw[ri];exact(by decide:(15:Nat)<16)) ?_;rw[ri,set_set];refine Gc (aq _ _ _) rfl rfl (by rw[ko];exact(by decide:(14:Nat)<16)) ?_;rw[ko,set_set,DM]
 have Zq:cC (St.set s3 p (.cells [.ptr a 0,lg,I M.first,I M.aE,.map bd,.map st.nx,I M.kept.root,I M.kept.used,I M.kept.head,I M.kept.free,I M.m.root,I M.m.used,I M.m.head,I M.m.free,.map (st.nx+2),.map (st.nx+1)] 158 false)) p a lg {M with now:=[],idle:=[],count:=[]} bd st.nx (st.nx+2) (st.nx+1):=
  ⟨aq _ _ _,h.dirty.mono ((al _ _ _ _ (aEr nd.1.1)).trans (k3.keep bd aoN rq)),m1.mono (al _ _ _ _ pX),m3.mono (al _ _ _ _ pX),m2.mono (al _ _ _ _ pX),by
   simp only[aDG,aDs,aEe,aEW,aEM];refine⟨⟨nd.1.1,pX,pX,pX⟩,⟨pX,pX,pX⟩,⟨pX,pX⟩,pX,not_false,aFS⟩,by
   intro b hb;simp at hb;show b<s3.nx;omega,h.lgs⟩
 have k6:Kp [p] st (St.set s3 p (.cells [.ptr a 0,lg,I M.first,I M.aE,.map bd,.map st.nx,I M.kept.root,I M.kept.used,I M.kept.head,I M.kept.free,I M.m.root,I M.m.used,I M.m.head,I M.m.free,.map (st.nx+2),.map (st.nx+1)] 158 false)):=(k3.mono rq).set _ (.inl rq) pX;have n6:(St.set s3 p (.cells [.ptr a 0,lg,I M.first,I M.aE,.map bd,.map st.nx,I M.kept.root,I M.kept.used,I M.kept.head,I M.kept.free,I M.m.root,I M.m.used,I M.m.head,I M.m.free,.map (st.nx+2),.map (st.nx+1)] 158 false)).nx=st.nx+3:=x3;generalize St.set s3 p (.cells [.ptr a 0,lg,I M.first,I M.aE,.map bd,.map st.nx,I M.kept.root,I M.kept.used,I M.kept.head,I M.kept.free,I M.m.root,I M.m.used,I M.m.head,I M.m.free,.map (st.nx+2),.map (st.nx+1)] 158 false)=s6 at*;have yB:=hd.keep k6 λb hb=>by simpa using hF b hb
 have zY:∀n,({M with now:=[],idle:=[],count:=[]}:bQ).get D n=({M with now:=[]}:bQ).get D n:=λn=>rfl;have h0':=gP m';refine(yw Zq yB nZ (n:=0) (by show M.first+0<_;omega) (by rw[zY,h0];exact h0')).mono ?_;rintro _ s7 ⟨rfl,k7⟩;rw[aD,af,aG,aD,af,zY,h0];have AO:(aj (bL m')).length=512:=by simpa using h0'
 refine lJ AO (bC _) ?_;have k9:=k7.page (aj (bL m'));have g9:(St.set (St.new s7 (.cells (zr 512) 173 false)) s7.nx (.cells (aj (bL m')) 173 false)).m.g s7.nx=some (.cells (aj (bL m')) 173 false):=aq _ _ _;generalize St.set (St.new s7 (.cells (zr 512) 173 false)) s7.nx (.cells (aj (bL m')) 173 false)=s9 at*;have e2:∀s,ai .neq (some .int) true (I 0) (.int .i64 0) s=.ok (.bool false) s:=λs=>rfl;rw[e2,af,ag,aDv wI,aR (n:=512) g9 AO,af];refine(acC h0').mono ?_;rintro _ dp ⟨rfl,rn⟩;rw[hm];have XO:=k9.trans rn rq;have ym:=Zq.keep XO rq;have Mi:=yB.keep XO rq;have ann:=ym.main
 have anA:∀{s:St} {x1 x2 x3 x4 y1 y2 y3 y4:CV} {K:St->Prop},s.m.g p=some (.cells [.ptr a 0,lg,I M.first,I M.aE,.map bd,.map st.nx,x1,x2,x3,x4,y1,y2,y3,y4,.map (st.nx+2),.map (st.nx+1)] 158 false)->K (St.set s p (.cells [.ptr a 0,lg,I M.first,I M.aE,.map bd,.map st.nx,x1,x2,x3,x4,I m'.root,I m'.used,I m'.head,I m'.free,.map (st.nx+2),.map (st.nx+1)] 158 false))->lD 4 10 (.ptr p 0) (.agg [I m'.root,I m'.used,I m'.head,I m'.free]) s K:=by
  intro s x1 x2 x3 x4 y1 y2 y3 y4 K hg hK;simp only[lD,br,ah,af,aF,hg,aS,aV,aDx];exact⟨⟨rfl,rfl,rq⟩,hK⟩
 refine anA ann ?_;rw[show Ah 4 10 (.ptr p 0) (St.set dp p (.cells [.ptr a 0,lg,I M.first,I M.aE,.map bd,.map st.nx,I M.kept.root,I M.kept.used,I M.kept.head,I M.kept.free,I m'.root,I m'.used,I m'.head,I m'.free,.map (st.nx+2),.map (st.nx+1)] 158 false))=λK=>us (dC (.ptr p 0) (St.set dp p (.cells [.ptr a 0,lg,I M.first,I M.aE,.map bd,.map st.nx,I M.kept.root,I M.kept.used,I M.kept.head,I M.kept.free,I m'.root,I m'.used,I m'.head,I m'.free,.map (st.nx+2),.map (st.nx+1)] 158 false))) λp'=>us (an 10 p' _) λa'=>us (aK 4 a' _) K from rfl];simp only[br,af,ah,aDx];rw[gM (n:=4) (aq _ _ _) rq,af]
 have aej:∀{s:St} {x1 x2 x3 x4 y1 y2 y3 y4:CV} {K:St->Prop},s.m.g p=some (.cells [.ptr a 0,lg,I M.first,I M.aE,.map bd,.map st.nx,x1,x2,x3,x4,y1,y2,y3,y4,.map (st.nx+2),.map (st.nx+1)] 158 false)->K (St.set s p (.cells [.ptr a 0,lg,I M.first,I M.aE,.map bd,.map st.nx,I m'.root,I m'.used,I m'.head,I m'.free,y1,y2,y3,y4,.map (st.nx+2),.map (st.nx+1)] 158 false))->lD 4 6 (.ptr p 0) (.agg [I m'.root,I m'.used,I m'.head,I m'.free]) s K:=by
  intro s x1 x2 x3 x4 y1 y2 y3 y4 K hg hK;simp only[lD,br,ah,af,aF,hg,aS,aV,aDx];exact⟨⟨rfl,rfl,rq⟩,hK⟩
 refine aej (aq _ _ _) ?_;rw[set_set];have amQ:=ym.lt p rq;have XN:Kp [p] s6 (St.set dp p (.cells [.ptr a 0,lg,I M.first,I M.aE,.map bd,.map st.nx,I m'.root,I m'.used,I m'.head,I m'.free,I m'.root,I m'.used,I m'.head,I m'.free,.map (st.nx+2),.map (st.nx+1)] 158 false)):=(XO.mono rq).set _ (.inl rq) amQ
 have Jf:cC (St.set dp p (.cells [.ptr a 0,lg,I M.first,I M.aE,.map bd,.map st.nx,I m'.root,I m'.used,I m'.head,I m'.free,I m'.root,I m'.used,I m'.head,I m'.free,.map (st.nx+2),.map (st.nx+1)] 158 false)) p a lg (M.clean m' []) bd st.nx (st.nx+2) (st.nx+1):=by
  have nd6:=ym.nd;simp only[aDG,aDs,aEe,aEW,aEM]at nd6;exact⟨aq _ _ _,ym.dirty.mono (al _ _ _ _ (aEr nd6.1.1)),ym.now.mono (al _ _ _ _ (aEr nd6.1.2.1)),ym.idle.mono (al _ _ _ _ (aEr nd6.1.2.2.1)),ym.count.mono (al _ _ _ _ (aEr nd6.1.2.2.2)),ym.nd,ym.lt,h.lgs⟩
 generalize St.set dp p (.cells [.ptr a 0,lg,I M.first,I M.aE,.map bd,.map st.nx,I m'.root,I m'.used,I m'.head,I m'.free,I m'.root,I m'.used,I m'.head,I m'.free,.map (st.nx+2),.map (st.nx+1)] 158 false)=bY at*;have TU:=yB.keep XN λb hb=>by simpa using hF b hb
 have UE:=k6.trans XN rq;have MW:=XN.nx;have TD:=Jf.main;have PR:∀done n,(M.clean m' done).get D n=({M with now:=[]}:bQ).get D n:=λdone n=>rfl;rw[cK];simp only[sn,br,ah,af,aC,TD,ar,aDx,Nat.reduceAdd,aDq,aDo,az,aH,aI];refine bK (λfu vs s=>∃done rest,done++rest=frs/\fu=rest.length/\vs=[.ptr p 0,I (rest.headD 0)]/\Kp [st.nx+2] bY s/\cC s p a lg (M.clean m' done) bd st.nx (st.nx+2) (st.nx+1)/\Ni {M with now:=[]} D rest) ?_ (n:=frs.length) ⟨[],frs,rfl,rfl,by show [CV.ptr p 0,I m'.head]=_;rw[hhd],Kp.refl _ _,Jf,jB⟩;rintro fu vs s k ⟨done,rest,PH,hfu,rfl,hk,hP,hrw⟩ next;simp only[aH,aI];have mc:=hk.nx;cases rest with
 |nil=>
  have e3:ai .neq (some .int) true (I (([]:List Nat).headD 0)) (.int .i64 0) s=.ok (.bool false) s:=rfl;rw[e3,af,ag,aDv wI];rw[aEs]at PH;subst PH;exact⟨adu,UE.trans hk (by intro q hq;simp at hq;right;omega),st.nx,st.nx+2,st.nx+1,hP,by intro b hb;simp at hb;omega⟩
 |cons n r=>
  have hn:=iw n (by rw[<-PH];simp)
  have Tx:n∉done:=by
   intro hh;have:=je;rw[<-PH,aEn]at this;exact this.2.2 n hh n rq rfl
  have e3:ai .neq (some .int) true (I ((n::r).headD 0)) (.int .i64 0) s=.ok (.bool true) s:=by
   rw[ay,fq];show OR.ok (.bool (!decide ((n:Int)=0))) s=_;rw[aDr pX];rfl
  have e4:ai .lss none true (I ((n::r).headD 0)) (.int .i64 0) s=.ok (.bool false) s:=by
   rw[ay,cY];show OR.ok (.bool (decide ((n:Int)<0))) s=_;rw[aDr pX]
  have e5:ai .geq none false (I ((n::r).headD 0)) (I M.aE) s=.ok (.bool false) s:=by
   rw[ay,zw];show OR.ok (.bool (decide ((M.aE:Int)<=(n:Int)))) s=_;rw[aDr pX]
  have Cd:=hP.main;have hl:=IsMap.lookup (.inl hP.idle) (.bool false) false n s rfl;rw[aDv wI,EV,aDv (show¬n∈(M.clean m' done).idle from Tx)]at hl;simp only[Option.getD_none]at hl;have adY:s.m.g p=some (.cells [.ptr a 0,lg,I M.first,I M.aE,.map bd,.map st.nx,I m'.root,I m'.used,I m'.head,I m'.free,I m'.root,I m'.used,I m'.head,I m'.free,.map (st.nx+2),.map (st.nx+1)] 158 false):=Cd;rw[e3,af,ag,aDy rfl,e4,af];simp only[aL,aDp,aDE,aDI,bp,af,kK,br,ah,aC,adY,ar,aDx,aDq,aDo,az,e5,aJ];rw[show iE .int (.bool false) false (.map (st.nx+2)) (I ((n::r).headD 0)) s=.ok (.bool false) s from hl,af];simp only[ag,aDp,aDE];obtain⟨blk,u1,u2,u3⟩:=IsMap.update (.inl hP.idle) n (.bool true);have u4:=u3 hP.idle;rw[yW,show(M.clean m' done).idle=done from rfl,NW Tx]at u4;simp only[eW,br,ah,af,aC,adY,ar,aDx,aDq,aDo,az];rw[show eC .int (.map (st.nx+2)) (I ((n::r).headD 0)) (.bool true) s=.ok .undef (St.set s (st.nx+2) blk)from u1,aT];have I5:=hP.lt (st.nx+2) rq;have rk:=hP.nd;simp only[aDG,aDs,aEe,aEW,aEM]at rk
  have tP:cC (St.set s (st.nx+2) blk) p a lg (M.clean m' (done++[n])) bd st.nx (st.nx+2) (st.nx+1):=
   ⟨(al _ _ _ _ rk.1.2.2.1).trans Cd,hP.dirty.mono (al _ _ _ _ rk.2.1.2.1),hP.now.mono (al _ _ _ _ rk.2.2.1.1),u4,hP.count.mono (al _ _ _ _ (aEr rk.2.2.2.1)),hP.nd,hP.lt,h.lgs⟩
  have py:Kp [st.nx+2] bY (St.set s (st.nx+2) blk):=hk.set _ (.inl rq) I5;generalize St.set s (st.nx+2) blk=iT at*;have hdF:∀b∈F,b∉[st.nx+2]:=λb hb=>by have:=hd.lt b hb;simp;omega
  have Jc:=TU.keep py hdF;have hlen:(eY (r.headD 0)).length=512:=rZ _;refine(yw tP Jc nZ (n:=n) (by show M.first+n<_;omega) (by rw[PR,hrw.1];exact hlen)).mono ?_;rintro _ cO ⟨rfl,FY⟩;rw[aD,af,aG,aD,af,PR,hrw.1];have aoY:(aj (eY (r.headD 0))).length=512:=by simpa using hlen
  refine lJ aoY (bC _) ?_;have Rx:=FY.page (aj (eY (r.headD 0)));have Uh:(St.set (St.new cO (.cells (zr 512) 173 false)) cO.nx (.cells (aj (eY (r.headD 0))) 173 false)).m.g cO.nx=some (.cells (aj (eY (r.headD 0))) 173 false):=aq _ _ _;have n18:(St.set (St.new cO (.cells (zr 512) 173 false)) cO.nx (.cells (aj (eY (r.headD 0))) 173 false)).nx=cO.nx+1:=rfl;generalize St.set (St.new cO (.cells (zr 512) 173 false)) cO.nx (.cells (aj (eY (r.headD 0))) 173 false)=dj at*;have AL:bR 512 1 (.ptr cO.nx 0) none (some (.int .i64 4)) dj=.ok (.slice cO.nx 0 4 512 0) dj:=rfl;rw[e2,af,ag,aDv wI,AL,af];have zP:aj ((eY (r.headD 0)).take 4)=(aj (eY (r.headD 0))).take 4:=aaF
  have lu:Sl dj [] (.slice cO.nx 0 4 512 0) 1 (aj ((eY (r.headD 0)).take 4)):=.inr ⟨cO.nx,0,4,512,0,rfl,by rw[zP,aDF];omega,⟨pX,.inl rfl⟩,.inr ⟨rq,pX,_,_,_,Uh,pX,by rw[aDX,zP]⟩⟩;have hl4:((eY (r.headD 0)).take 4).length<=4:=Ws
  refine(sY lu pX (tA _ hl4)).same ?_
  have Cb:r.headD 0<2147483648:=by
   cases r with
   |nil=>simp
   |cons x r=>have:=iw x (by rw[<-PH];simp);simp;omega
  rw[xX Cb];refine next r.length _ _ (by rw[hfu];simp) ⟨done++[n],r,by rw[<-PH];simp,rfl,rfl,py.trans Rx rq,tP.keep Rx rq,hrw.2⟩
end
section
variable {P:Nat->Piece}{rec:List UInt8}{base:Nat}{rs:List (List UInt8)}{last:Nat}
def iP (P:Nat->Piece)(count:Nat):Nat->List (List UInt8)->Nat->Prop
 |s,[],e=>e=s
 |s,rec::rs,e=>(∀i,i<aY rec.length->P ((s+1+i)%count)=cB rec s (aY rec.length) i)/\iP P count (s+aY rec.length) rs e
def kQ (n:Nat):0<aY n:=by unfold aY;split<;>omega
def Is (n:Nat):n<=aY n*501:=by unfold aY;split<;>omega
def uD {a b count:Nat}(h:a<b)(h2:b-a<count):a%count≠b%count:=by
 intro e;have:=Nat.sub_mod_eq_zero_of_mod_eq e.symm;rw[aFn h2]at this;omega
def iP.le {count:Nat}:∀{rs:List (List UInt8)} {s e:Nat},iP P count s rs e->s<=e/\(rs≠[]->s<e):=by
 intro rs
 induction rs with
 |nil=>intro s e h;have h:e=s:=h;subst h;exact⟨aDt _,λh=>absurd rfl h⟩
 |cons rec rs ih=>
  intro s e h;have h1:=(ih h.2).1;have h2:=kQ rec.length;exact⟨pX,λ_=>pX⟩
def iP.congr {P':Nat->Piece}{count:Nat}:∀{rs:List (List UInt8)} {s e:Nat},iP P count s rs e->(∀x,s<x->x<=e->P' (x%count)=P (x%count))->iP P' count s rs e:=by
 intro rs
 induction rs with
 |nil=>intro s e h _;exact h
 |cons rec rs ih=>
  intro s e h hx;have h1:=(iP.le h.2).1;exact⟨λi hi=>by rw[hx _ pX pX];exact h.1 i hi,ih h.2 λx a b=>hx x pX b⟩
def iP.snoc {count:Nat}:∀{rs:List (List UInt8)} {s e:Nat},iP P count s rs e->(∀i,i<aY rec.length->P ((e+1+i)%count)=cB rec e (aY rec.length) i)->iP P count s (rs++[rec]) (e+aY rec.length):=by
 intro rs
 induction rs with
 |nil=>intro s e h hi;have h:e=s:=h;subst h;exact⟨hi,rfl⟩
 |cons r rs ih=>intro s e h hi;exact⟨h.1,ih h.2 hi⟩
def iP.UZ {count:Nat}:∀{rs:List (List UInt8)} {s e:Nat},iP P count s rs e->rs≠[]->(P (e%count)).n=e:=by
 intro rs
 induction rs with
 |nil=>intro s e h h2;exact absurd rfl h2
 |cons rec rs ih=>
  intro s e h _;cases rs with
  |nil=>
   have he:e=s+aY rec.length:=h.2;have h2:=kQ rec.length;have:=h.1 (aY rec.length-1) pX;rw[show s+1+(aY rec.length-1)=e from pX]at this;rw[this];unfold cB;simp;omega
  |cons r rs=>exact ih h.2 rq
def E9 {count:Nat}{s:Nat}(h:∀i,i<aY rec.length->P ((s+1+i)%count)=cB rec s (aY rec.length) i)(f last:Nat)(out:List (List UInt8)):
 ∀j i,i+j=aY rec.length->0<j->ie P count (f+j) (s+i) (rec.take (i*501)) out last=ie P count f (s+aY rec.length) [] (out++[rec]) (s+aY rec.length):=by
 intro j
 induction j with
 |zero=>intro i _ h0;omega
 |succ j ih=>
  intro i hi _;have hp:=h i pX;rw[show s+1+i=s+i+1 from pX]at hp;have hn:(P ((s+i+1)%count)).n=s+i+1:=by rw[hp];unfold cB;simp;omega
  have hd:(P ((s+i+1)%count)).data=(rec.drop (i*501)).take 501:=by rw[hp];rfl
  have hl:(P ((s+i+1)%count)).last=decide (i+1=aY rec.length):=by rw[hp];rfl
  have zP:rec.take (i*501)++(rec.drop (i*501)).take 501=rec.take ((i+1)*501):=by
   rw[show(i+1)*501=i*501+501 by omega,List.take_add]
  rw[show f+(j+1)=(f+j)+1 from pX,ie,aDy hn,hl,hd,zP]
  by_cases he:i+1=aY rec.length
  .have hj:j=0:=by omega
   subst hj;have jW:=Is rec.length;rw[aDy aar,aDA (by rw[he];exact jW),show s+i+1=s+aY rec.length from pX];rfl
  .rw[aDv aar,show s+i+1=s+(i+1) from pX];exact ih (i+1) pX pX
def Ow {count:Nat}:∀{rs:List (List UInt8)} {s e:Nat},iP P count s rs e->(P ((e+1)%count)).n≠e+1->∀(fuel:Nat) (out:List (List UInt8)),e<=s+fuel->ie P count fuel s [] out s=(out++rs,e):=by
 intro rs
 induction rs with
 |nil=>
  intro s e h gq fuel out hf;have h:e=s:=h;subst h;cases fuel with
  |zero=>simp[ie]
  |succ f=>rw[ie,aDv gq];simp
 |cons rec rs ih=>
  intro s e h gq fuel out hf;have h1:=(iP.le h.2).1;have h2:=kQ rec.length;have:=E9 h.1 (fuel-aY rec.length) s out (aY rec.length) 0 pX h2;rw[show fuel-aY rec.length+aY rec.length=fuel from pX]at this;simp only[aEb,Nat.zero_mul,aFj]at this;rw[this,ih h.2 gq _ _ pX];simp
def pz (P:Nat->Piece)(count base:Nat):∀i k,i<=k->jT P count base i<=jT P count base k:=by
 intro i k
 induction k with
 |zero=>intro h;have:i=0:=by omega
        rw[this];exact aDt _
 |succ k ih=>
  intro h
  by_cases he:i=k+1
  .rw[he];exact aDt _
  .have:=ih pX;simp only[jT]
   split<;>omega
def CJ {count e:Nat}(h:iP P count base rs e)(h0:0<count)(hle:∀j,j<count->(P j).n<=e):jT P count base count=e:=by
 have h1:=yr P count base e h.le.1 hle count (aDt _);refine Nat.le_antisymm h1 ?_;cases rs with
 |nil=>
  have he:e=base:=h;rw[he];exact pz P count base 0 count pX
 |cons r rs=>
  have hl:=h.UZ rq;have hlt:=h.le.2 rq;have hj:e%count<count:=aFM _ h0;have h2:=pz P count base (e%count+1) count pX
  have h3:e<=jT P count base (e%count+1):=by
   simp only[jT];rw[aDy ⟨by rw[hl];omega,by rw[hl]⟩,hl];omega
  omega
def vC (P:Nat->Piece)(count:Nat)(rec:List UInt8)(last:Nat):Nat->Nat->Piece
 |0=>P
 |k+1=>λj=>if j=(last+1+k)%count then cB rec last (aY rec.length) k else vC P count rec last k j
def Iq {count:Nat}(j:Nat):∀k,(∀i,i<k->j≠(last+1+i)%count)->vC P count rec last k j=P j:=by
 intro k
 induction k with
 |zero=>intro _;rfl
 |succ k ih=>intro h;simp only[vC];rw[aDv (h k pX)];exact ih λi hi=>h i pX
def SH {count:Nat}(k i:Nat)(hi:i<k)(hk:k<=count):vC P count rec last k ((last+1+i)%count)=cB rec last (aY rec.length) i:=by
 induction k with
 |zero=>omega
 |succ k ih=>
  simp only[vC]
  by_cases h:i=k
  .rw[aDy (by rw[h]),h]
  .rw[aDv (uD pX pX)];exact ih pX pX
def iP.put {count:Nat}(h:iP P count base rs last)(hr:aY rec.length+(last-base)<=count):iP (vC P count rec last (aY rec.length)) count base (rs++[rec]) (last+aY rec.length):=by
 have hle:=h.le.1;refine(h.congr λx h1 h2=>Iq _ _ λi hi=>?_).snoc λi hi=>SH _ i hi pX;exact uD pX pX
def Xq {count:Nat}(h:∀j,j<count->(P j).n<=last):∀k,k<=aY rec.length->∀j,j<count->(vC P count rec last k j).n<=last+aY rec.length:=by
 intro k
 induction k with
 |zero=>intro _ j hj;have:=h j hj;simp only[vC];omega
 |succ k ih=>
  intro hk j hj;simp only[vC]
  split
  .unfold cB;simp;omega
  .exact ih pX j hj
end
section
variable {G:List Nat}{L:List (List UInt8)}{x:CV}{Fo:List Nat}
abbrev dN:=Nat×iJ
def Mx (e:dN):List UInt8:=uv e.1++(uv (jb e.2).length++jb e.2)
def dJ (l:List dN):List UInt8:=(l.map Mx).flatten
def BD (e:dN)(l:List dN):dJ (e::l)=uv e.1++(uv (jb e.2).length++(jb e.2++dJ l)):=by unfold dJ Mx;simp
def Fb (a b:List dN):dJ (a++b)=dJ a++dJ b:=by unfold dJ;simp
def SF (e:dN)(l:List dN):dJ (e::l)≠[]:=by
 rw[BD];intro h;have:=yO e.1;have h2:=congrArg List.length h;simp at h2;have h3:(uv e.1).length=0:=by rw[h2.1];rfl
 omega
def Bu (l:List UInt8):jb l++List.replicate (l.length-(jb l).length) 0=l:=by
 have key:∀m:List UInt8,(m.dropWhile (λb=>b==0)).length<=m.length/\List.replicate (m.length-(m.dropWhile (λb=>b==0)).length) 0++m.dropWhile (λb=>b==0)=m:=by
  intro m
  induction m with
  |nil=>simp
  |cons b m ih=>
   rw[List.dropWhile_cons]
   by_cases h:b=0
   .subst h;simp only[beq_self_eq_true,aDQ,aDT];refine⟨pX,?_⟩;rw[show m.length+1-(m.dropWhile (λb=>b==0)).length=(m.length-(m.dropWhile (λb=>b==0)).length)+1 from pX,aFz,aEp,ih.2]
   .rw[aDv R5];simp
 have:=(key l.reverse).2;have h2:=congrArg List.reverse this;rw[List.reverse_append,aFJ,List.reverse_replicate,List.length_reverse]at h2;unfold jb;rw[List.length_reverse];exact h2
def wK (l:List UInt8):(jb l).length<=l.length:=by
 have:=congrArg List.length (Bu l);rw[aDw,aEo]at this;omega
def rf (d:List dN)(l:List dN):List dN:=l.foldl (λd e=>gW d e.1 e.2) d
def cM (d:List dN)(Ls:List (List dN)):List dN:=Ls.foldl rf d
def qi (d:List dN)(Ls:List (List dN))(l:List dN):cM d (Ls++[l])=rf (cM d Ls) l:=by unfold cM;rw[aGe];rfl
def LB (d:List dN)(l:List dN)(e:dN):rf d (l++[e])=gW (rf d l) e.1 e.2:=by unfold rf;rw[aGe];rfl
section
variable {st st':St} {p a:Nat} {lg:CV} {M:bQ} {bd bn bi bc:Nat} {F:List Nat} {D:aP}
def lV.at {vs:List CV}(h:lV st G vs L){i:Nat}(hi:i<L.length):∃ff:i<vs.length,lB st G vs[i] 1 (aj L[i]):=by
 induction vs generalizing L i with
 |nil=>cases L with|nil=>simp at hi|cons l L=>exact h.elim
 |cons v vs ih=>
  cases L with
  |nil=>exact h.elim
  |cons l L=>
   cases i with
   |zero=>exact⟨rq,h.1⟩
   |succ i=>
    obtain⟨a,b⟩:=ih h.2 Wv;exact⟨abv,b⟩
def pq.keep {X:List Nat}(h:pq st x L Fo G)(hk:Kp X st st')(h1:∀b∈Fo,b∉X)(h2:∀b∈G,b∉X):pq st' x L Fo G:=by
 obtain⟨vs,a,b,c,d,e⟩:=h;exact⟨vs,a.keep hk λq hq=>⟨c q hq,h1 q hq⟩,b.keep hk h2,λq hq=>aDM (c q hq) hk.nx,λq hq=>aDM (d q hq) hk.nx,e⟩
def Lw (h:cC st p a lg M bd bn bi bc){Ls:List (List dN)}(hx:pq st x (Ls.map dJ) Fo G)(hFo:∀b∈Fo,b≠bd)(hG:∀b∈G,b≠bd)(hLs:∀l∈Ls,∀e∈l,e.1<M.aE/\e.2.length=512)(hsz:∀l∈Ls,(dJ l).length<=1000000)(hn:Ls.length<=1000000)(qz:M.aE<=1000000):
 R 72 [.ptr p 0,x] st λv st'=>v=.bool true/\Kp [bd] st st'/\cC st' p a lg {M with dirty:=cM M.dirty Ls} bd bn bi bc:=by
 refine bN ?_;rw[w72];have To:=hx;obtain⟨vs0,hv1,hv2,hv3,hv4,hv5⟩:=hx;have hvl:vs0.length=Ls.length:=by have:=hv2.len;rw[aEt]at this;exact this
 have hlen:=λs=>(hv1.sl (X:=[]) λb hb=>⟨rq,hv3 b hb⟩).len Ls.length pX pX s;rw[cK,hlen,af];simp only[aH,aI];refine bK (λfu vs s=>∃i,fu+i=Ls.length/\vs=[.ptr p 0,x,I Ls.length,I i]/\Kp [bd] st s/\cC s p a lg {M with dirty:=cM M.dirty (Ls.take i)} bd bn bi bc/\pq s x (Ls.map dJ) Fo G) ?_ (n:=Ls.length) ⟨0,rfl,rfl,Kp.refl _ _,h,To⟩;rintro fu vs s k ⟨i,hi,rfl,hk,hP,hR⟩ next;simp only[aH,aI];rw[dq,af,ag]
 by_cases hc:i<Ls.length
 .rw[aDz hc,aDy rfl];obtain⟨vs1,r1,r2,r3,r4,r5⟩:=hR;have axy:vs1.length=Ls.length:=by have:=r2.len;rw[aEt]at this;exact this
  have lu:Sl s [] x 1 vs1:=r1.sl λb hb=>⟨rq,r3 b hb⟩;refine lu.idx (i:=i) pX _ ?_;obtain⟨ff,Yj⟩:=r2.at (i:=i) Hw;rw[List.getElem_map]at Yj;have Be:=aDL hc;rw[cK];refine(vR Yj.nil (hsz _ Be)).mono ?_;rintro _ ey ⟨r,Fr,rfl,rl,Bc,P7⟩;have apc:=pq.keep ⟨vs1,r1,r2,r3,r4,r5⟩ rl rq rq;have n13:=rl.nx;simp only[aH,aI];refine bK (λfu2 vs s'=>∃done rest,done++rest=Ls[i]/\fu2=rest.length/\vs=[.ptr p 0,.ptr r 0,x,I Ls.length,I i]/\Kp (bd::Fr) ey s'/\cC s' p a lg {M with dirty:=rf (cM M.dirty (Ls.take i)) done} bd bn bi bc/\oo s' r Fr (dJ rest)/\pq s' x (Ls.map dJ) Fo G) ?_ (n:=Ls[i].length) ⟨[],Ls[i],rfl,rfl,rfl,Kp.refl _ _,hP.keep rl rq,Bc,apc⟩;rintro fu2 vs s4 k2 ⟨done,rest,PM,anZ,rfl,kW,RM,Tu,hR4⟩ acH;simp only[aH,aI];have afk:=h.lt bd rq;have mc:=hk.nx;have P6:∀b∈Fr,st.nx<=b:=λb hb=>by have:=P7 b hb;omega
  refine(qh Tu).same ?_;simp only[aL,aDQ,bp,af,eE];refine(Un Tu).same ?_;cases rest with
  |nil=>
   rw[aDz (show dJ []=[]from rfl)];simp only[cN,aDJ,af,aJ,aDQ,ag,aDp,aDE,gT i pX];have he:=aDH hc;refine next (fu-1) _ _ pX ⟨i+1,pX,rfl,?_,?_,hR4⟩
   .exact(hk.trans rl rq).trans kW λq hq=>by
     rcases aDs.1 hq with rfl|hq
     .exact .inl rq
     .exact .inr (P6 q hq)
   .rw[he,qi,<-PM,aEs];exact RM
  |cons e rest=>
   obtain⟨n,sec⟩:=e;have hes:=hLs _ Be (n,sec) (by rw[<-PM];simp);rw[aDr (SF _ _)];have Cd:=RM.main;have e1:=yR M.aE pX pX s4 none;simp only[cN,aDI,af,aJ,aDQ,ag,eW,br,ah,aC,Cd,ar,aDx,aDq,aDo,az,e1];rw[BD]at Tu;have afl:∀b∈[p,bd,bn,bi,bc],b∉Fr:=λb hb hh=>by have:=h.lt b hb;have:=P6 b hh;omega
   refine(kP (m:=M.aE-1) Tu (by show n<=_;have:=hes.1;simp at this;omega) pX).mono ?_;rintro _ s7 ⟨rfl,k7,n7,rd7⟩;have htl:=wK sec;have vX:sec.length=512:=hes.2;refine(CZ (m:=512) rd7 (by show(jb sec).length<=_;omega) pX).mono ?_;rintro _ s8 ⟨rfl,k8,n8,rd8⟩;refine(qh rd8).same ?_;simp only[cN,aDJ,af,ag,aDp,aDE];have hP8:=(RM.keep k7 afl).keep k8 afl;rw[cE,aT];have rn:Kp [] s8 (St.new s8 (.cells (zr 512) 173 false)):=(Kp.refl [] s8).new _;have RQ:(St.new s8 (.cells (zr 512) 173 false)).m.g s8.nx=some (.cells (zr 512) 173 false):=aw _ _;have LR:(St.new s8 (.cells (zr 512) 173 false)).nx=s8.nx+1:=rfl;generalize St.new s8 (.cells (zr 512) 173 false)=dp at*;have AL:bR 512 1 (.ptr s8.nx 0) none none dp=.ok (.slice s8.nx 0 512 512 0) dp:=rfl;rw[AL,af];obtain⟨c9,c1,c2,c3,c4⟩:=FD (b:=s8.nx) (off:=0) (n:=512) (cap:=512) (d:=jb sec) RQ pX (by rw[pU];omega);rw[c1,aT,bA]
   have kq:bo (zr 512) 0 (aj (jb sec))=aj sec:=by
    unfold bo;rw[aFj,aDV,bJ,aDx,nI]
    conv=>rhs;rw[<-Bu sec]
    rw[bF]
    congr 1
    unfold aj;rw[<-aEN]
    congr 1
    rw[aFA,vX]
   rw[kq]at c3
   have rh:Kp [s8.nx] dp c9:=⟨pX,λq h1 h2=>c4 q WJ,λhf q hq=>by
    have:q≠s8.nx:=pX
    rw[c4 q this];exact hf q pX⟩
   have Gj:∀b∈[p,bd,bn,bi,bc],b∉[s8.nx]:=λb hb=>by have:=hP8.lt b hb;simp;omega
   have yl:=(hP8.keep rn rq).keep rh Gj;have Pu:=yl.main;obtain⟨blk,u1,u2,u3⟩:=IsMap.update yl.dirty n (.agg (aj sec));rw[vx]at u2;have qC:(aj sec).length=512:=by simpa using vX
   simp only[Pu,ar,aDq,aDo,az];rw[aR (n:=512) c3 qC,af,u1,aT];refine⟨⟨adu,adu,adu⟩,adu,?_⟩;have rk:=h.nd;simp only[aDG,aDs,aEe,aEW,aEM]at rk;have afn:=yl.lt bd rq;have rm:Kp [bd] c9 (St.set c9 bd blk):=(Kp.refl _ c9).set _ (.inl rq) afn;have acQ:Kp (bd::Fr) s4 (St.set c9 bd blk):=((((k7.mono (by intro q hq;left;simp[hq])).trans k8 (by intro q hq;left;simp[hq])).trans rn rq).trans rh (by intro q hq;right;simp at hq;omega)).trans rm (by intro q hq;left;simp at hq;simp[hq]);have afE:∀b∈Fr,b<s8.nx:=λb hb=>by obtain⟨_,_,_,_,_,h3,_⟩:=rd8;exact h3 b hb
   have Jf:cC (St.set c9 bd blk) p a lg {M with dirty:=rf (cM M.dirty (Ls.take i)) (done++[(n,sec)])} bd bn bi bc:=
    ⟨(al _ _ _ _ (aEr (aEr rk.1.1))).trans Pu,by rw[LB];exact u2,yl.now.mono (al _ _ _ _ (aEr rk.2.1.1)),yl.idle.mono (al _ _ _ _ (aEr rk.2.1.2.1)),yl.count.mono (al _ _ _ _ (aEr rk.2.1.2.2)),h.nd,yl.lt,h.lgs⟩
   refine acH rest.length _ _ (by rw[anZ];simp) ⟨done++[(n,sec)],rest,by rw[<-PM];simp,rfl,rfl,kW.trans acQ (adt),Jf,?_,?_⟩
   .exact((rd8.keep rn rq).keep rh λb hb=>by have:=afE b hb;simp;omega).keep rm λb hb=>by have:=P6 b hb;simp;omega
   .exact hR4.keep acQ (λb hb hh=>by
     rcases aDs.1 hh with rfl|hh
     .exact hFo _ hb rfl
     .have h1:=P7 b hh;obtain⟨_,_,_,q3,_,_⟩:=To;have:=q3 b hb;omega) (λb hb hh=>by
     rcases aDs.1 hh with rfl|hh
     .exact hG _ hb rfl
     .have h1:=P7 b hh;obtain⟨_,_,_,_,q4,_⟩:=To;have:=q4 b hb;omega)
 .rw[aDr hc,aDv wI];have he:Ls.take i=Ls:=aDA pX;rw[he]at hP;exact⟨adu,hk,hP⟩
end
end
