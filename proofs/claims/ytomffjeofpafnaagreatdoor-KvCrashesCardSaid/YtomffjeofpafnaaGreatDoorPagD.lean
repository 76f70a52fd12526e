import Derived.Test.YtomffjeofpafnaaGreatDoorBtA
namespace Lim
open Go
noncomputable section
set_option linter.defProp false
section
variable {D:aU}{i:Nat}{s:iT}
structure Calm (D:aU):Prop where
 dead:D.dead=false
def Eh (kept:Nat->Bool)(w:qj):∀(W:List qj) (i:Nat) (L:List iT),gG kept i L (W++[w])=if kept (i+W.length)=true then (gG kept i L W).set w.1 w.2 else gG kept i L W:=by
 intro W
 induction W with
 |nil=>intro i L;simp[gG]
 |cons v W a=>
  intro i L;simp only[aIL,gG,aIg];rw[a];rw[show i+1+W.length=i+(W.length+1) from uM]
def aU.Iu (D:aU)(W:List qj)(w:qj)(j:Nat)(D' a:aU)(e:D'.waits=W++[w])(d:D'.aq=D.aq)(c:a.waits=W)(b:a.aq=D.aq):D'.cur j=if j=w.1 then w.2 else a.cur j:=by
 unfold aU.cur;rw[e,c,yO]
 by_cases h:j=w.1
 .rw[aHP uM,aHP h];simp
 .rw[aHM uM,aHM h];cases hx:oU W (j:Int)with
  |none=>simp only[d,b]
  |some k=>
   have:=yi hx;simp only[aJy,aJi this]
def settled (L:List iT):∀(W:List qj),(∀w∈W,w.1<L.length)->∀(D:aU),D.waits=W->D.aq=L->∀j,(gG (λ_=>true) 0 L W).getD j []=D.cur j:=by
 suffices key:∀V:List qj,(∀w∈V.reverse,w.1<L.length)->∀(D:aU),D.waits=V.reverse->D.aq=L->∀j,(gG (λ_=>true) 0 L V.reverse).getD j []=D.cur j by
  intro W c D b a j;have:=key W.reverse (by rwa [aKn]) D (by rwa [aKn]) a j
  rwa [aKn]at this
 intro V
 induction V with
 |nil=>
  intro _ D b a j;unfold aU.cur;rw[b,List.reverse_nil,vE,a];rfl
 |cons w V e=>
  intro c D b a j;rw[List.reverse_cons]at c b⊢;rw[Eh,aHP rfl];have g:=e (λv d=>c v (by simp at d⊢;exact .inl d)) {D with waits:=V.reverse} rfl a j;rw[aU.Iu D V.reverse w j D {D with waits:=V.reverse} b rfl rfl rfl];have f:w.1<(gG (λ_=>true) 0 L V.reverse).length:=by rw[pJ];exact c w wb
  by_cases h:j=w.1
  .rw[aHP h,h];simp[aJy,f]
  .rw[aHM h,<-g];simp only[aJy];rw[List.getElem?_set_ne (aIG h)]
def aU.Dq (D:aU):Prop:=∀w∈D.waits,w.1<D.aq.length
structure ln (L:List iT)(W:List qj)(D':aU):Prop where
 dead:D'.dead=true
 waits:D'.waits=[]
 len:D'.aq.length=L.length
 cur:∀j,D'.cur j=L.getD j []\/∃w∈W,w.1=j/\D'.cur j=w.2
def Gw (kept:Nat->Bool)(j:Nat):∀(W:List qj) (i:Nat) (L:List iT),(gG kept i L W).getD j []=L.getD j []\/∃w∈W,w.1=j/\(gG kept i L W).getD j []=w.2:=by
 intro W
 induction W with
 |nil=>intro i L;exact .inl rfl
 |cons w W b=>
  intro i L;simp only[gG];rcases b (i+1) (if kept i=true then L.set w.1 w.2 else L)with h|⟨v,c,e,d⟩
  .rw[h]
   split
   .by_cases a:w.1=j
    .by_cases hl:j<L.length
     .right;refine⟨w,wb,a,?_⟩;subst a;simp[aJy,hl]
     .left;rw[List.set_eq_of_length_le uM]
    .left;simp only[aJy];rw[List.getElem?_set_ne a]
   .exact .inl rfl
  .exact .inr ⟨v,aIH _ c,e,d⟩
def lK (h:D.waits=[])(j:Nat):D.cur j=D.aq.getD j []:=by unfold aU.cur;rw[h,vE]
def MK (D:aU)(keep:List Bool):ln D.aq D.waits (D.za keep):=by
 refine⟨rfl,rfl,pJ _ _ _ _,λj=>?_⟩;rw[lK (D:=D.za keep) rfl];exact Gw _ j D.waits 0 D.aq
def ln.more {L:List iT}{W a:List qj}{D':aU}(h:ln L W D')(b:∀w∈W,w∈a):ln L a D':=
 ⟨h.dead,h.waits,h.len,λj=>(h.cur j).imp id λ⟨w,h1,h2⟩=>⟨w,b w h1,h2⟩⟩
def Jg (h:Calm D)(hi:i<D.aq.length)(b:s.length=512):
 ((D.write i s).1=0/\D.write i s=(0,{D with waits:=D.waits++[(i,s)]}.tick))\/((D.write i s).1=20/\D.set=true/\ln D.aq (D.waits++[(i,s)]) (D.write i s).2):=by
 have e:D.write i s=if D.out then (20,{D with waits:=D.waits++[(i,s)]}.za D.keep)else (0,{D with waits:=D.waits++[(i,s)]}.tick):=by
  unfold aU.write;rw[aHM (by rw[h.dead];decide),aHM (by rw[b];omega)];rfl
 rw[e]
 by_cases a:D.out
 .rw[aHP a];exact .inr ⟨rfl,a.1,MK {D with waits:=D.waits++[(i,s)]} D.keep⟩
 .rw[aHM a];exact .inl ⟨rfl,rfl⟩
def Calm.write (h:Calm D)(hi:i<D.aq.length)(c:s.length=512)(b:D.Dq):
 ((D.write i s).1=0/\Calm (D.write i s).2/\(D.write i s).2.aq=D.aq/\(D.write i s).2.Dq/\(D.write i s).2.waits=D.waits++[(i,s)]/\(∀j,(D.write i s).2.cur j=if j=i then s else D.cur j)/\(D.write i s).2.set=D.set)\/
 ((D.write i s).1=20/\D.set=true/\ln D.aq (D.waits++[(i,s)]) (D.write i s).2):=by
 rcases Jg h hi c with⟨_,e⟩|d
 .left;rw[e];refine⟨rfl,⟨h.dead⟩,rfl,?_,rfl,λj=>?_,rfl⟩
  .intro w a;have a:w∈D.waits++[(i,s)]:=a;rcases aHT.1 a with h1|h1
   .exact b w h1
   .have:w=(i,s):=by simpa using h1
    rw[this];exact hi
  .exact aU.Iu D D.waits (i,s) j _ D rfl rfl rfl rfl
 .exact .inr d
def Calm.flush (h:Calm D)(b:D.Dq):
 (D.flush.1=0/\Calm D.flush.2/\D.flush.2.aq.length=D.aq.length/\D.flush.2.waits=[]/\(∀j,D.flush.2.cur j=D.cur j)/\D.flush.2.set=D.set)\/(D.flush.1=20/\D.set=true/\ln D.aq D.waits D.flush.2):=by
 have e:D.flush=if D.out then (20,D.za D.keep)else (0,(D.tick).settle λ_=>true):=by
  unfold aU.flush;rw[aHM (by rw[h.dead];decide)]
 rw[e]
 by_cases a:D.out
 .rw[aHP a];exact .inr ⟨rfl,a.1,MK D D.keep⟩
 .rw[aHM a];refine .inl ⟨rfl,⟨h.dead⟩,pJ _ _ _ _,rfl,λj=>?_,rfl⟩;rw[<-settled D.aq D.waits b D rfl rfl j]
  rfl
def Calm.read (h:Calm D)(hi:i<D.aq.length):D.read i=(0,D.cur i):=by
 unfold aU.read;rw[aHM (by rw[h.dead];decide),aHM uM];rfl
def Calm.head (h:Calm D)(d:D.waits=[])(l:0<D.aq.length)(base:Nat):
 ((D.head base).1=0/\Calm (D.head base).2/\(D.head base).2.aq.length=D.aq.length/\(D.head base).2.waits=[]/\(∀j,(D.head base).2.cur j=if j=0 then c9 base else D.cur j)/\(D.head base).2.set=D.set)\/
 ((D.head base).1=20/\D.set=true/\ln D.aq [(0,c9 base)] (D.head base).2):=by
 unfold aU.head;rcases h.write l (rG base) (by unfold aU.Dq;rw[d];simp)with⟨a,g,b,r,q,p,k⟩|⟨a,g,b⟩
 .have a:(D.write 0 (c9 base)).1=0:=a;rw[aHP a];rcases g.flush r with⟨f,e,c,o,n,m⟩|⟨f,e,c⟩
  .exact .inl ⟨f,e,by rw[<-b];exact c,o,λj=>(n j).trans (p j),m.trans k⟩
  .refine .inr ⟨f,k.symm.trans e,?_⟩;rw[b,q,d]at c;exact c
 .have a:(D.write 0 (c9 base)).1=20:=a;rw[aHM (by rw[a];decide)];rw[d]at b;exact .inr ⟨a,g,b⟩
end
set_option maxRecDepth 100000
def Gr {l:List Nat}{n:Nat}(h:n∉l):fX l n=l++[n]:=by
 induction l with
 |nil=>rfl
 |cons p r b=>
  simp only[aHJ,aJf]at h;simp only[fX,aHM h.1,aIL];rw[b h.2]
def bR.clean (M:bR)(m:iZ)(idle:List Nat):bR:={M with now:=[],count:=[],m:=m,kept:=m,idle:=idle}
section
variable {st st':St} {p a:Nat} {lg:CV} {M:bR} {bd bn bi bc:Nat} {F:List Nat} {D:aU}
def IM (h:bZ st p a lg M bd bn bi bc)(hd:cQ st a F D)(nj:D.dead=false)(hF:∀b∈F,b≠p){m':iZ}{frs:List Nat}
 (h0:({M with now:=[]}:bR).get D 0=bO m') (hm:Th (bO m')=m') (NX:M.first+M.aE<=D.aq.length) (px:0<M.aE) (Y:m'.head=frs.headD 0) (jH:∀n∈frs,0<n/\n<M.aE) (jm:frs.Nodup) (jT:O3 {M with now:=[]} D frs):
 R 75 [.ptr p 0] st λv st'=>v=I 0/\Kp [p] st st'/\∃O0 TF TG,bZ st' p a lg (M.clean m' frs) bd O0 TF TG/\∀b∈[O0,TF,TG],st.nx<=b:=by
 refine bK ?_;rw[w75];have ap:=(show D.aq.length<=65536 from by obtain⟨_,_,_,_,_,_,_,h⟩:=hd;exact h.size);rw[cc,af,ag,aHM xI,fV,aP,fV,aP,fV,aP];have w:(St.new st (.map [] 0)).nx=st.nx+1:=rfl;have u:(St.new (St.new st (.map [] 0)) (.map [] 0)).nx=st.nx+2:=rfl;have j:(St.new (St.new (St.new st (.map [] 0)) (.map [] 0)) (.map [] 0)).nx=st.nx+3:=rfl;rw[w,u];have U:Kp [] st (St.new (St.new (St.new st (.map [] 0)) (.map [] 0)) (.map [] 0)):=(((Kp.refl [] st).new _).new _).new _;have m1:dd (St.new (St.new (St.new st (.map [] 0)) (.map [] 0)) (.map [] 0)) st.nx []:=(dd.new st).mono acM;have m2:dd (St.new (St.new (St.new st (.map [] 0)) (.map [] 0)) (.map [] 0)) (st.nx+1) []:=(dd.new (St.new st (.map [] 0))).mono aci;have m3:dd (St.new (St.new (St.new st (.map [] 0)) (.map [] 0)) (.map [] 0)) (st.nx+2) []:=dd.new (St.new (St.new st (.map [] 0)) (.map [] 0));generalize St.new (St.new (St.new st (.map [] 0)) (.map [] 0)) (.map [] 0)=s3 at*;have V:=h.lt p wb;have ae:=h.lt bd wb;have nd:=h.nd;simp only[aHX,aHJ,aIo,aJj,aJf]at nd;have g3:=(U.keep p V wb).trans h.main;have qf:bz [.ptr a 0,lg,I M.first,I M.aE,.map bd,.map bn,I M.kept.root,I M.kept.used,I M.kept.head,I M.kept.free,I M.m.root,I M.m.used,I M.m.head,I M.m.free,.map bi,.map bc] 5 [.map st.nx]=[.ptr a 0,lg,I M.first,I M.aE,.map bd,.map st.nx,I M.kept.root,I M.kept.used,I M.kept.head,I M.kept.free,I M.m.root,I M.m.used,I M.m.head,I M.m.free,.map bi,.map bc]:=rfl
 have kJ:bz [.ptr a 0,lg,I M.first,I M.aE,.map bd,.map st.nx,I M.kept.root,I M.kept.used,I M.kept.head,I M.kept.free,I M.m.root,I M.m.used,I M.m.head,I M.m.free,.map bi,.map bc] 15 [.map (st.nx+1)]=[.ptr a 0,lg,I M.first,I M.aE,.map bd,.map st.nx,I M.kept.root,I M.kept.used,I M.kept.head,I M.kept.free,I M.m.root,I M.m.used,I M.m.head,I M.m.free,.map bi,.map (st.nx+1)]:=rfl;have AZ:bz [.ptr a 0,lg,I M.first,I M.aE,.map bd,.map st.nx,I M.kept.root,I M.kept.used,I M.kept.head,I M.kept.free,I M.m.root,I M.m.used,I M.m.head,I M.m.free,.map bi,.map (st.nx+1)] 14 [.map (st.nx+2)]=[.ptr a 0,lg,I M.first,I M.aE,.map bd,.map st.nx,I M.kept.root,I M.kept.used,I M.kept.head,I M.kept.free,I M.m.root,I M.m.used,I M.m.head,I M.m.free,.map (st.nx+2),.map (st.nx+1)]:=rfl
 have T:∀{s:St} {l:List CV} {x:CV} {o:Nat} {K:St->Prop},s.m.g p=some (.cells l 158 false)->x.cK=[x]->cF x=true->o<l.length->K (St.set s p (.cells (bz l o [x]) 158 false))->mc 1 o (.ptr p 0) x s K:=by
  intro s l x o K O h1 h2 h3 P;simp only[mc,bj,ah,af,aH,O,aS,h1,aHN];exact⟨⟨rfl,adb,h3⟩,P⟩
 refine T g3 rfl rfl (by decide:(5:Nat)<16) ?_;refine T (an _ _ _) rfl rfl (by rw[qf];exact(by decide:(15:Nat)<16)) ?_;rw[qf,set_set];refine T (an _ _ _) rfl rfl (by rw[kJ];exact(by decide:(14:Nat)<16)) ?_;rw[kJ,set_set,AZ]
 have Tz:bZ (St.set s3 p (.cells [.ptr a 0,lg,I M.first,I M.aE,.map bd,.map st.nx,I M.kept.root,I M.kept.used,I M.kept.head,I M.kept.free,I M.m.root,I M.m.used,I M.m.head,I M.m.free,.map (st.nx+2),.map (st.nx+1)] 158 false)) p a lg {M with now:=[],idle:=[],count:=[]} bd st.nx (st.nx+2) (st.nx+1):=
  ⟨an _ _ _,h.dirty.mono ((ak _ _ _ _ (aIG nd.1.1)).trans (U.keep bd ae wb)),m1.mono (ak _ _ _ _ uM),m3.mono (ak _ _ _ _ uM),m2.mono (ak _ _ _ _ uM),by
   simp only[aHX,aHJ,aIo,aJj,aJf];refine⟨⟨nd.1.1,uM,uM,uM⟩,⟨uM,uM,uM⟩,⟨uM,uM⟩,uM,not_false,aJQ⟩,by
   intro b hb;simp at hb;show b<s3.nx;omega,h.lgs⟩
 have k6:Kp [p] st (St.set s3 p (.cells [.ptr a 0,lg,I M.first,I M.aE,.map bd,.map st.nx,I M.kept.root,I M.kept.used,I M.kept.head,I M.kept.free,I M.m.root,I M.m.used,I M.m.head,I M.m.free,.map (st.nx+2),.map (st.nx+1)] 158 false)):=(U.mono wb).set _ (.inl wb) uM;have n6:(St.set s3 p (.cells [.ptr a 0,lg,I M.first,I M.aE,.map bd,.map st.nx,I M.kept.root,I M.kept.used,I M.kept.head,I M.kept.free,I M.m.root,I M.m.used,I M.m.head,I M.m.free,.map (st.nx+2),.map (st.nx+1)] 158 false)).nx=st.nx+3:=j;generalize St.set s3 p (.cells [.ptr a 0,lg,I M.first,I M.aE,.map bd,.map st.nx,I M.kept.root,I M.kept.used,I M.kept.head,I M.kept.free,I M.m.root,I M.m.used,I M.m.head,I M.m.free,.map (st.nx+2),.map (st.nx+1)] 158 false)=s6 at*;have S:=hd.keep k6 λb hb=>adh
 have A6:∀n,({M with now:=[],idle:=[],count:=[]}:bR).get D n=({M with now:=[]}:bR).get D n:=λn=>rfl;have A:=il m';refine(zE Tz S nj (n:=0) (by show M.first+0<_;omega) (by rw[A6,h0];exact A)).mono ?_;rintro _ L ⟨rfl,k7⟩;rw[aD,af,aI,aD,af,A6,h0];have vP:(ai (bO m')).length=512:=by simpa using A
 refine gW vP (bu _) ?_;have k9:=k7.page (ai (bO m'));have g9:(St.set (St.new L (.cells (zr 512) 173 false)) L.nx (.cells (ai (bO m')) 173 false)).m.g L.nx=some (.cells (ai (bO m')) 173 false):=an _ _ _;generalize St.set (St.new L (.cells (zr 512) 173 false)) L.nx (.cells (ai (bO m')) 173 false)=s9 at*;have e2:∀s,aj .neq (some .int) true (I 0) (.int .i64 0) s=.ok (.bool false) s:=λs=>rfl;rw[e2,af,ag,aHM xI,aM (n:=512) g9 vP,af];refine(WN A).mono ?_;rintro _ f ⟨rfl,oq⟩;rw[hm];have Kf:=k9.trans oq wb;have i:=Tz.keep Kf wb;have KB:=S.keep Kf wb;have ac:=i.main
 have ab:∀{s:St} {w u j H G E C B:CV} {K:St->Prop},s.m.g p=some (.cells [.ptr a 0,lg,I M.first,I M.aE,.map bd,.map st.nx,w,u,j,H,G,E,C,B,.map (st.nx+2),.map (st.nx+1)] 158 false)->K (St.set s p (.cells [.ptr a 0,lg,I M.first,I M.aE,.map bd,.map st.nx,w,u,j,H,I m'.root,I m'.used,I m'.head,I m'.free,.map (st.nx+2),.map (st.nx+1)] 158 false))->mc 4 10 (.ptr p 0) (.agg [I m'.root,I m'.used,I m'.head,I m'.free]) s K:=by
  intro s w u j H G E C B K O P;simp only[mc,bj,ah,af,aH,O,aS,aT,aHN];exact⟨⟨rfl,rfl,wb⟩,P⟩
 refine ab ac ?_;rw[show zx 4 10 (.ptr p 0) (St.set f p (.cells [.ptr a 0,lg,I M.first,I M.aE,.map bd,.map st.nx,I M.kept.root,I M.kept.used,I M.kept.head,I M.kept.free,I m'.root,I m'.used,I m'.head,I m'.free,.map (st.nx+2),.map (st.nx+1)] 158 false))=λK=>us (dJ (.ptr p 0) (St.set f p (.cells [.ptr a 0,lg,I M.first,I M.aE,.map bd,.map st.nx,I M.kept.root,I M.kept.used,I M.kept.head,I M.kept.free,I m'.root,I m'.used,I m'.head,I m'.free,.map (st.nx+2),.map (st.nx+1)] 158 false))) λp'=>us (al 10 p' _) λa'=>us (aJ 4 a' _) K from rfl];simp only[bj,af,ah,aHN];rw[gL (n:=4) (an _ _ _) wb,af]
 have Rh:∀{s:St} {w u j H G E C B:CV} {K:St->Prop},s.m.g p=some (.cells [.ptr a 0,lg,I M.first,I M.aE,.map bd,.map st.nx,w,u,j,H,G,E,C,B,.map (st.nx+2),.map (st.nx+1)] 158 false)->K (St.set s p (.cells [.ptr a 0,lg,I M.first,I M.aE,.map bd,.map st.nx,I m'.root,I m'.used,I m'.head,I m'.free,G,E,C,B,.map (st.nx+2),.map (st.nx+1)] 158 false))->mc 4 6 (.ptr p 0) (.agg [I m'.root,I m'.used,I m'.head,I m'.free]) s K:=by
  intro s w u j H G E C B K O P;simp only[mc,bj,ah,af,aH,O,aS,aT,aHN];exact⟨⟨rfl,rfl,wb⟩,P⟩
 refine Rh (an _ _ _) ?_;rw[set_set];have ZW:=i.lt p wb;have Ke:Kp [p] s6 (St.set f p (.cells [.ptr a 0,lg,I M.first,I M.aE,.map bd,.map st.nx,I m'.root,I m'.used,I m'.head,I m'.free,I m'.root,I m'.used,I m'.head,I m'.free,.map (st.nx+2),.map (st.nx+1)] 158 false)):=(Kf.mono wb).set _ (.inl wb) ZW
 have Cv:bZ (St.set f p (.cells [.ptr a 0,lg,I M.first,I M.aE,.map bd,.map st.nx,I m'.root,I m'.used,I m'.head,I m'.free,I m'.root,I m'.used,I m'.head,I m'.free,.map (st.nx+2),.map (st.nx+1)] 158 false)) p a lg (M.clean m' []) bd st.nx (st.nx+2) (st.nx+1):=by
  have Q:=i.nd;simp only[aHX,aHJ,aIo,aJj,aJf]at Q;exact⟨an _ _ _,i.dirty.mono (ak _ _ _ _ (aIG Q.1.1)),i.now.mono (ak _ _ _ _ (aIG Q.1.2.1)),i.idle.mono (ak _ _ _ _ (aIG Q.1.2.2.1)),i.count.mono (ak _ _ _ _ (aIG Q.1.2.2.2)),i.nd,i.lt,h.lgs⟩
 generalize St.set f p (.cells [.ptr a 0,lg,I M.first,I M.aE,.map bd,.map st.nx,I m'.root,I m'.used,I m'.head,I m'.free,I m'.root,I m'.used,I m'.head,I m'.free,.map (st.nx+2),.map (st.nx+1)] 158 false)=bV at*;have NY:=S.keep Ke λb hb=>adh
 have am:=k6.trans Ke wb;have LI:=Ke.nx;have NT:=Cv.main;have Ru:∀done n,(M.clean m' done).get D n=({M with now:=[]}:bR).get D n:=λdone n=>rfl;rw[cM];simp only[sy,bj,ah,af,az,NT,ar,aHN,Nat.reduceAdd,aHI,aHG,aw,aK,aL];refine bG (λfu vs s=>∃done c,done++c=frs/\fu=c.length/\vs=[.ptr p 0,I (c.headD 0)]/\Kp [st.nx+2] bV s/\bZ s p a lg (M.clean m' done) bd st.nx (st.nx+2) (st.nx+1)/\O3 {M with now:=[]} D c) ?_ (n:=frs.length) ⟨[],frs,rfl,rfl,by show [CV.ptr p 0,I m'.head]=_;rw[Y],Kp.refl _ _,Cv,jT⟩;rintro fu vs s k ⟨done,c,J,Z,rfl,X,d,z⟩ next;simp only[aK,aL];have mC:=X.nx;cases c with
 |nil=>
  have e3:aj .neq (some .int) true (I (([]:List Nat).headD 0)) (.int .i64 0) s=.ok (.bool false) s:=rfl;rw[e3,af,ag,aHM xI];rw[aIJ]at J;subst J;exact⟨afp,am.trans X (by intro q hq;simp at hq;right;omega),st.nx,st.nx+2,st.nx+1,d,by intro b hb;simp at hb;omega⟩
 |cons n r=>
  have hn:=jH n (by rw[<-J];simp)
  have Vl:n∉done:=by
   intro hh;have:=jm;rw[<-J,aIE]at this;exact this.2.2 n hh n wb rfl
  have e3:aj .neq (some .int) true (I ((n::r).headD 0)) (.int .i64 0) s=.ok (.bool true) s:=by
   rw[av,ff];show OR.ok (.bool (!decide ((n:Int)=0))) s=_;rw[aHL uM];rfl
  have e4:aj .lss none true (I ((n::r).headD 0)) (.int .i64 0) s=.ok (.bool false) s:=by
   rw[av,c8];show OR.ok (.bool (decide ((n:Int)<0))) s=_;rw[aHL uM]
  have e5:aj .geq none false (I ((n::r).headD 0)) (I M.aE) s=.ok (.bool false) s:=by
   rw[av,qE];show OR.ok (.bool (decide ((M.aE:Int)<=(n:Int)))) s=_;rw[aHL uM]
  have A2:=d.main;have hl:=IsMap.lookup (.inl d.idle) (.bool false) false n s rfl;rw[aHM xI,Ad,aHM (show¬n∈(M.clean m' done).idle from Vl)]at hl;simp only[Option.getD_none]at hl;have NS:s.m.g p=some (.cells [.ptr a 0,lg,I M.first,I M.aE,.map bd,.map st.nx,I m'.root,I m'.used,I m'.head,I m'.free,I m'.root,I m'.used,I m'.head,I m'.free,.map (st.nx+2),.map (st.nx+1)] 158 false):=A2;rw[e3,af,ag,aHP rfl,e4,af];simp only[aG,aHH,aHV,aHY,ba,af,jV,bj,ah,az,NS,ar,aHN,aHI,aHG,aw,e5,aF];rw[show gj .int (.bool false) false (.map (st.nx+2)) (I ((n::r).headD 0)) s=.ok (.bool false) s from hl,af];simp only[ag,aHH,aHV];obtain⟨blk,u1,u2,u3⟩:=IsMap.update (.inl d.idle) n (.bool true);have u4:=u3 d.idle;rw[wx,show(M.clean m' done).idle=done from rfl,Gr Vl]at u4;simp only[eQ,bj,ah,af,az,NS,ar,aHN,aHI,aHG,aw];rw[show dG .int (.map (st.nx+2)) (I ((n::r).headD 0)) (.bool true) s=.ok .undef (St.set s (st.nx+2) blk)from u1,aP];have Fb:=d.lt (st.nx+2) wb;have N:=d.nd;simp only[aHX,aHJ,aIo,aJj,aJf]at N
  have rI:bZ (St.set s (st.nx+2) blk) p a lg (M.clean m' (done++[n])) bd st.nx (st.nx+2) (st.nx+1):=
   ⟨(ak _ _ _ _ N.1.2.2.1).trans A2,d.dirty.mono (ak _ _ _ _ N.2.1.2.1),d.now.mono (ak _ _ _ _ N.2.2.1.1),u4,d.count.mono (ak _ _ _ _ (aIG N.2.2.2.1)),d.nd,d.lt,h.lgs⟩
  have mM:Kp [st.nx+2] bV (St.set s (st.nx+2) blk):=X.set _ (.inl wb) Fb;generalize St.set s (st.nx+2) blk=iV at*;have aa:∀b∈F,b∉[st.nx+2]:=λb hb=>by have:=hd.lt b hb;simp;omega
  have Fl:=NY.keep mM aa;have y:(fj (r.headD 0)).length=512:=ta _;refine(zE rI Fl nj (n:=n) (by show M.first+n<_;omega) (by rw[Ru,z.1];exact y)).mono ?_;rintro _ e ⟨rfl,yj⟩;rw[aD,af,aI,aD,af,Ru,z.1];have ad:(ai (fj (r.headD 0))).length=512:=by simpa using y
  refine gW ad (bu _) ?_;have NI:=yj.page (ai (fj (r.headD 0)));have RV:(St.set (St.new e (.cells (zr 512) 173 false)) e.nx (.cells (ai (fj (r.headD 0))) 173 false)).m.g e.nx=some (.cells (ai (fj (r.headD 0))) 173 false):=an _ _ _;have ao:(St.set (St.new e (.cells (zr 512) 173 false)) e.nx (.cells (ai (fj (r.headD 0))) 173 false)).nx=e.nx+1:=rfl;generalize St.set (St.new e (.cells (zr 512) 173 false)) e.nx (.cells (ai (fj (r.headD 0))) 173 false)=fv at*;have zH:bT 512 1 (.ptr e.nx 0) none (some (.int .i64 4)) fv=.ok (.slice e.nx 0 4 512 0) fv:=rfl;rw[e2,af,ag,aHM xI,zH,af];have xL:ai ((fj (r.headD 0)).take 4)=(ai (fj (r.headD 0))).take 4:=ack
  have jS:Sl fv [] (.slice e.nx 0 4 512 0) 1 (ai ((fj (r.headD 0)).take 4)):=.inr ⟨e.nx,0,4,512,0,rfl,by rw[xL,aHZ];omega,⟨uM,.inl rfl⟩,.inr ⟨wb,uM,_,_,_,RV,uM,by rw[aIn,xL]⟩⟩;have W:((fj (r.headD 0)).take 4).length<=4:=TP
  refine(qH jS uM (qV _ W)).same ?_
  have FU:r.headD 0<2147483648:=by
   cases r with
   |nil=>simp
   |cons x r=>have:=jH x (by rw[<-J];simp);simp;omega
  rw[yX FU];refine next r.length _ _ (by rw[Z];simp) ⟨done++[n],r,by rw[<-J];simp,rfl,rfl,mM.trans NI wb,rI.keep NI wb,z.2⟩
end
section
variable {P:Nat->Piece}{rec:List UInt8}{base:Nat}{rs:List (List UInt8)}{last:Nat}
def jq (P:Nat->Piece)(count:Nat):Nat->List (List UInt8)->Nat->Prop
 |s,[],e=>e=s
 |s,rec::rs,e=>(∀i,i<bf rec.length->P ((s+1+i)%count)=cO rec s (bf rec.length) i)/\jq P count (s+bf rec.length) rs e
def lC (n:Nat):0<bf n:=by unfold bf;split<;>omega
def JN (n:Nat):n<=bf n*501:=by unfold bf;split<;>omega
def vx {a b count:Nat}(h:a<b)(c:b-a<count):a%count≠b%count:=by
 intro e;have:=Nat.sub_mod_eq_zero_of_mod_eq e.symm;rw[aJC c]at this;omega
def jq.le {count:Nat}:∀{rs:List (List UInt8)} {s e:Nat},jq P count s rs e->s<=e/\(rs≠[]->s<e):=by
 intro rs
 induction rs with
 |nil=>intro s e h;have h:e=s:=h;subst h;exact⟨aHK _,λh=>absurd rfl h⟩
 |cons rec rs a=>
  intro s e h;have h1:=(a h.2).1;have h2:=lC rec.length;exact⟨uM,λ_=>uM⟩
def jq.congr {P':Nat->Piece}{count:Nat}:∀{rs:List (List UInt8)} {s e:Nat},jq P count s rs e->(∀x,s<x->x<=e->P' (x%count)=P (x%count))->jq P' count s rs e:=by
 intro rs
 induction rs with
 |nil=>intro s e h _;exact h
 |cons rec rs d=>
  intro s e h c;have h1:=(jq.le h.2).1;exact⟨λi hi=>by rw[c _ uM uM];exact h.1 i hi,d h.2 λx a b=>c x uM b⟩
def jq.snoc {count:Nat}:∀{rs:List (List UInt8)} {s e:Nat},jq P count s rs e->(∀i,i<bf rec.length->P ((e+1+i)%count)=cO rec e (bf rec.length) i)->jq P count s (rs++[rec]) (e+bf rec.length):=by
 intro rs
 induction rs with
 |nil=>intro s e h hi;have h:e=s:=h;subst h;exact⟨hi,rfl⟩
 |cons r rs a=>intro s e h hi;exact⟨h.1,a h.2 hi⟩
def jq.WT {count:Nat}:∀{rs:List (List UInt8)} {s e:Nat},jq P count s rs e->rs≠[]->(P (e%count)).n=e:=by
 intro rs
 induction rs with
 |nil=>intro s e h h2;exact absurd rfl h2
 |cons rec rs a=>
  intro s e h _;cases rs with
  |nil=>
   have b:e=s+bf rec.length:=h.2;have h2:=lC rec.length;have:=h.1 (bf rec.length-1) uM;rw[show s+1+(bf rec.length-1)=e from uM]at this;rw[this];unfold cO;simp;omega
  |cons r rs=>exact a h.2 wb
def GJ {count:Nat}{s:Nat}(h:∀i,i<bf rec.length->P ((s+1+i)%count)=cO rec s (bf rec.length) i)(f last:Nat)(a:List (List UInt8)):
 ∀j i,i+j=bf rec.length->0<j->iH P count (f+j) (s+i) (rec.take (i*501)) a last=iH P count f (s+bf rec.length) [] (a++[rec]) (s+bf rec.length):=by
 intro j
 induction j with
 |zero=>intro i _ m;omega
 |succ j d=>
  intro i hi _;have hp:=h i uM;rw[show s+1+i=s+i+1 from uM]at hp;have e:(P ((s+i+1)%count)).n=s+i+1:=by rw[hp];unfold cO;simp;omega
  have l:(P ((s+i+1)%count)).data=(rec.drop (i*501)).take 501:=by rw[hp];rfl
  have g:(P ((s+i+1)%count)).last=decide (i+1=bf rec.length):=by rw[hp];rfl
  have b:rec.take (i*501)++(rec.drop (i*501)).take 501=rec.take ((i+1)*501):=by
   rw[show(i+1)*501=i*501+501 by omega,List.take_add]
  rw[show f+(j+1)=(f+j)+1 from uM,iH,aHP e,g,l,b]
  by_cases he:i+1=bf rec.length
  .have k:j=0:=by omega
   subst k;have c:=JN rec.length;rw[aHP acn,aHS (by rw[he];exact c),show s+i+1=s+bf rec.length from uM];rfl
  .rw[aHM acn,show s+i+1=s+(i+1) from uM];exact d (i+1) uM uM
def PW {count:Nat}:∀{rs:List (List UInt8)} {s e:Nat},jq P count s rs e->(P ((e+1)%count)).n≠e+1->∀(fuel:Nat) (a:List (List UInt8)),e<=s+fuel->iH P count fuel s [] a s=(a++rs,e):=by
 intro rs
 induction rs with
 |nil=>
  intro s e h b fuel a d;have h:e=s:=h;subst h;cases fuel with
  |zero=>simp[iH]
  |succ f=>rw[iH,aHM b];simp
 |cons rec rs c=>
  intro s e h b fuel a d;have h1:=(jq.le h.2).1;have h2:=lC rec.length;have:=GJ h.1 (fuel-bf rec.length) s a (bf rec.length) 0 uM h2;rw[show fuel-bf rec.length+bf rec.length=fuel from uM]at this;simp only[aIv,Nat.zero_mul,aJG]at this;rw[this,c h.2 b _ _ uM];simp
def qw (P:Nat->Piece)(count base:Nat):∀i k,i<=k->kG P count base i<=kG P count base k:=by
 intro i k
 induction k with
 |zero=>intro h;have:i=0:=by omega
        rw[this];exact aHK _
 |succ k a=>
  intro h
  by_cases b:i=k+1
  .rw[b];exact aHK _
  .have:=a uM;simp only[kG]
   split<;>omega
def DX {count e:Nat}(h:jq P count base rs e)(d:0<count)(a:∀j,j<count->(P j).n<=e):kG P count base count=e:=by
 have h1:=zD P count base e h.le.1 a count (aHK _);refine Nat.le_antisymm h1 ?_;cases rs with
 |nil=>
  have c:e=base:=h;rw[c];exact qw P count base 0 count uM
 |cons r rs=>
  have hl:=h.WT wb;have b:=h.le.2 wb;have f:e%count<count:=aKq _ d;have h2:=qw P count base (e%count+1) count uM
  have g:e<=kG P count base (e%count+1):=by
   simp only[kG];rw[aHP ⟨by rw[hl];omega,by rw[hl]⟩,hl];omega
  omega
def wB (P:Nat->Piece)(count:Nat)(rec:List UInt8)(last:Nat):Nat->Nat->Piece
 |0=>P
 |k+1=>λj=>if j=(last+1+k)%count then cO rec last (bf rec.length) k else wB P count rec last k j
def JL {count:Nat}(j:Nat):∀k,(∀i,i<k->j≠(last+1+i)%count)->wB P count rec last k j=P j:=by
 intro k
 induction k with
 |zero=>intro _;rfl
 |succ k a=>intro h;simp only[wB];rw[aHM (h k uM)];exact a λi hi=>h i uM
def Ut {count:Nat}(k i:Nat)(hi:i<k)(b:k<=count):wB P count rec last k ((last+1+i)%count)=cO rec last (bf rec.length) i:=by
 induction k with
 |zero=>omega
 |succ k a=>
  simp only[wB]
  by_cases h:i=k
  .rw[aHP (by rw[h]),h]
  .rw[aHM (vx uM uM)];exact a uM uM
def jq.put {count:Nat}(h:jq P count base rs last)(b:bf rec.length+(last-base)<=count):jq (wB P count rec last (bf rec.length)) count base (rs++[rec]) (last+bf rec.length):=by
 have a:=h.le.1;refine(h.congr λx d c=>JL _ _ λi hi=>?_).snoc λi hi=>Ut _ i hi uM;exact vx uM uM
def YP {count:Nat}(h:∀j,j<count->(P j).n<=last):∀k,k<=bf rec.length->∀j,j<count->(wB P count rec last k j).n<=last+bf rec.length:=by
 intro k
 induction k with
 |zero=>intro _ j a;have:=h j a;simp only[wB];omega
 |succ k b=>
  intro c j a;simp only[wB]
  split
  .unfold cO;simp;omega
  .exact b uM j a
end
section
variable {G:List Nat}{L:List (List UInt8)}{x:CV}{Fo:List Nat}
abbrev dN:=Nat×iT
def Oo (e:dN):List UInt8:=uv e.1++(uv (jC e.2).length++jC e.2)
def dL (l:List dN):List UInt8:=(l.map Oo).flatten
def CS (e:dN)(l:List dN):dL (e::l)=uv e.1++(uv (jC e.2).length++(jC e.2++dL l)):=by unfold dL Oo;simp
def GL (a b:List dN):dL (a++b)=dL a++dL b:=by unfold dL;simp
def Ur (e:dN)(l:List dN):dL (e::l)≠[]:=by
 rw[CS];intro h;have:=zT e.1;have h2:=congrArg List.length h;simp at h2;have b:(uv e.1).length=0:=by rw[h2.1];rfl
 omega
def CJ (l:List UInt8):jC l++List.replicate (l.length-(jC l).length) 0=l:=by
 have c:∀m:List UInt8,(m.dropWhile (λb=>b==0)).length<=m.length/\List.replicate (m.length-(m.dropWhile (λb=>b==0)).length) 0++m.dropWhile (λb=>b==0)=m:=by
  intro m
  induction m with
  |nil=>simp
  |cons b m d=>
   rw[List.dropWhile_cons]
   by_cases h:b=0
   .subst h;simp only[beq_self_eq_true,aIj,aIg];refine⟨uM,?_⟩;rw[show m.length+1-(m.dropWhile (λb=>b==0)).length=(m.length-(m.dropWhile (λb=>b==0)).length)+1 from uM,aJW,aIL,d.2]
   .rw[aHM TK];simp
 have:=(c l.reverse).2;have h2:=congrArg List.reverse this;rw[List.reverse_append,aKn,List.reverse_replicate,aKw]at h2;unfold jC;rw[aKw];exact h2
def xS (l:List UInt8):(jC l).length<=l.length:=by
 have:=congrArg List.length (CJ l);rw[aHR,aIF]at this;omega
def sr (d:List dN)(l:List dN):List dN:=l.foldl (λd e=>ix d e.1 e.2) d
def cU (d:List dN)(Ls:List (List dN)):List dN:=Ls.foldl sr d
def rn (d:List dN)(Ls:List (List dN))(l:List dN):cU d (Ls++[l])=sr (cU d Ls) l:=by unfold cU;rw[aKr];rfl
def Ni (d:List dN)(l:List dN)(e:dN):sr d (l++[e])=ix (sr d l) e.1 e.2:=by unfold sr;rw[aKr];rfl
section
variable {st st':St} {p a:Nat} {lg:CV} {M:bR} {bd bn bi bc:Nat} {F:List Nat} {D:aU}
def nQ.at {c:List CV}(h:nQ st G c L){i:Nat}(hi:i<L.length):∃e:i<c.length,lS st G c[i] 1 (ai L[i]):=by
 induction c generalizing L i with
 |nil=>cases L with|nil=>simp at hi|cons l L=>exact h.elim
 |cons v c d=>
  cases L with
  |nil=>exact h.elim
  |cons l L=>
   cases i with
   |zero=>exact⟨wb,h.1⟩
   |succ i=>
    obtain⟨a,b⟩:=d h.2 Yy;exact⟨adw,b⟩
def qk.keep {X:List Nat}(h:qk st x L Fo G)(g:Kp X st st')(k:∀b∈Fo,b∉X)(j:∀b∈G,b∉X):qk st' x L Fo G:=by
 obtain⟨i,a,b,c,d,e⟩:=h;exact⟨i,a.keep g λq f=>⟨c q f,k q f⟩,b.keep g j,λq f=>aId (c q f) g.nx,λq f=>aId (d q f) g.nx,e⟩
def Nd (h:bZ st p a lg M bd bn bi bc){Ls:List (List dN)}(hx:qk st x (Ls.map dL) Fo G)(ad:∀b∈Fo,b≠bd)(hG:∀b∈G,b≠bd)(ac:∀l∈Ls,∀e∈l,e.1<M.aE/\e.2.length=512)(ab:∀l∈Ls,(dL l).length<=1000000)(hn:Ls.length<=1000000)(px:M.aE<=1000000):
 R 72 [.ptr p 0,x] st λv st'=>v=.bool true/\Kp [bd] st st'/\bZ st' p a lg {M with dirty:=cU M.dirty Ls} bd bn bi bc:=by
 refine bK ?_;rw[w72];have Vc:=hx;obtain⟨S,aa,Z,Y,aq,ap⟩:=hx;have ao:S.length=Ls.length:=by have:=Z.len;rw[aIx]at this;exact this
 have hlen:=λs=>(aa.sl (X:=[]) λb j=>⟨wb,Y b j⟩).len Ls.length uM uM s;rw[cM,hlen,af];simp only[aK,aL];refine bG (λfu C s=>∃i,fu+i=Ls.length/\C=[.ptr p 0,x,I Ls.length,I i]/\Kp [bd] st s/\bZ s p a lg {M with dirty:=cU M.dirty (Ls.take i)} bd bn bi bc/\qk s x (Ls.map dL) Fo G) ?_ (n:=Ls.length) ⟨0,rfl,rfl,Kp.refl _ _,h,Vc⟩;rintro fu C s k ⟨i,hi,rfl,hk,hP,hR⟩ next;simp only[aK,aL];rw[dD,af,ag]
 by_cases hc:i<Ls.length
 .rw[aHQ hc,aHP rfl];obtain⟨y,r1,U,r3,r4,r5⟩:=hR;have ay:y.length=Ls.length:=by have:=U.len;rw[aIx]at this;exact this
  have jS:Sl s [] x 1 y:=r1.sl λb j=>⟨wb,r3 b j⟩;refine jS.idx (i:=i) uM _ ?_;obtain⟨eT,ZK⟩:=U.at (i:=i) I2;rw[aJw]at ZK;have Cs:=aIc hc;rw[cM];refine(wQ ZK.nil (ab _ Cs)).mono ?_;rintro _ eu ⟨r,Fr,rfl,P,Cp,RK⟩;have ae:=qk.keep ⟨y,r1,U,r3,r4,r5⟩ P wb wb;have an:=P.nx;simp only[aK,aL];refine bG (λOY C s'=>∃done c,done++c=Ls[i]/\OY=c.length/\C=[.ptr p 0,.ptr r 0,x,I Ls.length,I i]/\Kp (bd::Fr) eu s'/\bZ s' p a lg {M with dirty:=sr (cU M.dirty (Ls.take i)) done} bd bn bi bc/\pq s' r Fr (dL c)/\qk s' x (Ls.map dL) Fo G) ?_ (n:=Ls[i].length) ⟨[],Ls[i],rfl,rfl,rfl,Kp.refl _ _,hP.keep P wb,Cp,ae⟩;rintro OY C s4 k2 ⟨done,c,VC,aj,rfl,ot,TA,Q,J⟩ AF;simp only[aK,aL];have ax:=h.lt bd wb;have mC:=hk.nx;have RJ:∀b∈Fr,st.nx<=b:=λb j=>by have:=RK b j;omega
  refine(rm Q).same ?_;simp only[aG,aIj,ba,af,dI];refine(VX Q).same ?_;cases c with
  |nil=>
   rw[aHQ (show dL []=[]from rfl)];simp only[cR,aIb,af,aF,aIj,ag,aHH,aHV,gJ i uM];have he:=aIa hc;refine next (fu-1) _ _ uM ⟨i+1,uM,rfl,?_,?_,J⟩
   .exact(hk.trans P wb).trans ot λq u=>by
     rcases aHJ.1 u with rfl|u
     .exact .inl wb
     .exact .inr (RJ q u)
   .rw[he,rn,<-VC,aIJ];exact TA
  |cons e c=>
   obtain⟨n,f⟩:=e;have H:=ac _ Cs (n,f) (by rw[<-VC];simp);rw[aHL (Ur _ _)];have A2:=TA.main;have e1:=zX M.aE uM uM s4 none;simp only[cR,aHY,af,aF,aIj,ag,eQ,bj,ah,az,A2,ar,aHN,aHI,aHG,aw,e1];rw[CS]at Q;have N:∀b∈[p,bd,bn,bi,bc],b∉Fr:=λb j hh=>by have:=h.lt b j;have:=RJ b hh;omega
   refine(lB (m:=M.aE-1) Q (by show n<=_;have:=H.1;simp at this;omega) uM).mono ?_;rintro _ s7 ⟨rfl,k7,n7,T⟩;have av:=xS f;have wZ:f.length=512:=H.2;refine(El (m:=512) T (by show(jC f).length<=_;omega) uM).mono ?_;rintro _ o ⟨rfl,k8,n8,A⟩;refine(rm A).same ?_;simp only[cR,aIb,af,ag,aHH,aHV];have K:=(TA.keep k7 N).keep k8 N;rw[cz,aP];have V:Kp [] o (St.new o (.cells (zr 512) 173 false)):=(Kp.refl [] o).new _;have Mz:(St.new o (.cells (zr 512) 173 false)).m.g o.nx=some (.cells (zr 512) 173 false):=au _ _;have I4:(St.new o (.cells (zr 512) 173 false)).nx=o.nx+1:=rfl;generalize St.new o (.cells (zr 512) 173 false)=z at*;have zH:bT 512 1 (.ptr o.nx 0) none none z=.ok (.slice o.nx 0 512 512 0) z:=rfl;rw[zH,af];obtain⟨B,c1,c2,c3,c4⟩:=Hb (b:=o.nx) (off:=0) (n:=512) (cap:=512) (d:=jC f) Mz uM (by rw[jJ];omega);rw[c1,aP,bD]
   have kW:bz (zr 512) 0 (ai (jC f))=ai f:=by
    unfold bz;rw[aJG,aIm,bF,aHN,oz]
    conv=>rhs;rw[<-CJ f]
    rw[bI]
    congr 1
    unfold ai;rw[<-aJs]
    congr 1
    rw[aJY,wZ]
   rw[kW]at c3
   have W:Kp [o.nx] z B:=⟨uM,λq h1 h2=>c4 q abm,λhf q u=>by
    have:q≠o.nx:=uM
    rw[c4 q this];exact hf q uM⟩
   have HH:∀b∈[p,bd,bn,bi,bc],b∉[o.nx]:=λb j=>by have:=K.lt b j;simp;omega
   have w:=(K.keep V wb).keep W HH;have Ra:=w.main;obtain⟨blk,u1,u2,u3⟩:=IsMap.update w.dirty n (.agg (ai f));rw[wy]at u2;have qR:(ai f).length=512:=by simpa using wZ
   simp only[Ra,ar,aHI,aHG,aw];rw[aM (n:=512) c3 qR,af,u1,aP];refine⟨⟨afp,afp,afp⟩,afp,?_⟩;have E:=h.nd;simp only[aHX,aHJ,aIo,aJj,aJf]at E;have am:=w.lt bd wb;have nJ:Kp [bd] B (St.set B bd blk):=(Kp.refl _ B).set _ (.inl wb) am;have O:Kp (bd::Fr) s4 (St.set B bd blk):=((((k7.mono (by intro q u;left;simp[u])).trans k8 (by intro q u;left;simp[u])).trans V wb).trans W (by intro q u;right;simp at u;omega)).trans nJ (by intro q u;left;simp at u;simp[u]);have al:∀b∈Fr,b<o.nx:=λb j=>by obtain⟨_,_,_,_,_,h3,_⟩:=A;exact h3 b j
   have Cv:bZ (St.set B bd blk) p a lg {M with dirty:=sr (cU M.dirty (Ls.take i)) (done++[(n,f)])} bd bn bi bc:=
    ⟨(ak _ _ _ _ (aIG (aIG E.1.1))).trans Ra,by rw[Ni];exact u2,w.now.mono (ak _ _ _ _ (aIG E.2.1.1)),w.idle.mono (ak _ _ _ _ (aIG E.2.1.2.1)),w.count.mono (ak _ _ _ _ (aIG E.2.1.2.2)),h.nd,w.lt,h.lgs⟩
   refine AF c.length _ _ (by rw[aj];simp) ⟨done++[(n,f)],c,by rw[<-VC];simp,rfl,rfl,ot.trans O (afk),Cv,?_,?_⟩
   .exact((A.keep V wb).keep W λb j=>by have:=al b j;simp;omega).keep nJ λb j=>by have:=RJ b j;simp;omega
   .exact J.keep O (λb j hh=>by
     rcases aHJ.1 hh with rfl|hh
     .exact ad _ j rfl
     .have h1:=RK b hh;obtain⟨_,_,_,q3,_,_⟩:=Vc;have:=q3 b j;omega) (λb j hh=>by
     rcases aHJ.1 hh with rfl|hh
     .exact hG _ j rfl
     .have h1:=RK b hh;obtain⟨_,_,_,_,q4,_⟩:=Vc;have:=q4 b j;omega)
 .rw[aHL hc,aHM xI];have he:Ls.take i=Ls:=aHS uM;rw[he]at hP;exact⟨afp,hk,hP⟩
end
end
