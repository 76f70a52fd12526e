import Derived.Test.YtomffjeofpafnaaGreatDoorBtA
namespace Lim
open Go
noncomputable section
structure Calm (D:aV):Prop where
 dead:D.dead=false
 set:D.set=false
theorem Cr (kept:Nat->Bool)(w:qO):∀(W:List qO) (i:Nat) (L:List jk),gZ kept i L (W++[w])=if kept (i+W.length)=true then (gZ kept i L W).set w.1 w.2 else gZ kept i L W:=by
 intro W
 induction W with
 |nil=>intro i L;simp[gZ]
 |cons v W ih=>
  intro i L;simp only[aBR,gZ,aBt];rw[ih];rw[show i+1+W.length=i+(W.length+1) by omega]
theorem aV.Gb (D:aV)(W:List qO)(w:qO)(j:Nat)(D' D'':aV)(h1:D'.waits=W++[w])(h2:D'.ay=D.ay)(h3:D''.waits=W)(h4:D''.ay=D.ay):D'.cur j=if j=w.1 then w.2 else D''.cur j:=by
 unfold aV.cur;rw[h1,h3,wZ]
 by_cases h:j=w.1
 ·rw[aBb (by omega),aBb h];simp
 ·rw[aAZ (by omega),aAZ h];cases hx:nz W (j:Int)with
  |none=>simp only[h2,h4]
  |some k=>
   have:=wq hx;simp only[aCO,aCv this]
theorem settled (L:List jk):∀(W:List qO),(∀w∈W,w.1<L.length)->∀(D:aV),D.waits=W->D.ay=L->∀j,(gZ (fun _=>true) 0 L W).getD j []=D.cur j:=by
 suffices key:∀V:List qO,(∀w∈V.reverse,w.1<L.length)->∀(D:aV),D.waits=V.reverse->D.ay=L->∀j,(gZ (fun _=>true) 0 L V.reverse).getD j []=D.cur j by
  intro W hw D h1 h2 j;have:=key W.reverse (by rwa [aCL]) D (by rwa [aCL]) h2 j
  rwa [aCL]at this
 intro V
 induction V with
 |nil=>
  intro _ D h1 h2 j;unfold aV.cur;rw[h1,List.reverse_nil,ug,h2];rfl
 |cons w V ih=>
  intro hw D h1 h2 j;rw[List.reverse_cons]at hw h1⊢;rw[Cr,aBb rfl];have h3:=ih (fun v hv=>hw v (by simp at hv⊢;exact .inl hv)) {D with waits:=V.reverse} rfl h2 j;rw[aV.Gb D V.reverse w j D {D with waits:=V.reverse} h1 rfl rfl rfl];have hl:w.1<(gZ (fun _=>true) 0 L V.reverse).length:=by rw[rf];exact hw w (by simp)
  by_cases h:j=w.1
  ·rw[aBb h,h];simp[aCO,hl]
  ·rw[aAZ h,<-h3];simp only[aCO];rw[List.getElem?_set_ne (aBU h)]
def aV.zi (D:aV):Prop:=∀w∈D.waits,w.1<D.ay.length
theorem Calm.write {D:aV}(h:Calm D){i:Nat}{s:jk}(hi:i<D.ay.length)(hs:s.length=512)(hw:D.zi):
 (D.write i s).1=0/\Calm (D.write i s).2/\(D.write i s).2.ay=D.ay/\(D.write i s).2.zi/\(D.write i s).2.waits.length=D.waits.length+1/\∀j,(D.write i s).2.cur j=if j=i then s else D.cur j:=by
 have e:D.write i s=(0,{D with waits:=D.waits++[((i:Int).toNat,s)]}.tick):=by
  unfold aV.write;rw[aAZ (by rw[h.dead];decide),aAZ (by rw[hs];omega),aAZ (by unfold aV.out;rw[h.set];simp)]
 rw[e];refine⟨rfl,⟨h.dead,h.set⟩,rfl, ?_,by simp[aV.tick],fun j=> ?_⟩
 ·intro w WH;have WH:w∈D.waits++[((i:Int).toNat,s)]:=WH;rcases aBe.1 WH with h1|h1
  ·exact hw w h1
  ·have:w=((i:Int).toNat,s):=by simpa using h1
   rw[this];exact hi
 ·exact aV.Gb D D.waits (i,s) j _ D rfl rfl rfl rfl
theorem Calm.flush {D:aV}(h:Calm D)(hw:D.zi):
 D.flush.1=0/\Calm D.flush.2/\D.flush.2.ay.length=D.ay.length/\D.flush.2.waits=[]/\∀j,D.flush.2.cur j=D.cur j:=by
 have e:D.flush=(0,(D.tick).settle fun _=>true):=by
  unfold aV.flush;rw[aAZ (by rw[h.dead];decide),aAZ (by unfold aV.out;rw[h.set];simp)]
 rw[e];refine⟨rfl,⟨h.dead,h.set⟩,rf _ _ _ _,rfl,fun j=> ?_⟩;rw[<-settled D.ay D.waits hw D rfl rfl j]
 rfl
theorem Calm.read {D:aV}(h:Calm D){i:Nat}(hi:i<D.ay.length):D.read i=(0,D.cur i):=by
 unfold aV.read;rw[aAZ (by rw[h.dead];decide),aAZ (by omega)];rfl
theorem Calm.head {D:aV}(h:Calm D)(hw:D.zi)(h0:0<D.ay.length)(base:Nat):
 (D.head base).1=0/\Calm (D.head base).2/\(D.head base).2.ay.length=D.ay.length/\(D.head base).2.waits=[]/\∀j,(D.head base).2.cur j=if j=0 then dv base else D.cur j:=by
 obtain⟨a1,a2,a3,a4,a5,a6⟩:=h.write h0 (qk base) hw;obtain⟨b1,b2,b3,b4,b5⟩:=a2.flush a4;have a1:(D.write 0 (dv base)).1=0:=a1;unfold aV.head;rw[aBb a1];exact⟨b1,b2,by rw[<-a3];exact b3,b4,fun j=>(b5 j).trans (a6 j)⟩
set_option maxRecDepth 100000
theorem Nf {l:List Nat}{n:Nat}(h:n∉l):mI l n=l++[n]:=by
 induction l with
 |nil=>rfl
 |cons p r ih=>
  simp only[aAX,aCr]at h;simp only[mI,aAZ h.1,aBR];rw[ih h.2]
def bR.clean (M:bR)(m:jA)(idle:List Nat):bR:={M with now:=[],count:=[],m:=m,kept:=m,idle:=idle}
section
variable {st st':St} {p a:Nat} {lg:CV} {M:bR} {bd bn bi bc:Nat} {F:List Nat} {D:aV}
theorem Qg (h:cG st p a lg M bd bn bi bc)(hd:dt st a F D)(tf:D.dead=false)(hF:∀b∈F,b≠p){m':jA}{frs:List Nat}
 (h0:({M with now:=[]}:bR).get D 0=bK m') (hm:RX (bK m')=m') (Lc:M.first+M.aE<=D.ay.length) (sG:0<M.aE) (hhd:m'.head=frs.headD 0) (jy:∀n∈frs,0<n/\n<M.aE) (iL:frs.Nodup) (gw:Mj {M with now:=[]} D frs):
 R 75 [.ptr p 0] st fun v st'=>v=I 0/\Kp [p] st st'/\∃bn' bi' bc',cG st' p a lg (M.clean m' frs) bd bn' bi' bc'/\∀b∈[bn',bi',bc'],st.next<=b:=by
 refine bO ?_;rw[w75];have hsz:=(show D.ay.length<=65536 from by obtain⟨_,_,_,_,_,_,_,h⟩:=hd;exact h.size);rw[cX,af,ag,aAZ (by decide),ja,aT,ja,aT,ja,aT];have x1:(St.new st (.map [] 0)).next=st.next+1:=rfl;have x2:(St.new (St.new st (.map [] 0)) (.map [] 0)).next=st.next+2:=rfl;have x3:(St.new (St.new (St.new st (.map [] 0)) (.map [] 0)) (.map [] 0)).next=st.next+3:=rfl;rw[x1,x2];have k3:Kp [] st (St.new (St.new (St.new st (.map [] 0)) (.map [] 0)) (.map [] 0)):=(((Kp.refl [] st).new _).new _).new _;have m1:c8 (St.new (St.new (St.new st (.map [] 0)) (.map [] 0)) (.map [] 0)) st.next []:=(c8.new st).mono (by rw[aW _ _ _ (by simp;omega),aW _ _ _ (by simp)]);have m2:c8 (St.new (St.new (St.new st (.map [] 0)) (.map [] 0)) (.map [] 0)) (st.next+1) []:=(c8.new (St.new st (.map [] 0))).mono (by show(St.new _ _).mem.get (st.next+1)=_;rw[aW _ _ _ (by simp)];rfl);have m3:c8 (St.new (St.new (St.new st (.map [] 0)) (.map [] 0)) (.map [] 0)) (st.next+2) []:=c8.new (St.new (St.new st (.map [] 0)) (.map [] 0));generalize St.new (St.new (St.new st (.map [] 0)) (.map [] 0)) (.map [] 0)=s3 at*;have Zr:=h.lt p (by simp);have amG:=h.lt bd (by simp);have nd:=h.nd;simp only[aBi,aAX,aBF,aCA,aCr]at nd;have g3:=(k3.keep p Zr (by simp)).trans h.main;have pC:bt [.ptr a 0,lg,I M.first,I M.aE, .map bd, .map bn,I M.kept.root,I M.kept.used,I M.kept.head,I M.kept.free,I M.m.root,I M.m.used,I M.m.head,I M.m.free, .map bi, .map bc] 5 [.map st.next]=[.ptr a 0,lg,I M.first,I M.aE, .map bd, .map st.next,I M.kept.root,I M.kept.used,I M.kept.head,I M.kept.free,I M.m.root,I M.m.used,I M.m.head,I M.m.free, .map bi, .map bc]:=rfl
 have jR:bt [.ptr a 0,lg,I M.first,I M.aE, .map bd, .map st.next,I M.kept.root,I M.kept.used,I M.kept.head,I M.kept.free,I M.m.root,I M.m.used,I M.m.head,I M.m.free, .map bi, .map bc] 15 [.map (st.next+1)]=[.ptr a 0,lg,I M.first,I M.aE, .map bd, .map st.next,I M.kept.root,I M.kept.used,I M.kept.head,I M.kept.free,I M.m.root,I M.m.used,I M.m.head,I M.m.free, .map bi, .map (st.next+1)]:=rfl;have De:bt [.ptr a 0,lg,I M.first,I M.aE, .map bd, .map st.next,I M.kept.root,I M.kept.used,I M.kept.head,I M.kept.free,I M.m.root,I M.m.used,I M.m.head,I M.m.free, .map bi, .map (st.next+1)] 14 [.map (st.next+2)]=[.ptr a 0,lg,I M.first,I M.aE, .map bd, .map st.next,I M.kept.root,I M.kept.used,I M.kept.head,I M.kept.free,I M.m.root,I M.m.used,I M.m.head,I M.m.free, .map (st.next+2), .map (st.next+1)]:=rfl
 have Fa:∀{s:St} {l:List CV} {x:CV} {o:Nat} {K:St->Prop},s.mem.get p=some (.cells l 158 false)->x.cK=[x]->cq x=true->o<l.length->K (St.set s p (.cells (bt l o [x]) 158 false))->nV 1 o (.ptr p 0) x s K:=by
  intro s l x o K hg h1 h2 h3 hK;simp only[nV,bA,ah,af,aH,hg,aS,h1,aAT];exact⟨⟨rfl,by simp[h2],h3⟩,hK⟩
 refine Fa g3 rfl rfl (by decide:(5:Nat)<16) ?_;refine Fa (ao _ _ _) rfl rfl (by rw[pC];exact(by decide:(15:Nat)<16)) ?_;rw[pC,set_set];refine Fa (ao _ _ _) rfl rfl (by rw[jR];exact(by decide:(14:Nat)<16)) ?_;rw[jR,set_set,De]
 have X7:cG (St.set s3 p (.cells [.ptr a 0,lg,I M.first,I M.aE, .map bd, .map st.next,I M.kept.root,I M.kept.used,I M.kept.head,I M.kept.free,I M.m.root,I M.m.used,I M.m.head,I M.m.free, .map (st.next+2), .map (st.next+1)] 158 false)) p a lg {M with now:=[],idle:=[],count:=[]} bd st.next (st.next+2) (st.next+1):=
  ⟨ao _ _ _,h.dirty.mono ((ak _ _ _ _ (aBU nd.1.1)).trans (k3.keep bd amG (by simp))),m1.mono (ak _ _ _ _ (by omega)),m3.mono (ak _ _ _ _ (by omega)),m2.mono (ak _ _ _ _ (by omega)),by
   simp only[aBi,aAX,aBF,aCA,aCr];refine⟨⟨nd.1.1,by omega,by omega,by omega⟩,⟨by omega,by omega,by omega⟩,⟨by omega,by omega⟩,by omega,not_false,aDr⟩,by
   intro b hb;simp at hb;show b<s3.next;omega,h.lgs⟩
 have k6:Kp [p] st (St.set s3 p (.cells [.ptr a 0,lg,I M.first,I M.aE, .map bd, .map st.next,I M.kept.root,I M.kept.used,I M.kept.head,I M.kept.free,I M.m.root,I M.m.used,I M.m.head,I M.m.free, .map (st.next+2), .map (st.next+1)] 158 false)):=(k3.mono (by simp)).set _ (.inl (by simp)) (by omega);have n6:(St.set s3 p (.cells [.ptr a 0,lg,I M.first,I M.aE, .map bd, .map st.next,I M.kept.root,I M.kept.used,I M.kept.head,I M.kept.free,I M.m.root,I M.m.used,I M.m.head,I M.m.free, .map (st.next+2), .map (st.next+1)] 158 false)).next=st.next+3:=x3;generalize St.set s3 p (.cells [.ptr a 0,lg,I M.first,I M.aE, .map bd, .map st.next,I M.kept.root,I M.kept.used,I M.kept.head,I M.kept.free,I M.m.root,I M.m.used,I M.m.head,I M.m.free, .map (st.next+2), .map (st.next+1)] 158 false)=s6 at*;have zt:=hd.keep k6 fun b hb=>by simpa using hF b hb
 have qM:∀n,({M with now:=[],idle:=[],count:=[]}:bR).get D n=({M with now:=[]}:bR).get D n:=fun n=>rfl;have h0':(bK m').length=512:=gL m';refine(xW X7 zt tf (n:=0) (by show M.first+0<_;omega) (by rw[qM,h0];exact h0')).mono ?_;rintro _ s7 ⟨rfl,k7⟩;rw[aD,af,aJ,aD,af,qM,h0];have Am:(ai (bK m')).length=512:=by simpa using h0'
 refine kR Am (bE _) ?_;have k9:=k7.page (ai (bK m'));have g9:(St.set (St.new s7 (.cells (zr 512) 173 false)) s7.next (.cells (ai (bK m')) 173 false)).mem.get s7.next=some (.cells (ai (bK m')) 173 false):=ao _ _ _;generalize St.set (St.new s7 (.cells (zr 512) 173 false)) s7.next (.cells (ai (bK m')) 173 false)=s9 at*;have e2:∀s,aj .neq (some .int) true (I 0) (.int .i64 0) s= .ok (.bool false) s:=fun s=>rfl;rw[e2,af,ag,aAZ (by decide),aO (n:=512) g9 Am,af];refine(aaK h0').mono ?_;rintro _ dd ⟨rfl,qj⟩;rw[hm];have Wm:Kp [] s6 dd:=k9.trans qj (by simp);have xF:=X7.keep Wm (by simp);have SY:=zt.keep Wm (by simp);have SF:=xF.main
 have SJ:∀{s:St} {x1 x2 x3 x4 y1 y2 y3 y4:CV} {K:St->Prop},s.mem.get p=some (.cells [.ptr a 0,lg,I M.first,I M.aE, .map bd, .map st.next,x1,x2,x3,x4,y1,y2,y3,y4, .map (st.next+2), .map (st.next+1)] 158 false)->K (St.set s p (.cells [.ptr a 0,lg,I M.first,I M.aE, .map bd, .map st.next,x1,x2,x3,x4,I m'.root,I m'.used,I m'.head,I m'.free, .map (st.next+2), .map (st.next+1)] 158 false))->nV 4 10 (.ptr p 0) (.agg [I m'.root,I m'.used,I m'.head,I m'.free]) s K:=by
  intro s x1 x2 x3 x4 y1 y2 y3 y4 K hg hK;simp only[nV,bA,ah,af,aH,hg,aS,aU,aAT];exact⟨⟨rfl,rfl,by simp⟩,hK⟩
 refine SJ SF ?_;rw[show zA 4 10 (.ptr p 0) (St.set dd p (.cells [.ptr a 0,lg,I M.first,I M.aE, .map bd, .map st.next,I M.kept.root,I M.kept.used,I M.kept.head,I M.kept.free,I m'.root,I m'.used,I m'.head,I m'.free, .map (st.next+2), .map (st.next+1)] 158 false))=fun K=>us (dU (.ptr p 0) (St.set dd p (.cells [.ptr a 0,lg,I M.first,I M.aE, .map bd, .map st.next,I M.kept.root,I M.kept.used,I M.kept.head,I M.kept.free,I m'.root,I m'.used,I m'.head,I m'.free, .map (st.next+2), .map (st.next+1)] 158 false))) fun p'=>us (an 10 p' _) fun a'=>us (aI 4 a' _) K from rfl];simp only[bA,af,ah,aAT];rw[gq (n:=4) (ao _ _ _) (by simp),af]
 have acC:∀{s:St} {x1 x2 x3 x4 y1 y2 y3 y4:CV} {K:St->Prop},s.mem.get p=some (.cells [.ptr a 0,lg,I M.first,I M.aE, .map bd, .map st.next,x1,x2,x3,x4,y1,y2,y3,y4, .map (st.next+2), .map (st.next+1)] 158 false)->K (St.set s p (.cells [.ptr a 0,lg,I M.first,I M.aE, .map bd, .map st.next,I m'.root,I m'.used,I m'.head,I m'.free,y1,y2,y3,y4, .map (st.next+2), .map (st.next+1)] 158 false))->nV 4 6 (.ptr p 0) (.agg [I m'.root,I m'.used,I m'.head,I m'.free]) s K:=by
  intro s x1 x2 x3 x4 y1 y2 y3 y4 K hg hK;simp only[nV,bA,ah,af,aH,hg,aS,aU,aAT];exact⟨⟨rfl,rfl,by simp⟩,hK⟩
 refine acC (ao _ _ _) ?_;rw[set_set];have akJ:=xF.lt p (by simp);have Wl:Kp [p] s6 (St.set dd p (.cells [.ptr a 0,lg,I M.first,I M.aE, .map bd, .map st.next,I m'.root,I m'.used,I m'.head,I m'.free,I m'.root,I m'.used,I m'.head,I m'.free, .map (st.next+2), .map (st.next+1)] 158 false)):=(Wm.mono (by simp)).set _ (.inl (by simp)) akJ
 have Im:cG (St.set dd p (.cells [.ptr a 0,lg,I M.first,I M.aE, .map bd, .map st.next,I m'.root,I m'.used,I m'.head,I m'.free,I m'.root,I m'.used,I m'.head,I m'.free, .map (st.next+2), .map (st.next+1)] 158 false)) p a lg (M.clean m' []) bd st.next (st.next+2) (st.next+1):=by
  have nd6:=xF.nd;simp only[aBi,aAX,aBF,aCA,aCr]at nd6;exact⟨ao _ _ _,xF.dirty.mono (ak _ _ _ _ (aBU nd6.1.1)),xF.now.mono (ak _ _ _ _ (aBU nd6.1.2.1)),xF.idle.mono (ak _ _ _ _ (aBU nd6.1.2.2.1)),xF.count.mono (ak _ _ _ _ (aBU nd6.1.2.2.2)),xF.nd,xF.lt,h.lgs⟩
 generalize St.set dd p (.cells [.ptr a 0,lg,I M.first,I M.aE, .map bd, .map st.next,I m'.root,I m'.used,I m'.head,I m'.free,I m'.root,I m'.used,I m'.head,I m'.free, .map (st.next+2), .map (st.next+1)] 158 false)=bY at*;have SX:=zt.keep Wl fun b hb=>by simpa using hF b hb
 have YQ:Kp [p] st bY:=k6.trans Wl (by simp);have Od:=Wl.next;have OP:=Im.main;have O7:∀done n,(M.clean m' done).get D n=({M with now:=[]}:bR).get D n:=fun done n=>rfl;rw[db];simp only[rJ,bA,ah,af,az,OP,ar,aAT,Nat.reduceAdd,aAS,aAQ,au,aK,aL];refine bM (fun fu vs s=>∃done rest,done++rest=frs/\fu=rest.length/\vs=[.ptr p 0,I (rest.headD 0)]/\Kp [st.next+2] bY s/\cG s p a lg (M.clean m' done) bd st.next (st.next+2) (st.next+1)/\Mj {M with now:=[]} D rest) ?_ (n:=frs.length) ⟨[],frs,rfl,rfl,by show [CV.ptr p 0,I m'.head]=_;rw[hhd],Kp.refl _ _,Im,gw⟩;rintro fu vs s k ⟨done,rest,O1,hfu,rfl,hk,hP,hrw⟩ next;simp only[aK,aL];have lO:=hk.next;cases rest with
 |nil=>
  have e3:aj .neq (some .int) true (I (([]:List Nat).headD 0)) (.int .i64 0) s= .ok (.bool false) s:=rfl;rw[e3,af,ag,aAZ (by decide)];rw[aBQ]at O1;subst O1;exact⟨trivial,YQ.trans hk (by intro q hq;simp at hq;right;omega),st.next,st.next+2,st.next+1,hP,by intro b hb;simp at hb;omega⟩
 |cons n r=>
  have hn:=jy n (by rw[<-O1];simp)
  have QL:n∉done:=by
   intro hh;have:=iL;rw[<-O1,aBP]at this;exact this.2.2 n hh n (by simp) rfl
  have e3:aj .neq (some .int) true (I ((n::r).headD 0)) (.int .i64 0) s= .ok (.bool true) s:=by
   rw[av,fj];show OR.ok (.bool (!decide ((n:Int)=0))) s=_;rw[aAW (by omega)];rfl
  have e4:aj .lss none true (I ((n::r).headD 0)) (.int .i64 0) s= .ok (.bool false) s:=by
   rw[av,de];show OR.ok (.bool (decide ((n:Int)<0))) s=_;rw[aAW (by omega)]
  have e5:aj .geq none false (I ((n::r).headD 0)) (I M.aE) s= .ok (.bool false) s:=by
   rw[av,rl];show OR.ok (.bool (decide ((M.aE:Int)<=(n:Int)))) s=_;rw[aAW (by omega)]
  have BE:=hP.main;have hl:=IsMap.lookup (.inl hP.idle) (.bool false) false n s rfl;rw[aAZ (by decide),Ej,aAZ (show¬n∈(M.clean m' done).idle from QL)]at hl;simp only[Option.getD_none]at hl;have ack:s.mem.get p=some (.cells [.ptr a 0,lg,I M.first,I M.aE, .map bd, .map st.next,I m'.root,I m'.used,I m'.head,I m'.free,I m'.root,I m'.used,I m'.head,I m'.free, .map (st.next+2), .map (st.next+1)] 158 false):=BE;rw[e3,af,ag,aBb rfl,e4,af];simp only[aG,aAR,aBf,aBk,bh,af,ki,bA,ah,az,ack,ar,aAT,Nat.reduceAdd,aAS,aAQ,au,e5,aF];rw[show iA .int (.bool false) false (.map (st.next+2)) (I ((n::r).headD 0)) s= .ok (.bool false) s from hl,af];simp only[ag,aAR,aBf];obtain⟨blk,u1,u2,u3⟩:=IsMap.update (.inl hP.idle) n (.bool true);have u4:=u3 hP.idle;rw[yw,show(M.clean m' done).idle=done from rfl,Nf QL]at u4;simp only[fH,bA,ah,af,az,ack,ar,aAT,Nat.reduceAdd,aAS,aAQ,au];rw[show eC .int (.map (st.next+2)) (I ((n::r).headD 0)) (.bool true) s= .ok .undef (St.set s (st.next+2) blk)from u1,aT];have Ic:=hP.lt (st.next+2) (by simp);have qR:=hP.nd;simp only[aBi,aAX,aBF,aCA,aCr]at qR
  have tl:cG (St.set s (st.next+2) blk) p a lg (M.clean m' (done++[n])) bd st.next (st.next+2) (st.next+1):=
   ⟨(ak _ _ _ _ qR.1.2.2.1).trans BE,hP.dirty.mono (ak _ _ _ _ qR.2.1.2.1),hP.now.mono (ak _ _ _ _ qR.2.2.1.1),u4,hP.count.mono (ak _ _ _ _ (aBU qR.2.2.2.1)),hP.nd,hP.lt,h.lgs⟩
  have nQ:Kp [st.next+2] bY (St.set s (st.next+2) blk):=hk.set _ (.inl (by simp)) Ic;generalize St.set s (st.next+2) blk=fZ at*;have hdF:∀b∈F,b∉[st.next+2]:=fun b hb=>by have:=hd.lt b hb;simp;omega
  have Le:=SX.keep nQ hdF;have hlen:(eN (r.headD 0)).length=512:=rE _;refine(xW tl Le tf (n:=n) (by show M.first+n<_;omega) (by rw[O7,hrw.1];exact hlen)).mono ?_;rintro _ cD ⟨rfl,E7⟩;rw[aD,af,aJ,aD,af,O7,hrw.1];have amQ:(ai (eN (r.headD 0))).length=512:=by simpa using hlen
  refine kR amQ (bE _) ?_;have L7:=E7.page (ai (eN (r.headD 0)));have Tj:(St.set (St.new cD (.cells (zr 512) 173 false)) cD.next (.cells (ai (eN (r.headD 0))) 173 false)).mem.get cD.next=some (.cells (ai (eN (r.headD 0))) 173 false):=ao _ _ _;have n18:(St.set (St.new cD (.cells (zr 512) 173 false)) cD.next (.cells (ai (eN (r.headD 0))) 173 false)).next=cD.next+1:=rfl;generalize St.set (St.new cD (.cells (zr 512) 173 false)) cD.next (.cells (ai (eN (r.headD 0))) 173 false)=cC at*;have Ai:bP 512 1 (.ptr cD.next 0) none (some (.int .i64 4)) cC= .ok (.slice cD.next 0 4 512 0) cC:=rfl;rw[e2,af,ag,aAZ (by decide),Ai,af];have AK:ai ((eN (r.headD 0)).take 4)=(ai (eN (r.headD 0))).take 4:=by simp[ai]
  have kN:Sl cC [] (.slice cD.next 0 4 512 0) 1 (ai ((eN (r.headD 0)).take 4)):= .inr ⟨cD.next,0,4,512,0,rfl,by rw[AK,aBh];omega,⟨by omega, .inl rfl⟩, .inr ⟨by simp,by omega,_,_,_,Tj,by omega,by rw[aBx,AK]⟩⟩;have hl4:((eN (r.headD 0)).take 4).length<=4:=by rw[aBh];omega
  refine(sD kN (by omega) (sU _ hl4)).same ?_
  have Aj:r.headD 0<2147483648:=by
   cases r with
   |nil=>simp
   |cons x r=>have:=jy x (by rw[<-O1];simp);simp;omega
  rw[xi Aj];refine next r.length _ _ (by rw[hfu];simp) ⟨done++[n],r,by rw[<-O1];simp,rfl,rfl,nQ.trans L7 (by simp),tl.keep L7 (by simp),hrw.2⟩
end
def jW (P:Nat->Piece)(count:Nat):Nat->List (List UInt8)->Nat->Prop
 |s,[],e=>e=s
 |s,rec::rs,e=>(∀i,i<bp rec.length->P ((s+1+i)%count)=cW rec s (bp rec.length) i)/\jW P count (s+bp rec.length) rs e
theorem ov (n:Nat):0<bp n:=by unfold bp;split<;>omega
theorem Hx (n:Nat):n<=bp n*501:=by unfold bp;split<;>omega
theorem Oe {a b count:Nat}(h:a<b)(h2:b-a<count):a%count≠b%count:=by
 intro e;have:=Nat.sub_mod_eq_zero_of_mod_eq e.symm;rw[aCN h2]at this;omega
theorem jW.le {P:Nat->Piece}{count:Nat}:∀{rs:List (List UInt8)} {s e:Nat},jW P count s rs e->s<=e/\(rs≠[]->s<e):=by
 intro rs
 induction rs with
 |nil=>intro s e h;have h:e=s:=h;subst h;exact⟨aAU _,fun h=>absurd rfl h⟩
 |cons rec rs ih=>
  intro s e h;have h1:=(ih h.2).1;have h2:=ov rec.length;exact⟨by omega,fun _=>by omega⟩
theorem jW.congr {P P':Nat->Piece}{count:Nat}:∀{rs:List (List UInt8)} {s e:Nat},jW P count s rs e->(∀x,s<x->x<=e->P' (x%count)=P (x%count))->jW P' count s rs e:=by
 intro rs
 induction rs with
 |nil=>intro s e h _;exact h
 |cons rec rs ih=>
  intro s e h hx;have h1:=(jW.le h.2).1;exact⟨fun i hi=>by rw[hx _ (by omega) (by omega)];exact h.1 i hi,ih h.2 fun x a b=>hx x (by omega) b⟩
theorem jW.snoc {P:Nat->Piece}{count:Nat}{rec:List UInt8}:∀{rs:List (List UInt8)} {s e:Nat},jW P count s rs e->(∀i,i<bp rec.length->P ((e+1+i)%count)=cW rec e (bp rec.length) i)->jW P count s (rs++[rec]) (e+bp rec.length):=by
 intro rs
 induction rs with
 |nil=>intro s e h hi;have h:e=s:=h;subst h;exact⟨hi,rfl⟩
 |cons r rs ih=>intro s e h hi;exact⟨h.1,ih h.2 hi⟩
theorem jW.aaY {P:Nat->Piece}{count:Nat}:∀{rs:List (List UInt8)} {s e:Nat},jW P count s rs e->rs≠[]->(P (e%count)).n=e:=by
 intro rs
 induction rs with
 |nil=>intro s e h h2;exact absurd rfl h2
 |cons rec rs ih=>
  intro s e h _;cases rs with
  |nil=>
   have he:e=s+bp rec.length:=h.2;have h2:=ov rec.length;have:=h.1 (bp rec.length-1) (by omega);rw[show s+1+(bp rec.length-1)=e by omega]at this;rw[this];unfold cW;simp;omega
  |cons r rs=>exact ih h.2 (by simp)
theorem NA {P:Nat->Piece}{count:Nat}{rec:List UInt8}{s:Nat}(h:∀i,i<bp rec.length->P ((s+1+i)%count)=cW rec s (bp rec.length) i)(f last:Nat)(out:List (List UInt8)):
 ∀j i,i+j=bp rec.length->0<j->mB P count (f+j) (s+i) (rec.take (i*501)) out last=mB P count f (s+bp rec.length) [] (out++[rec]) (s+bp rec.length):=by
 intro j
 induction j with
 |zero=>intro i _ h0;omega
 |succ j ih=>
  intro i hi _;have hp:=h i (by omega);rw[show s+1+i=s+i+1 by omega]at hp;have hn:(P ((s+i+1)%count)).n=s+i+1:=by rw[hp];unfold cW;simp;omega
  have hd:(P ((s+i+1)%count)).data=(rec.drop (i*501)).take 501:=by rw[hp];rfl
  have hl:(P ((s+i+1)%count)).last=decide (i+1=bp rec.length):=by rw[hp];rfl
  have AK:rec.take (i*501)++(rec.drop (i*501)).take 501=rec.take ((i+1)*501):=by
   rw[show(i+1)*501=i*501+501 by omega,List.take_add]
  rw[show f+(j+1)=(f+j)+1 by omega,mB,aBb hn,hl,hd,AK]
  by_cases he:i+1=bp rec.length
  ·have hj:j=0:=by omega
   subst hj;have nY:=Hx rec.length;rw[aBb (by simpa using he),aBa (by rw[he];exact nY),show s+i+1=s+bp rec.length by omega];rfl
  ·rw[aAZ (by simpa using he),show s+i+1=s+(i+1) by omega];exact ih (i+1) (by omega) (by omega)
theorem NB {P:Nat->Piece}{count:Nat}:∀{rs:List (List UInt8)} {s e:Nat},jW P count s rs e->(P ((e+1)%count)).n≠e+1->∀(fuel:Nat) (out:List (List UInt8)),e<=s+fuel->mB P count fuel s [] out s=(out++rs,e):=by
 intro rs
 induction rs with
 |nil=>
  intro s e h gT fuel out hf;have h:e=s:=h;subst h;cases fuel with
  |zero=>simp[mB]
  |succ f=>rw[mB,aAZ gT];simp
 |cons rec rs ih=>
  intro s e h gT fuel out hf;have h1:=(jW.le h.2).1;have h2:=ov rec.length;have:=NA h.1 (fuel-bp rec.length) s out (bp rec.length) 0 (by omega) h2;rw[show fuel-bp rec.length+bp rec.length=fuel by omega]at this;simp only[aBJ,aDE,aCI]at this;rw[this,ih h.2 gT _ _ (by omega)];simp
theorem A6 (P:Nat->Piece)(count base:Nat):∀i k,i<=k->lU P count base i<=lU P count base k:=by
 intro i k
 induction k with
 |zero=>intro h;have:i=0:=by omega
        rw[this];exact aAU _
 |succ k ih=>
  intro h
  by_cases he:i=k+1
  ·rw[he];exact aAU _
  ·have:=ih (by omega);simp only[lU]
   split<;>omega
theorem Rz {P:Nat->Piece}{count base e:Nat}{rs:List (List UInt8)}(h:jW P count base rs e)(h0:0<count)(hle:∀j,j<count->(P j).n<=e):lU P count base count=e:=by
 have h1:=IL P count base e h.le.1 hle count (aAU _);refine Nat.le_antisymm h1 ?_;cases rs with
 |nil=>
  have he:e=base:=h;rw[he];exact A6 P count base 0 count (by omega)
 |cons r rs=>
  have hl:=h.aaY (by simp);have hlt:=h.le.2 (by simp);have hj:e%count<count:=Nat.mod_lt _ h0;have h2:=A6 P count base (e%count+1) count (by omega)
  have h3:e<=lU P count base (e%count+1):=by
   simp only[lU];rw[aBb ⟨by rw[hl];omega,by rw[hl]⟩,hl];omega
  omega
def uQ (P:Nat->Piece)(count:Nat)(rec:List UInt8)(last:Nat):Nat->Nat->Piece
 |0=>P
 |k+1=>fun j=>if j=(last+1+k)%count then cW rec last (bp rec.length) k else uQ P count rec last k j
theorem Hv {P:Nat->Piece}{count:Nat}{rec:List UInt8}{last:Nat}(j:Nat):∀k,(∀i,i<k->j≠(last+1+i)%count)->uQ P count rec last k j=P j:=by
 intro k
 induction k with
 |zero=>intro _;rfl
 |succ k ih=>intro h;simp only[uQ];rw[aAZ (h k (by omega))];exact ih fun i hi=>h i (by omega)
theorem RM {P:Nat->Piece}{count:Nat}{rec:List UInt8}{last:Nat}(k i:Nat)(hi:i<k)(hk:k<=count):uQ P count rec last k ((last+1+i)%count)=cW rec last (bp rec.length) i:=by
 induction k with
 |zero=>omega
 |succ k ih=>
  simp only[uQ]
  by_cases h:i=k
  ·rw[aBb (by rw[h]),h]
  ·rw[aAZ (Oe (by omega) (by omega))];exact ih (by omega) (by omega)
theorem jW.put {P:Nat->Piece}{count base last:Nat}{rs:List (List UInt8)}(h:jW P count base rs last){rec:List UInt8}(hr:bp rec.length+(last-base)<=count):jW (uQ P count rec last (bp rec.length)) count base (rs++[rec]) (last+bp rec.length):=by
 have hle:=h.le.1;refine(h.congr fun x h1 h2=>Hv _ _ fun i hi=> ?_).snoc fun i hi=>RM _ i hi (by omega);exact Oe (by omega) (by omega)
theorem VX {P:Nat->Piece}{count last:Nat}{rec:List UInt8}(h:∀j,j<count->(P j).n<=last):∀k,k<=bp rec.length->∀j,j<count->(uQ P count rec last k j).n<=last+bp rec.length:=by
 intro k
 induction k with
 |zero=>intro _ j hj;have:=h j hj;simp only[uQ];omega
 |succ k ih=>
  intro hk j hj;simp only[uQ]
  split
  ·unfold cW;simp;omega
  ·exact ih (by omega) j hj
abbrev eB:=Nat×jk
def LA (e:eB):List UInt8:=uv e.1++(uv (iP e.2).length++iP e.2)
def fJ (l:List eB):List UInt8:=(l.map LA).flatten
theorem Bg (e:eB)(l:List eB):fJ (e::l)=uv e.1++(uv (iP e.2).length++(iP e.2++fJ l)):=by unfold fJ LA;simp
theorem Ew (a b:List eB):fJ (a++b)=fJ a++fJ b:=by unfold fJ;simp
theorem RL (e:eB)(l:List eB):fJ (e::l)≠[]:=by
 rw[Bg];intro h;have:=ym e.1;have h2:=congrArg List.length h;simp at h2;have h3:(uv e.1).length=0:=by rw[h2.1];rfl
 omega
theorem A5 (l:List UInt8):iP l++List.replicate (l.length-(iP l).length) 0=l:=by
 have key:∀m:List UInt8,(m.dropWhile (fun b=>b==0)).length<=m.length/\List.replicate (m.length-(m.dropWhile (fun b=>b==0)).length) 0++m.dropWhile (fun b=>b==0)=m:=by
  intro m
  induction m with
  |nil=>simp
  |cons b m ih=>
   rw[List.dropWhile_cons]
   by_cases h:b=0
   ·subst h;simp only[beq_self_eq_true,aBr,aBt];refine⟨by omega, ?_⟩;rw[show m.length+1-(m.dropWhile (fun b=>b==0)).length=(m.length-(m.dropWhile (fun b=>b==0)).length)+1 by omega,aDb,aBR,ih.2]
   ·rw[aAZ (by simpa using h)];simp
 have:=(key l.reverse).2;have h2:=congrArg List.reverse this;rw[List.reverse_append,aCL,List.reverse_replicate,List.length_reverse]at h2;unfold iP;rw[List.length_reverse];exact h2
theorem vX (l:List UInt8):(iP l).length<=l.length:=by
 have:=congrArg List.length (A5 l);rw[aAY,aBz]at this;omega
def nW (d:List eB)(l:List eB):List eB:=l.foldl (fun d e=>gH d e.1 e.2) d
def dX (d:List eB)(Ls:List (List eB)):List eB:=Ls.foldl nW d
theorem pY (d:List eB)(Ls:List (List eB))(l:List eB):dX d (Ls++[l])=nW (dX d Ls) l:=by unfold dX;rw[aDB];rfl
theorem KA (d:List eB)(l:List eB)(e:eB):nW d (l++[e])=gH (nW d l) e.1 e.2:=by unfold nW;rw[aDB];rfl
section
variable {st st':St} {p a:Nat} {lg:CV} {M:bR} {bd bn bi bc:Nat} {F:List Nat} {D:aV}
theorem lp.at {G:List Nat}{vs:List CV}{L:List (List UInt8)}(h:lp st G vs L){i:Nat}(hi:i<L.length):∃fw:i<vs.length,kM st G vs[i] 1 (ai L[i]):=by
 induction vs generalizing L i with
 |nil=>cases L with|nil=>simp at hi|cons l L=>exact h.elim
 |cons v vs ih=>
  cases L with
  |nil=>exact h.elim
  |cons l L=>
   cases i with
   |zero=>exact⟨by simp,h.1⟩
   |succ i=>
    obtain⟨a,b⟩:=ih h.2 (by simpa using hi);exact⟨by simpa using a,b⟩
theorem nO.keep {x:CV}{L:List (List UInt8)}{Fo G X:List Nat}(h:nO st x L Fo G)(hk:Kp X st st')(h1:∀b∈Fo,b∉X)(h2:∀b∈G,b∉X):nO st' x L Fo G:=by
 obtain⟨vs,a,b,c,d,e⟩:=h;exact⟨vs,a.keep hk fun q hq=>⟨c q hq,h1 q hq⟩,b.keep hk h2,fun q hq=>aBs (c q hq) hk.next,fun q hq=>aBs (d q hq) hk.next,e⟩
theorem Kx (h:cG st p a lg M bd bn bi bc){x:CV}{Ls:List (List eB)}{Fo G:List Nat}(hx:nO st x (Ls.map fJ) Fo G)(ZK:∀b∈Fo,b≠bd)(hG:∀b∈G,b≠bd)(hLs:∀l∈Ls,∀e∈l,e.1<M.aE/\e.2.length=512)(hsz:∀l∈Ls,(fJ l).length<=1000000)(hn:Ls.length<=1000000)(sG:M.aE<=1000000):
 R 72 [.ptr p 0,x] st fun v st'=>v= .bool true/\Kp [bd] st st'/\cG st' p a lg {M with dirty:=dX M.dirty Ls} bd bn bi bc:=by
 refine bO ?_;rw[w72];have Sk:=hx;obtain⟨vs0,hv1,hv2,hv3,hv4,hv5⟩:=hx;have Sm:vs0.length=Ls.length:=by have:=hv2.len;rw[aCa]at this;exact this
 have hlen:∀s,bo .slice x s= .ok (I Ls.length) s:=fun s=>(hv1.sl (X:=[]) fun b hb=>⟨by simp,hv3 b hb⟩).len Ls.length (by omega) (by omega) s;rw[db,hlen,af];simp only[aK,aL];refine bM (fun fu vs s=>∃i,fu+i=Ls.length/\vs=[.ptr p 0,x,I Ls.length,I i]/\Kp [bd] st s/\cG s p a lg {M with dirty:=dX M.dirty (Ls.take i)} bd bn bi bc/\nO s x (Ls.map fJ) Fo G) ?_ (n:=Ls.length) ⟨0,rfl,rfl,Kp.refl _ _,h,Sk⟩;rintro fu vs s k ⟨i,hi,rfl,hk,hP,hR⟩ next;simp only[aK,aL];rw[dM,af,ag]
 by_cases hc:i<Ls.length
 ·rw[aBc hc,aBb rfl];obtain⟨vs1,r1,r2,r3,r4,r5⟩:=hR;have auQ:vs1.length=Ls.length:=by have:=r2.len;rw[aCa]at this;exact this
  have kN:Sl s [] x 1 vs1:=r1.sl fun b hb=>⟨by simp,r3 b hb⟩;refine kN.idx (i:=i) (by omega) _ ?_;obtain⟨fw,WV⟩:=r2.at (i:=i) (by simpa using hc);rw[List.getElem_map]at WV;have Ib:Ls[i]∈Ls:=aBq hc;rw[db];refine(vh WV.nil (hsz _ Ib)).mono ?_;rintro _ eh ⟨r,Fr,rfl,pI,AN,Pn⟩;have amT:nO eh x (Ls.map fJ) Fo G:=nO.keep ⟨vs1,r1,r2,r3,r4,r5⟩ pI (by simp) (by simp);have n13:=pI.next;simp only[aK,aL];refine bM (fun fu2 vs s'=>∃done rest,done++rest=Ls[i]/\fu2=rest.length/\vs=[.ptr p 0, .ptr r 0,x,I Ls.length,I i]/\Kp (bd::Fr) eh s'/\cG s' p a lg {M with dirty:=nW (dX M.dirty (Ls.take i)) done} bd bn bi bc/\nP s' r Fr (fJ rest)/\nO s' x (Ls.map fJ) Fo G) ?_ (n:=Ls[i].length) ⟨[],Ls[i],rfl,rfl,rfl,Kp.refl _ _,hP.keep pI (by simp),AN,amT⟩;rintro fu2 vs s4 k2 ⟨done,rest,SU,alR,rfl,mV,QX,Sw,hR4⟩ aaQ;simp only[aK,aL];have adv:bd<st.next:=h.lt bd (by simp);have lO:=hk.next;have Pm:∀b∈Fr,st.next<=b:=fun b hb=>by have:=Pn b hb;omega
  refine(pX Sw).same ?_;simp only[aG,aBr,bh,af,ea];refine(Tp Sw).same ?_;cases rest with
  |nil=>
   rw[aBc (show fJ []=[]from rfl)];simp only[du,aBm,af,aF,aBr,ag,aAR,aBf,ik i (by omega)];have he:Ls.take (i+1)=Ls.take i++[Ls[i]]:=aBl hc;refine next (fu-1) _ _ (by omega) ⟨i+1,by omega,rfl, ?_, ?_,hR4⟩
   ·exact(hk.trans pI (by simp)).trans mV fun q hq=>by
     rcases aAX.1 hq with rfl|hq
     ·exact .inl (by simp)
     ·exact .inr (Pm q hq)
   ·rw[he,pY,<-SU,aBQ];exact QX
  |cons e rest=>
   obtain⟨n,sec⟩:=e;have hes:=hLs _ Ib (n,sec) (by rw[<-SU];simp);rw[aAW (RL _ _)];have BE:=QX.main;have e1:aj .sub none true (I M.aE) (.int .i64 1) s4= .ok (I ((M.aE-1:Nat):Int)) s4:=tV M.aE (by omega) (by omega) s4 none;simp only[du,aBk,af,aF,aBr,ag,fH,bA,ah,az,BE,ar,aAT,aAS,aAQ,au,e1];rw[Bg]at Sw;have adw:∀b∈[p,bd,bn,bi,bc],b∉Fr:=fun b hb hh=>by have:=h.lt b hb;have:=Pm b hh;omega
   refine(kz (m:=M.aE-1) Sw (by show n<=_;have:=hes.1;simp at this;omega) (by omega)).mono ?_;rintro _ s7 ⟨rfl,k7,n7,rd7⟩;have htl:=vX sec;have vq:sec.length=512:=hes.2;refine(Cv (m:=512) rd7 (by show(iP sec).length<=_;omega) (by omega)).mono ?_;rintro _ s8 ⟨rfl,k8,n8,rd8⟩;refine(pX rd8).same ?_;simp only[du,aBm,af,ag,aAR,aBf];have hP8:=(QX.keep k7 adw).keep k8 adw;rw[cM,aT];have qj:Kp [] s8 (St.new s8 (.cells (zr 512) 173 false)):=(Kp.refl [] s8).new _;have Ra:(St.new s8 (.cells (zr 512) 173 false)).mem.get s8.next=some (.cells (zr 512) 173 false):=aq _ _;have QC:(St.new s8 (.cells (zr 512) 173 false)).next=s8.next+1:=rfl;generalize St.new s8 (.cells (zr 512) 173 false)=dd at*;have Ai:bP 512 1 (.ptr s8.next 0) none none dd= .ok (.slice s8.next 0 512 512 0) dd:=rfl;rw[Ai,af];obtain⟨dm,c1,c2,c3,c4⟩:=EN (b:=s8.next) (off:=0) (n:=512) (cap:=512) (d:=iP sec) Ra (by omega) (by rw[pL];omega);rw[c1,aT,bG]
   have kg:bt (zr 512) 0 (ai (iP sec))=ai sec:=by
    unfold bt;rw[aCI,aBw,bF,aAT,nb]
    conv=>rhs;rw[<-A5 sec]
    rw[bH]
    congr 1
    unfold ai;rw[<-aCt]
    congr 1
    rw[aDc,vq]
   rw[kg]at c3
   have pJ:Kp [s8.next] dd dm:=⟨by omega,fun q h1 h2=>c4 q (by simpa using h2),fun hf q hq=>by
    have:q≠s8.next:=by omega
    rw[c4 q this];exact hf q (by omega)⟩
   have Fh:∀b∈[p,bd,bn,bi,bc],b∉[s8.next]:=fun b hb=>by have:=hP8.lt b hb;simp;omega
   have xE:=(hP8.keep qj (by simp)).keep pJ Fh;have OQ:=xE.main;obtain⟨blk,u1,u2,u3⟩:=IsMap.update xE.dirty n (.agg (ai sec));rw[uN]at u2;have oF:(ai sec).length=512:=by simpa using vq
   simp only[bA,ah,af,az,OQ,ar,aAT,aAS,aAQ,au];rw[aO (n:=512) c3 oF,af,u1,aT];refine⟨⟨trivial,trivial,trivial⟩,trivial, ?_⟩;have qR:=h.nd;simp only[aBi,aAX,aBF,aCA,aCr]at qR;have ady:=xE.lt bd (by simp);have qI:Kp [bd] dm (St.set dm bd blk):=(Kp.refl _ dm).set _ (.inl (by simp)) ady;have abd:Kp (bd::Fr) s4 (St.set dm bd blk):=((((k7.mono (by intro q hq;left;simp[hq])).trans k8 (by intro q hq;left;simp[hq])).trans qj (by simp)).trans pJ (by intro q hq;right;simp at hq;omega)).trans qI (by intro q hq;left;simp at hq;simp[hq]);have adQ:∀b∈Fr,b<s8.next:=fun b hb=>by obtain⟨_,_,_,_,_,h3,_⟩:=rd8;exact h3 b hb
   have Im:cG (St.set dm bd blk) p a lg {M with dirty:=nW (dX M.dirty (Ls.take i)) (done++[(n,sec)])} bd bn bi bc:=
    ⟨(ak _ _ _ _ (aBU (aBU qR.1.1))).trans OQ,by rw[KA];exact u2,xE.now.mono (ak _ _ _ _ (aBU qR.2.1.1)),xE.idle.mono (ak _ _ _ _ (aBU qR.2.1.2.1)),xE.count.mono (ak _ _ _ _ (aBU qR.2.1.2.2)),h.nd,xE.lt,h.lgs⟩
   refine aaQ rest.length _ _ (by rw[alR];simp) ⟨done++[(n,sec)],rest,by rw[<-SU];simp,rfl,rfl,mV.trans abd (fun q hq=> .inl hq),Im, ?_, ?_⟩
   ·exact((rd8.keep qj (by simp)).keep pJ fun b hb=>by have:=adQ b hb;simp;omega).keep qI fun b hb=>by have:=Pm b hb;simp;omega
   ·exact hR4.keep abd (fun b hb hh=>by
     rcases aAX.1 hh with rfl|hh
     ·exact ZK _ hb rfl
     ·have h1:=Pn b hh;obtain⟨_,_,_,q3,_,_⟩:=Sk;have:=q3 b hb;omega) (fun b hb hh=>by
     rcases aAX.1 hh with rfl|hh
     ·exact hG _ hb rfl
     ·have h1:=Pn b hh;obtain⟨_,_,_,_,q4,_⟩:=Sk;have:=q4 b hb;omega)
 ·rw[aAW hc,aAZ (by decide)];have he:Ls.take i=Ls:=aBa (by omega);rw[he]at hP;exact⟨trivial,hk,hP⟩
end
