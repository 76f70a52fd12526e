import Derived.Test.YtomffjeofpafnaaGreatDoorBtA
namespace Lim
open Go
noncomputable section
structure Calm (D:aT):Prop where
 dead:D.dead=false
 set:D.set=false
theorem BT (kept:Nat->Bool)(w:qD):∀(W:List qD) (i:Nat) (L:List jl),gX kept i L (W++[w])=if kept (i+W.length)=true then (gX kept i L W).set w.1 w.2 else gX kept i L W:=by
 intro W
 induction W with
 |nil=>intro i L;simp[gX]
 |cons v W ih=>
  intro i L;simp only[aBC,gX,aBb];rw[ih];rw[show i+1+W.length=i+(W.length+1) by omega]
theorem aT.FE (D:aT)(W:List qD)(w:qD)(j:Nat)(D' D'':aT)(h1:D'.waits=W++[w])(h2:D'.ay=D.ay)(h3:D''.waits=W)(h4:D''.ay=D.ay):D'.cur j=if j=w.1 then w.2 else D''.cur j:=by
 unfold aT.cur;rw[h1,h3,wR]
 by_cases h:j=w.1
 ·rw[aAI (by omega),aAI h];simp
 ·rw[aAH (by omega),aAH h];cases hx:ny W (j:Int)with
  |none=>simp only[h2,h4]
  |some k=>
   have:=vZ hx;simp only[aCN,aCe this]
theorem settled (L:List jl):∀(W:List qD),(∀w∈W,w.1<L.length)->∀(D:aT),D.waits=W->D.ay=L->∀j,(gX (fun _=>true) 0 L W).getD j []=D.cur j:=by
 suffices key:∀V:List qD,(∀w∈V.reverse,w.1<L.length)->∀(D:aT),D.waits=V.reverse->D.ay=L->∀j,(gX (fun _=>true) 0 L V.reverse).getD j []=D.cur j by
  intro W hw D h1 h2 j;have:=key W.reverse (by rwa [aCu]) D (by rwa [aCu]) h2 j
  rwa [aCu]at this
 intro V
 induction V with
 |nil=>
  intro _ D h1 h2 j;unfold aT.cur;rw[h1,List.reverse_nil,yE,h2];rfl
 |cons w V ih=>
  intro hw D h1 h2 j;rw[List.reverse_cons]at hw h1⊢;rw[BT,aAI rfl];have h3:=ih (fun v hv=>hw v (by simp at hv⊢;exact .inl hv)) {D with waits:=V.reverse} rfl h2 j;rw[aT.FE D V.reverse w j D {D with waits:=V.reverse} h1 rfl rfl rfl];have hl:w.1<(gX (fun _=>true) 0 L V.reverse).length:=by rw[qT];exact hw w (by simp)
  by_cases h:j=w.1
  ·rw[aAI h,h];simp[aCN,hl]
  ·rw[aAH h,<-h3];simp only[aCN];rw[List.getElem?_set_ne (aBE h)]
def aT.yL (D:aT):Prop:=∀w∈D.waits,w.1<D.ay.length
theorem Calm.write {D:aT}(h:Calm D){i:Nat}{s:jl}(hi:i<D.ay.length)(hs:s.length=512)(hw:D.yL):
 (D.write i s).1=0/\Calm (D.write i s).2/\(D.write i s).2.ay=D.ay/\(D.write i s).2.yL/\(D.write i s).2.waits.length=D.waits.length+1/\∀j,(D.write i s).2.cur j=if j=i then s else D.cur j:=by
 have e:D.write i s=(0,{D with waits:=D.waits++[((i:Int).toNat,s)]}.tick):=by
  unfold aT.write;rw[aAH (by rw[h.dead];decide),aAH (by rw[hs];omega),aAH (by unfold aT.out;rw[h.set];simp)]
 rw[e];refine⟨rfl,⟨h.dead,h.set⟩,rfl, ?_,by simp[aT.tick],fun j=> ?_⟩
 ·intro w V3;have V3:w∈D.waits++[((i:Int).toNat,s)]:=V3;rcases aAM.1 V3 with h1|h1
  ·exact hw w h1
  ·have:w=((i:Int).toNat,s):=by simpa using h1
   rw[this];exact hi
 ·exact aT.FE D D.waits (i,s) j _ D rfl rfl rfl rfl
theorem Calm.flush {D:aT}(h:Calm D)(hw:D.yL):
 D.flush.1=0/\Calm D.flush.2/\D.flush.2.ay.length=D.ay.length/\D.flush.2.waits=[]/\∀j,D.flush.2.cur j=D.cur j:=by
 have e:D.flush=(0,(D.tick).settle fun _=>true):=by
  unfold aT.flush;rw[aAH (by rw[h.dead];decide),aAH (by unfold aT.out;rw[h.set];simp)]
 rw[e];refine⟨rfl,⟨h.dead,h.set⟩,qT _ _ _ _,rfl,fun j=> ?_⟩;rw[<-settled D.ay D.waits hw D rfl rfl j]
 rfl
theorem Calm.read {D:aT}(h:Calm D){i:Nat}(hi:i<D.ay.length):D.read i=(0,D.cur i):=by
 unfold aT.read;rw[aAH (by rw[h.dead];decide),aAH (by omega)];rfl
theorem Calm.head {D:aT}(h:Calm D)(hw:D.yL)(h0:0<D.ay.length)(base:Nat):
 (D.head base).1=0/\Calm (D.head base).2/\(D.head base).2.ay.length=D.ay.length/\(D.head base).2.waits=[]/\∀j,(D.head base).2.cur j=if j=0 then dw base else D.cur j:=by
 obtain⟨a1,a2,a3,a4,a5,a6⟩:=h.write h0 (pY base) hw;obtain⟨b1,b2,b3,b4,b5⟩:=a2.flush a4;have a1:(D.write 0 (dw base)).1=0:=a1;unfold aT.head;rw[aAI a1];exact⟨b1,b2,by rw[<-a3];exact b3,b4,fun j=>(b5 j).trans (a6 j)⟩
set_option maxRecDepth 100000
theorem Mi {l:List Nat}{n:Nat}(h:n∉l):mN l n=l++[n]:=by
 induction l with
 |nil=>rfl
 |cons p r ih=>
  simp only[aAD,aBY]at h;simp only[mN,aAH h.1,aBC];rw[ih h.2]
def bS.clean (M:bS)(m:jB)(idle:List Nat):bS:={M with now:=[],count:=[],m:=m,kept:=m,idle:=idle}
section
variable {st st':St} {p a:Nat} {lg:CV} {M:bS} {bd bn bi bc:Nat} {F:List Nat} {D:aT}
theorem FW (h:cA st p a lg M bd bn bi bc)(hd:du st a F D)(qI:D.dead=false)(hF:∀b∈F,b≠p){m':jB}{frs:List Nat}
 (h0:({M with now:=[]}:bS).get D 0=bI m') (hm:QQ (bI m')=m') (KA:M.first+M.aE<=D.ay.length) (qz:0<M.aE) (hhd:m'.head=frs.headD 0) (iE:∀n∈frs,0<n/\n<M.aE) (iQ:frs.Nodup) (jg:LP {M with now:=[]} D frs):
 R 75 [.ptr p 0] st fun v st'=>v=I 0/\Kp [p] st st'/\∃PV PW PX,cA st' p a lg (M.clean m' frs) bd PV PW PX/\∀b∈[PV,PW,PX],st.next<=b:=by
 refine bN ?_;rw[w75];have hsz:=(show D.ay.length<=65536 from by obtain⟨_,_,_,_,_,_,_,h⟩:=hd;exact h.size);rw[cU,af,ag,aAH (by decide),ja,aS,ja,aS,ja,aS];have x1:(St.new st (.map [] 0)).next=st.next+1:=rfl;have x2:(St.new (St.new st (.map [] 0)) (.map [] 0)).next=st.next+2:=rfl;have x3:(St.new (St.new (St.new st (.map [] 0)) (.map [] 0)) (.map [] 0)).next=st.next+3:=rfl;rw[x1,x2];have k3:Kp [] st (St.new (St.new (St.new st (.map [] 0)) (.map [] 0)) (.map [] 0)):=(((Kp.refl [] st).new _).new _).new _;have m1:da (St.new (St.new (St.new st (.map [] 0)) (.map [] 0)) (.map [] 0)) st.next []:=(da.new st).mono (by rw[aZ _ _ _ (by simp;omega),aZ _ _ _ (by simp)]);have m2:da (St.new (St.new (St.new st (.map [] 0)) (.map [] 0)) (.map [] 0)) (st.next+1) []:=(da.new (St.new st (.map [] 0))).mono (by show(St.new _ _).mem.get (st.next+1)=_;rw[aZ _ _ _ (by simp)];rfl);have m3:da (St.new (St.new (St.new st (.map [] 0)) (.map [] 0)) (.map [] 0)) (st.next+2) []:=da.new (St.new (St.new st (.map [] 0)) (.map [] 0));generalize St.new (St.new (St.new st (.map [] 0)) (.map [] 0)) (.map [] 0)=s3 at*;have hp3:=h.lt p (by simp);have amj:=h.lt bd (by simp);have nd:=h.nd;simp only[aAQ,aAD,aBo,aCg,aBY]at nd;have g3:=(k3.keep p hp3 (by simp)).trans h.main;have qA:bp [.ptr a 0,lg,I M.first,I M.aE, .map bd, .map bn,I M.kept.root,I M.kept.used,I M.kept.head,I M.kept.free,I M.m.root,I M.m.used,I M.m.head,I M.m.free, .map bi, .map bc] 5 [.map st.next]=[.ptr a 0,lg,I M.first,I M.aE, .map bd, .map st.next,I M.kept.root,I M.kept.used,I M.kept.head,I M.kept.free,I M.m.root,I M.m.used,I M.m.head,I M.m.free, .map bi, .map bc]:=rfl
 have kG:bp [.ptr a 0,lg,I M.first,I M.aE, .map bd, .map st.next,I M.kept.root,I M.kept.used,I M.kept.head,I M.kept.free,I M.m.root,I M.m.used,I M.m.head,I M.m.free, .map bi, .map bc] 15 [.map (st.next+1)]=[.ptr a 0,lg,I M.first,I M.aE, .map bd, .map st.next,I M.kept.root,I M.kept.used,I M.kept.head,I M.kept.free,I M.m.root,I M.m.used,I M.m.head,I M.m.free, .map bi, .map (st.next+1)]:=rfl;have CK:bp [.ptr a 0,lg,I M.first,I M.aE, .map bd, .map st.next,I M.kept.root,I M.kept.used,I M.kept.head,I M.kept.free,I M.m.root,I M.m.used,I M.m.head,I M.m.free, .map bi, .map (st.next+1)] 14 [.map (st.next+2)]=[.ptr a 0,lg,I M.first,I M.aE, .map bd, .map st.next,I M.kept.root,I M.kept.used,I M.kept.head,I M.kept.free,I M.m.root,I M.m.used,I M.m.head,I M.m.free, .map (st.next+2), .map (st.next+1)]:=rfl
 have EP:∀{s:St} {l:List CV} {x:CV} {o:Nat} {K:St->Prop},s.mem.get p=some (.cells l 158 false)->x.cD=[x]->cr x=true->o<l.length->K (St.set s p (.cells (bp l o [x]) 158 false))->lz 1 o (.ptr p 0) x s K:=by
  intro s l x o K hg h1 h2 h3 hK;simp only[lz,br,ah,af,aF,hg,aR,h1,aAF];exact⟨⟨rfl,by simp[h2],h3⟩,hK⟩
 refine EP g3 rfl rfl (by decide:(5:Nat)<16) ?_;refine EP (ao _ _ _) rfl rfl (by rw[qA];exact(by decide:(15:Nat)<16)) ?_;rw[qA,set_set];refine EP (ao _ _ _) rfl rfl (by rw[kG];exact(by decide:(14:Nat)<16)) ?_;rw[kG,set_set,CK]
 have XB:cA (St.set s3 p (.cells [.ptr a 0,lg,I M.first,I M.aE, .map bd, .map st.next,I M.kept.root,I M.kept.used,I M.kept.head,I M.kept.free,I M.m.root,I M.m.used,I M.m.head,I M.m.free, .map (st.next+2), .map (st.next+1)] 158 false)) p a lg {M with now:=[],idle:=[],count:=[]} bd st.next (st.next+2) (st.next+1):=
  ⟨ao _ _ _,h.dirty.mono ((al _ _ _ _ (aBE nd.1.1)).trans (k3.keep bd amj (by simp))),m1.mono (al _ _ _ _ (by omega)),m3.mono (al _ _ _ _ (by omega)),m2.mono (al _ _ _ _ (by omega)),by
   simp only[aAQ,aAD,aBo,aCg,aBY];refine⟨⟨nd.1.1,by omega,by omega,by omega⟩,⟨by omega,by omega,by omega⟩,⟨by omega,by omega⟩,by omega,not_false,aDc⟩,by
   intro b hb;simp at hb;show b<s3.next;omega,h.lgs⟩
 have k6:Kp [p] st (St.set s3 p (.cells [.ptr a 0,lg,I M.first,I M.aE, .map bd, .map st.next,I M.kept.root,I M.kept.used,I M.kept.head,I M.kept.free,I M.m.root,I M.m.used,I M.m.head,I M.m.free, .map (st.next+2), .map (st.next+1)] 158 false)):=(k3.mono (by simp)).set _ (.inl (by simp)) (by omega);have n6:(St.set s3 p (.cells [.ptr a 0,lg,I M.first,I M.aE, .map bd, .map st.next,I M.kept.root,I M.kept.used,I M.kept.head,I M.kept.free,I M.m.root,I M.m.used,I M.m.head,I M.m.free, .map (st.next+2), .map (st.next+1)] 158 false)).next=st.next+3:=x3;generalize St.set s3 p (.cells [.ptr a 0,lg,I M.first,I M.aE, .map bd, .map st.next,I M.kept.root,I M.kept.used,I M.kept.head,I M.kept.free,I M.m.root,I M.m.used,I M.m.head,I M.m.free, .map (st.next+2), .map (st.next+1)] 158 false)=s6 at*;have za:=hd.keep k6 fun b hb=>by simpa using hF b hb
 have we:∀n,({M with now:=[],idle:=[],count:=[]}:bS).get D n=({M with now:=[]}:bS).get D n:=fun n=>rfl;have h0':(bI m').length=512:=gK m';refine(xA XB za qI (n:=0) (by show M.first+0<_;omega) (by rw[we,h0];exact h0')).mono ?_;rintro _ s7 ⟨rfl,k7⟩;rw[aD,af,aN,aD,af,we,h0];have zP:(ai (bI m')).length=512:=by simpa using h0'
 refine kS zP (bB _) ?_;have k9:=k7.page (ai (bI m'));have g9:(St.set (St.new s7 (.cells (zr 512) 173 false)) s7.next (.cells (ai (bI m')) 173 false)).mem.get s7.next=some (.cells (ai (bI m')) 173 false):=ao _ _ _;generalize St.set (St.new s7 (.cells (zr 512) 173 false)) s7.next (.cells (ai (bI m')) 173 false)=s9 at*;have e2:∀s,aj .neq (some .int) true (I 0) (.int .i64 0) s= .ok (.bool false) s:=fun s=>rfl;rw[e2,af,ag,aAH (by decide),aQ (n:=512) g9 zP,af];refine(aaj h0').mono ?_;rintro _ df ⟨rfl,so⟩;rw[hm];have VN:Kp [] s6 df:=k9.trans so (by simp);have xr:=XB.keep VN (by simp);have RV:=za.keep VN (by simp);have akK:=xr.main
 have RG:∀{s:St} {x1 x2 x3 x4 y1 y2 y3 y4:CV} {K:St->Prop},s.mem.get p=some (.cells [.ptr a 0,lg,I M.first,I M.aE, .map bd, .map st.next,x1,x2,x3,x4,y1,y2,y3,y4, .map (st.next+2), .map (st.next+1)] 158 false)->K (St.set s p (.cells [.ptr a 0,lg,I M.first,I M.aE, .map bd, .map st.next,x1,x2,x3,x4,I m'.root,I m'.used,I m'.head,I m'.free, .map (st.next+2), .map (st.next+1)] 158 false))->lz 4 10 (.ptr p 0) (.agg [I m'.root,I m'.used,I m'.head,I m'.free]) s K:=by
  intro s x1 x2 x3 x4 y1 y2 y3 y4 K hg hK;simp only[lz,br,ah,af,aF,hg,aR,aX,aAF];exact⟨⟨rfl,rfl,by simp⟩,hK⟩
 refine RG akK ?_;rw[show zj 4 10 (.ptr p 0) (St.set df p (.cells [.ptr a 0,lg,I M.first,I M.aE, .map bd, .map st.next,I M.kept.root,I M.kept.used,I M.kept.head,I M.kept.free,I m'.root,I m'.used,I m'.head,I m'.free, .map (st.next+2), .map (st.next+1)] 158 false))=fun K=>us (dH (.ptr p 0) (St.set df p (.cells [.ptr a 0,lg,I M.first,I M.aE, .map bd, .map st.next,I M.kept.root,I M.kept.used,I M.kept.head,I M.kept.free,I m'.root,I m'.used,I m'.head,I m'.free, .map (st.next+2), .map (st.next+1)] 158 false))) fun p'=>us (an 10 p' _) fun a'=>us (aI 4 a' _) K from rfl];simp only[br,af,ah,aAF];rw[gH (n:=4) (ao _ _ _) (by simp),af]
 have abS:∀{s:St} {x1 x2 x3 x4 y1 y2 y3 y4:CV} {K:St->Prop},s.mem.get p=some (.cells [.ptr a 0,lg,I M.first,I M.aE, .map bd, .map st.next,x1,x2,x3,x4,y1,y2,y3,y4, .map (st.next+2), .map (st.next+1)] 158 false)->K (St.set s p (.cells [.ptr a 0,lg,I M.first,I M.aE, .map bd, .map st.next,I m'.root,I m'.used,I m'.head,I m'.free,y1,y2,y3,y4, .map (st.next+2), .map (st.next+1)] 158 false))->lz 4 6 (.ptr p 0) (.agg [I m'.root,I m'.used,I m'.head,I m'.free]) s K:=by
  intro s x1 x2 x3 x4 y1 y2 y3 y4 K hg hK;simp only[lz,br,ah,af,aF,hg,aR,aX,aAF];exact⟨⟨rfl,rfl,by simp⟩,hK⟩
 refine abS (ao _ _ _) ?_;rw[set_set];have ako:=xr.lt p (by simp);have VM:Kp [p] s6 (St.set df p (.cells [.ptr a 0,lg,I M.first,I M.aE, .map bd, .map st.next,I m'.root,I m'.used,I m'.head,I m'.free,I m'.root,I m'.used,I m'.head,I m'.free, .map (st.next+2), .map (st.next+1)] 158 false)):=(VN.mono (by simp)).set _ (.inl (by simp)) ako
 have HQ:cA (St.set df p (.cells [.ptr a 0,lg,I M.first,I M.aE, .map bd, .map st.next,I m'.root,I m'.used,I m'.head,I m'.free,I m'.root,I m'.used,I m'.head,I m'.free, .map (st.next+2), .map (st.next+1)] 158 false)) p a lg (M.clean m' []) bd st.next (st.next+2) (st.next+1):=by
  have nd6:=xr.nd;simp only[aAQ,aAD,aBo,aCg,aBY]at nd6;exact⟨ao _ _ _,xr.dirty.mono (al _ _ _ _ (aBE nd6.1.1)),xr.now.mono (al _ _ _ _ (aBE nd6.1.2.1)),xr.idle.mono (al _ _ _ _ (aBE nd6.1.2.2.1)),xr.count.mono (al _ _ _ _ (aBE nd6.1.2.2.2)),xr.nd,xr.lt,h.lgs⟩
 generalize St.set df p (.cells [.ptr a 0,lg,I M.first,I M.aE, .map bd, .map st.next,I m'.root,I m'.used,I m'.head,I m'.free,I m'.root,I m'.used,I m'.head,I m'.free, .map (st.next+2), .map (st.next+1)] 158 false)=bU at*;have RU:=za.keep VM fun b hb=>by simpa using hF b hb
 have Yk:Kp [p] st bU:=k6.trans VM (by simp);have M3:=VM.next;have NF:=HQ.main;have NW:∀done n,(M.clean m' done).get D n=({M with now:=[]}:bS).get D n:=fun done n=>rfl;rw[cN];simp only[ru,br,ah,af,aA,NF,aq,aAF,Nat.reduceAdd,aAA,aAy,av,aJ,aK];refine bK (fun fu vs s=>∃done rest,done++rest=frs/\fu=rest.length/\vs=[.ptr p 0,I (rest.headD 0)]/\Kp [st.next+2] bU s/\cA s p a lg (M.clean m' done) bd st.next (st.next+2) (st.next+1)/\LP {M with now:=[]} D rest) ?_ (n:=frs.length) ⟨[],frs,rfl,rfl,by show [CV.ptr p 0,I m'.head]=_;rw[hhd],Kp.refl _ _,HQ,jg⟩;rintro fu vs s k ⟨done,rest,NO,hfu,rfl,hk,hP,hrw⟩ next;simp only[aJ,aK];have lI:=hk.next;cases rest with
 |nil=>
  have e3:aj .neq (some .int) true (I (([]:List Nat).headD 0)) (.int .i64 0) s= .ok (.bool false) s:=rfl;rw[e3,af,ag,aAH (by decide)];rw[aBz]at NO;subst NO;exact⟨trivial,Yk.trans hk (by intro q hq;simp at hq;right;omega),st.next,st.next+2,st.next+1,hP,by intro b hb;simp at hb;omega⟩
 |cons n r=>
  have hn:=iE n (by rw[<-NO];simp)
  have PD:n∉done:=by
   intro hh;have:=iQ;rw[<-NO,aBy]at this;exact this.2.2 n hh n (by simp) rfl
  have e3:aj .neq (some .int) true (I ((n::r).headD 0)) (.int .i64 0) s= .ok (.bool true) s:=by
   rw[aw,ff];show OR.ok (.bool (!decide ((n:Int)=0))) s=_;rw[aAB (by omega)];rfl
  have e4:aj .lss none true (I ((n::r).headD 0)) (.int .i64 0) s= .ok (.bool false) s:=by
   rw[aw,cP];show OR.ok (.bool (decide ((n:Int)<0))) s=_;rw[aAB (by omega)]
  have e5:aj .geq none false (I ((n::r).headD 0)) (I M.aE) s= .ok (.bool false) s:=by
   rw[aw,yq];show OR.ok (.bool (decide ((M.aE:Int)<=(n:Int)))) s=_;rw[aAB (by omega)]
  have Bg:=hP.main;have hl:=IsMap.lookup (.inl hP.idle) (.bool false) false n s rfl;rw[aAH (by decide),DS,aAH (show¬n∈(M.clean m' done).idle from PD)]at hl;simp only[Option.getD_none]at hl;have abF:s.mem.get p=some (.cells [.ptr a 0,lg,I M.first,I M.aE, .map bd, .map st.next,I m'.root,I m'.used,I m'.head,I m'.free,I m'.root,I m'.used,I m'.head,I m'.free, .map (st.next+2), .map (st.next+1)] 158 false):=Bg;rw[e3,af,ag,aAI rfl,e4,af];simp only[aH,aAz,aAO,aAT,bo,af,j0,br,ah,aA,abF,aq,aAF,Nat.reduceAdd,aAA,aAy,av,e5,aG];rw[show iw .int (.bool false) false (.map (st.next+2)) (I ((n::r).headD 0)) s= .ok (.bool false) s from hl,af];simp only[ag,aAz,aAO];obtain⟨blk,u1,u2,u3⟩:=IsMap.update (.inl hP.idle) n (.bool true);have u4:=u3 hP.idle;rw[xX,show(M.clean m' done).idle=done from rfl,Mi PD]at u4;simp only[fm,br,ah,af,aA,abF,aq,aAF,Nat.reduceAdd,aAA,aAy,av];rw[show eD .int (.map (st.next+2)) (I ((n::r).headD 0)) (.bool true) s= .ok .undef (St.set s (st.next+2) blk)from u1,aS];have HJ:=hP.lt (st.next+2) (by simp);have qF:=hP.nd;simp only[aAQ,aAD,aBo,aCg,aBY]at qF
  have sZ:cA (St.set s (st.next+2) blk) p a lg (M.clean m' (done++[n])) bd st.next (st.next+2) (st.next+1):=
   ⟨(al _ _ _ _ qF.1.2.2.1).trans Bg,hP.dirty.mono (al _ _ _ _ qF.2.1.2.1),hP.now.mono (al _ _ _ _ qF.2.2.1.1),u4,hP.count.mono (al _ _ _ _ (aBE qF.2.2.2.1)),hP.nd,hP.lt,h.lgs⟩
  have pe:Kp [st.next+2] bU (St.set s (st.next+2) blk):=hk.set _ (.inl (by simp)) HJ;generalize St.set s (st.next+2) blk=iL at*;have hdF:∀b∈F,b∉[st.next+2]:=fun b hb=>by have:=hd.lt b hb;simp;omega
  have KB:=RU.keep pe hdF;have hlen:(eN (r.headD 0)).length=512:=rq _;refine(xA sZ KB qI (n:=n) (by show M.first+n<_;omega) (by rw[NW,hrw.1];exact hlen)).mono ?_;rintro _ dd ⟨rfl,EK⟩;rw[aD,af,aN,aD,af,NW,hrw.1];have amt:(ai (eN (r.headD 0))).length=512:=by simpa using hlen
  refine kS amt (bB _) ?_;have Pv:=EK.page (ai (eN (r.headD 0)));have Sb:(St.set (St.new dd (.cells (zr 512) 173 false)) dd.next (.cells (ai (eN (r.headD 0))) 173 false)).mem.get dd.next=some (.cells (ai (eN (r.headD 0))) 173 false):=ao _ _ _;have n18:(St.set (St.new dd (.cells (zr 512) 173 false)) dd.next (.cells (ai (eN (r.headD 0))) 173 false)).next=dd.next+1:=rfl;generalize St.set (St.new dd (.cells (zr 512) 173 false)) dd.next (.cells (ai (eN (r.headD 0))) 173 false)=dj at*;have zM:bR 512 1 (.ptr dd.next 0) none (some (.int .i64 4)) dj= .ok (.slice dd.next 0 4 512 0) dj:=rfl;rw[e2,af,ag,aAH (by decide),zM,af];have yO:ai ((eN (r.headD 0)).take 4)=(ai (eN (r.headD 0))).take 4:=by simp[ai]
  have kL:Sl dj [] (.slice dd.next 0 4 512 0) 1 (ai ((eN (r.headD 0)).take 4)):= .inr ⟨dd.next,0,4,512,0,rfl,by rw[yO,aAN];omega,⟨by omega, .inl rfl⟩, .inr ⟨by simp,by omega,_,_,_,Sb,by omega,by rw[aBg,yO]⟩⟩;have hl4:((eN (r.headD 0)).take 4).length<=4:=by rw[aAN];omega
  refine(rZ kL (by omega) (sL _ hl4)).same ?_
  have Be:r.headD 0<2147483648:=by
   cases r with
   |nil=>simp
   |cons x r=>have:=iE x (by rw[<-NO];simp);simp;omega
  rw[wZ Be];refine next r.length _ _ (by rw[hfu];simp) ⟨done++[n],r,by rw[<-NO];simp,rfl,rfl,pe.trans Pv (by simp),sZ.keep Pv (by simp),hrw.2⟩
end
def jU (P:Nat->Piece)(count:Nat):Nat->List (List UInt8)->Nat->Prop
 |s,[],e=>e=s
 |s,rec::rs,e=>(∀i,i<bj rec.length->P ((s+1+i)%count)=cT rec s (bj rec.length) i)/\jU P count (s+bj rec.length) rs e
theorem nY (n:Nat):0<bj n:=by unfold bj;split<;>omega
theorem Hd (n:Nat):n<=bj n*501:=by unfold bj;split<;>omega
theorem M6 {a b count:Nat}(h:a<b)(h2:b-a<count):a%count≠b%count:=by
 intro e;have:=Nat.sub_mod_eq_zero_of_mod_eq e.symm;rw[aCw h2]at this;omega
theorem jU.le {P:Nat->Piece}{count:Nat}:∀{rs:List (List UInt8)} {s e:Nat},jU P count s rs e->s<=e/\(rs≠[]->s<e):=by
 intro rs
 induction rs with
 |nil=>intro s e h;have h:e=s:=h;subst h;exact⟨aAE _,fun h=>absurd rfl h⟩
 |cons rec rs ih=>
  intro s e h;have h1:=(ih h.2).1;have h2:=nY rec.length;exact⟨by omega,fun _=>by omega⟩
theorem jU.congr {P P':Nat->Piece}{count:Nat}:∀{rs:List (List UInt8)} {s e:Nat},jU P count s rs e->(∀x,s<x->x<=e->P' (x%count)=P (x%count))->jU P' count s rs e:=by
 intro rs
 induction rs with
 |nil=>intro s e h _;exact h
 |cons rec rs ih=>
  intro s e h hx;have h1:=(jU.le h.2).1;exact⟨fun i hi=>by rw[hx _ (by omega) (by omega)];exact h.1 i hi,ih h.2 fun x a b=>hx x (by omega) b⟩
theorem jU.snoc {P:Nat->Piece}{count:Nat}{rec:List UInt8}:∀{rs:List (List UInt8)} {s e:Nat},jU P count s rs e->(∀i,i<bj rec.length->P ((e+1+i)%count)=cT rec e (bj rec.length) i)->jU P count s (rs++[rec]) (e+bj rec.length):=by
 intro rs
 induction rs with
 |nil=>intro s e h hi;have h:e=s:=h;subst h;exact⟨hi,rfl⟩
 |cons r rs ih=>intro s e h hi;exact⟨h.1,ih h.2 hi⟩
theorem jU.aau {P:Nat->Piece}{count:Nat}:∀{rs:List (List UInt8)} {s e:Nat},jU P count s rs e->rs≠[]->(P (e%count)).n=e:=by
 intro rs
 induction rs with
 |nil=>intro s e h h2;exact absurd rfl h2
 |cons rec rs ih=>
  intro s e h _;cases rs with
  |nil=>
   have he:e=s+bj rec.length:=h.2;have h2:=nY rec.length;have:=h.1 (bj rec.length-1) (by omega);rw[show s+1+(bj rec.length-1)=e by omega]at this;rw[this];unfold cT;simp;omega
  |cons r rs=>exact ih h.2 (by simp)
theorem MC {P:Nat->Piece}{count:Nat}{rec:List UInt8}{s:Nat}(h:∀i,i<bj rec.length->P ((s+1+i)%count)=cT rec s (bj rec.length) i)(f last:Nat)(out:List (List UInt8)):
 ∀j i,i+j=bj rec.length->0<j->mG P count (f+j) (s+i) (rec.take (i*501)) out last=mG P count f (s+bj rec.length) [] (out++[rec]) (s+bj rec.length):=by
 intro j
 induction j with
 |zero=>intro i _ h0;omega
 |succ j ih=>
  intro i hi _;have hp:=h i (by omega);rw[show s+1+i=s+i+1 by omega]at hp;have hn:(P ((s+i+1)%count)).n=s+i+1:=by rw[hp];unfold cT;simp;omega
  have hd:(P ((s+i+1)%count)).data=(rec.drop (i*501)).take 501:=by rw[hp];rfl
  have hl:(P ((s+i+1)%count)).last=decide (i+1=bj rec.length):=by rw[hp];rfl
  have yO:rec.take (i*501)++(rec.drop (i*501)).take 501=rec.take ((i+1)*501):=by
   rw[show(i+1)*501=i*501+501 by omega,List.take_add]
  rw[show f+(j+1)=(f+j)+1 by omega,mG,aAI hn,hl,hd,yO]
  by_cases he:i+1=bj rec.length
  ·have hj:j=0:=by omega
   subst hj;have nN:=Hd rec.length;rw[aAI (by simpa using he),aAK (by rw[he];exact nN),show s+i+1=s+bj rec.length by omega];rfl
  ·rw[aAH (by simpa using he),show s+i+1=s+(i+1) by omega];exact ih (i+1) (by omega) (by omega)
theorem MD {P:Nat->Piece}{count:Nat}:∀{rs:List (List UInt8)} {s e:Nat},jU P count s rs e->(P ((e+1)%count)).n≠e+1->∀(fuel:Nat) (out:List (List UInt8)),e<=s+fuel->mG P count fuel s [] out s=(out++rs,e):=by
 intro rs
 induction rs with
 |nil=>
  intro s e h gL fuel out hf;have h:e=s:=h;subst h;cases fuel with
  |zero=>simp[mG]
  |succ f=>rw[mG,aAH gL];simp
 |cons rec rs ih=>
  intro s e h gL fuel out hf;have h1:=(jU.le h.2).1;have h2:=nY rec.length;have:=MC h.1 (fuel-bj rec.length) s out (bj rec.length) 0 (by omega) h2;rw[show fuel-bj rec.length+bj rec.length=fuel by omega]at this;simp only[aBl,aDq,aCr]at this;rw[this,ih h.2 gL _ _ (by omega)];simp
theorem AG (P:Nat->Piece)(count base:Nat):∀i k,i<=k->lZ P count base i<=lZ P count base k:=by
 intro i k
 induction k with
 |zero=>intro h;have:i=0:=by omega
        rw[this];exact aAE _
 |succ k ih=>
  intro h
  by_cases he:i=k+1
  ·rw[he];exact aAE _
  ·have:=ih (by omega);simp only[lZ]
   split<;>omega
theorem Qo {P:Nat->Piece}{count base e:Nat}{rs:List (List UInt8)}(h:jU P count base rs e)(h0:0<count)(hle:∀j,j<count->(P j).n<=e):lZ P count base count=e:=by
 have h1:=Ir P count base e h.le.1 hle count (aAE _);refine Nat.le_antisymm h1 ?_;cases rs with
 |nil=>
  have he:e=base:=h;rw[he];exact AG P count base 0 count (by omega)
 |cons r rs=>
  have hl:=h.aau (by simp);have hlt:=h.le.2 (by simp);have hj:e%count<count:=Nat.mod_lt _ h0;have h2:=AG P count base (e%count+1) count (by omega)
  have h3:e<=lZ P count base (e%count+1):=by
   simp only[lZ];rw[aAI ⟨by rw[hl];omega,by rw[hl]⟩,hl];omega
  omega
def uM (P:Nat->Piece)(count:Nat)(rec:List UInt8)(last:Nat):Nat->Nat->Piece
 |0=>P
 |k+1=>fun j=>if j=(last+1+k)%count then cT rec last (bj rec.length) k else uM P count rec last k j
theorem Hb {P:Nat->Piece}{count:Nat}{rec:List UInt8}{last:Nat}(j:Nat):∀k,(∀i,i<k->j≠(last+1+i)%count)->uM P count rec last k j=P j:=by
 intro k
 induction k with
 |zero=>intro _;rfl
 |succ k ih=>intro h;simp only[uM];rw[aAH (h k (by omega))];exact ih fun i hi=>h i (by omega)
theorem QD {P:Nat->Piece}{count:Nat}{rec:List UInt8}{last:Nat}(k i:Nat)(hi:i<k)(hk:k<=count):uM P count rec last k ((last+1+i)%count)=cT rec last (bj rec.length) i:=by
 induction k with
 |zero=>omega
 |succ k ih=>
  simp only[uM]
  by_cases h:i=k
  ·rw[aAI (by rw[h]),h]
  ·rw[aAH (M6 (by omega) (by omega))];exact ih (by omega) (by omega)
theorem jU.put {P:Nat->Piece}{count base last:Nat}{rs:List (List UInt8)}(h:jU P count base rs last){rec:List UInt8}(hr:bj rec.length+(last-base)<=count):jU (uM P count rec last (bj rec.length)) count base (rs++[rec]) (last+bj rec.length):=by
 have hle:=h.le.1;refine(h.congr fun x h1 h2=>Hb _ _ fun i hi=> ?_).snoc fun i hi=>QD _ i hi (by omega);exact M6 (by omega) (by omega)
theorem Vq {P:Nat->Piece}{count last:Nat}{rec:List UInt8}(h:∀j,j<count->(P j).n<=last):∀k,k<=bj rec.length->∀j,j<count->(uM P count rec last k j).n<=last+bj rec.length:=by
 intro k
 induction k with
 |zero=>intro _ j hj;have:=h j hj;simp only[uM];omega
 |succ k ih=>
  intro hk j hj;simp only[uM]
  split
  ·unfold cT;simp;omega
  ·exact ih (by omega) j hj
abbrev eA:=Nat×jl
def KQ (e:eA):List UInt8:=uv e.1++(uv (iO e.2).length++iO e.2)
def fH (l:List eA):List UInt8:=(l.map KQ).flatten
theorem AQ (e:eA)(l:List eA):fH (e::l)=uv e.1++(uv (iO e.2).length++(iO e.2++fH l)):=by unfold fH KQ;simp
theorem Ea (a b:List eA):fH (a++b)=fH a++fH b:=by unfold fH;simp
theorem QC (e:eA)(l:List eA):fH (e::l)≠[]:=by
 rw[AQ];intro h;have:=xP e.1;have h2:=congrArg List.length h;simp at h2;have h3:(uv e.1).length=0:=by rw[h2.1];rfl
 omega
theorem AF (l:List UInt8):iO l++List.replicate (l.length-(iO l).length) 0=l:=by
 have key:∀m:List UInt8,(m.dropWhile (fun b=>b==0)).length<=m.length/\List.replicate (m.length-(m.dropWhile (fun b=>b==0)).length) 0++m.dropWhile (fun b=>b==0)=m:=by
  intro m
  induction m with
  |nil=>simp
  |cons b m ih=>
   rw[List.dropWhile_cons]
   by_cases h:b=0
   ·subst h;simp only[beq_self_eq_true,aAY,aBb];refine⟨by omega, ?_⟩;rw[show m.length+1-(m.dropWhile (fun b=>b==0)).length=(m.length-(m.dropWhile (fun b=>b==0)).length)+1 by omega,aCI,aBC,ih.2]
   ·rw[aAH (by simpa using h)];simp
 have:=(key l.reverse).2;have h2:=congrArg List.reverse this;rw[List.reverse_append,aCu,List.reverse_replicate,List.length_reverse]at h2;unfold iO;rw[List.length_reverse];exact h2
theorem vN (l:List UInt8):(iO l).length<=l.length:=by
 have:=congrArg List.length (AF l);rw[aAG,aBt]at this;omega
def nM (d:List eA)(l:List eA):List eA:=l.foldl (fun d e=>gD d e.1 e.2) d
def dV (d:List eA)(Ls:List (List eA)):List eA:=Ls.foldl nM d
theorem pO (d:List eA)(Ls:List (List eA))(l:List eA):dV d (Ls++[l])=nM (dV d Ls) l:=by unfold dV;rw[aDn];rfl
theorem J0 (d:List eA)(l:List eA)(e:eA):nM d (l++[e])=gD (nM d l) e.1 e.2:=by unfold nM;rw[aDn];rfl
section
variable {st st':St} {p a:Nat} {lg:CV} {M:bS} {bd bn bi bc:Nat} {F:List Nat} {D:aT}
theorem lu.at {G:List Nat}{vs:List CV}{L:List (List UInt8)}(h:lu st G vs L){i:Nat}(hi:i<L.length):∃fv:i<vs.length,kK st G vs[i] 1 (ai L[i]):=by
 induction vs generalizing L i with
 |nil=>cases L with|nil=>simp at hi|cons l L=>exact h.elim
 |cons v vs ih=>
  cases L with
  |nil=>exact h.elim
  |cons l L=>
   cases i with
   |zero=>exact⟨by simp,h.1⟩
   |succ i=>
    obtain⟨a,b⟩:=ih h.2 (by simpa using hi);exact⟨by simpa using a,b⟩
theorem nJ.keep {x:CV}{L:List (List UInt8)}{Fo G X:List Nat}(h:nJ st x L Fo G)(hk:Kp X st st')(h1:∀b∈Fo,b∉X)(h2:∀b∈G,b∉X):nJ st' x L Fo G:=by
 obtain⟨vs,a,b,c,d,e⟩:=h;exact⟨vs,a.keep hk fun q hq=>⟨c q hq,h1 q hq⟩,b.keep hk h2,fun q hq=>aAZ (c q hq) hk.next,fun q hq=>aAZ (d q hq) hk.next,e⟩
theorem JX (h:cA st p a lg M bd bn bi bc){x:CV}{Ls:List (List eA)}{Fo G:List Nat}(hx:nJ st x (Ls.map fH) Fo G)(Ze:∀b∈Fo,b≠bd)(hG:∀b∈G,b≠bd)(hLs:∀l∈Ls,∀e∈l,e.1<M.aE/\e.2.length=512)(hsz:∀l∈Ls,(fH l).length<=1000000)(hn:Ls.length<=1000000)(qz:M.aE<=1000000):
 R 72 [.ptr p 0,x] st fun v st'=>v= .bool true/\Kp [bd] st st'/\cA st' p a lg {M with dirty:=dV M.dirty Ls} bd bn bi bc:=by
 refine bN ?_;rw[w72];have Rm:=hx;obtain⟨vs0,hv1,hv2,hv3,hv4,hv5⟩:=hx;have hvl:vs0.length=Ls.length:=by have:=hv2.len;rw[aBJ]at this;exact this
 have hlen:∀s,bh .slice x s= .ok (I Ls.length) s:=fun s=>(hv1.sl (X:=[]) fun b hb=>⟨by simp,hv3 b hb⟩).len Ls.length (by omega) (by omega) s;rw[cN,hlen,af];simp only[aJ,aK];refine bK (fun fu vs s=>∃i,fu+i=Ls.length/\vs=[.ptr p 0,x,I Ls.length,I i]/\Kp [bd] st s/\cA s p a lg {M with dirty:=dV M.dirty (Ls.take i)} bd bn bi bc/\nJ s x (Ls.map fH) Fo G) ?_ (n:=Ls.length) ⟨0,rfl,rfl,Kp.refl _ _,h,Rm⟩;rintro fu vs s k ⟨i,hi,rfl,hk,hP,hR⟩ next;simp only[aJ,aK];rw[dv,af,ag]
 by_cases hc:i<Ls.length
 ·rw[aAJ hc,aAI rfl];obtain⟨vs1,r1,r2,r3,r4,r5⟩:=hR;have auI:vs1.length=Ls.length:=by have:=r2.len;rw[aBJ]at this;exact this
  have kL:Sl s [] x 1 vs1:=r1.sl fun b hb=>⟨by simp,r3 b hb⟩;refine kL.idx (i:=i) (by omega) _ ?_;obtain⟨fv,Wh⟩:=r2.at (i:=i) (by simpa using hc);rw[List.getElem_map]at Wh;have HI:Ls[i]∈Ls:=aAW hc;rw[cN];refine(u9 Wh.nil (hsz _ HI)).mono ?_;rintro _ ep ⟨r,Fr,rfl,qG,An,Og⟩;have amw:nJ ep x (Ls.map fH) Fo G:=nJ.keep ⟨vs1,r1,r2,r3,r4,r5⟩ qG (by simp) (by simp);have n13:=qG.next;simp only[aJ,aK];refine bK (fun fu2 vs s'=>∃done rest,done++rest=Ls[i]/\fu2=rest.length/\vs=[.ptr p 0, .ptr r 0,x,I Ls.length,I i]/\Kp (bd::Fr) ep s'/\cA s' p a lg {M with dirty:=nM (dV M.dirty (Ls.take i)) done} bd bn bi bc/\nK s' r Fr (fH rest)/\nJ s' x (Ls.map fH) Fo G) ?_ (n:=Ls[i].length) ⟨[],Ls[i],rfl,rfl,rfl,Kp.refl _ _,hP.keep qG (by simp),An,amw⟩;rintro fu2 vs s4 k2 ⟨done,rest,NS,alu,rfl,kH,PO,Rt,hR4⟩ aao;simp only[aJ,aK];have acP:bd<st.next:=h.lt bd (by simp);have lI:=hk.next;have Of:∀b∈Fr,st.next<=b:=fun b hb=>by have:=Og b hb;omega
  refine(pN Rt).same ?_;simp only[aH,aAY,bo,af,fh];refine(Si Rt).same ?_;cases rest with
  |nil=>
   rw[aAJ (show fH []=[]from rfl)];simp only[dm,aAU,af,aG,aAY,ag,aAz,aAO,gF i (by omega)];have he:Ls.take (i+1)=Ls.take i++[Ls[i]]:=aAR hc;refine next (fu-1) _ _ (by omega) ⟨i+1,by omega,rfl, ?_, ?_,hR4⟩
   ·exact(hk.trans qG (by simp)).trans kH fun q hq=>by
     rcases aAD.1 hq with rfl|hq
     ·exact .inl (by simp)
     ·exact .inr (Of q hq)
   ·rw[he,pO,<-NS,aBz];exact PO
  |cons e rest=>
   obtain⟨n,sec⟩:=e;have hes:=hLs _ HI (n,sec) (by rw[<-NS];simp);rw[aAB (QC _ _)];have Bg:=PO.main;have e1:aj .sub none true (I M.aE) (.int .i64 1) s4= .ok (I ((M.aE-1:Nat):Int)) s4:=xS M.aE (by omega) (by omega) s4 none;simp only[dm,aAT,af,aG,aAY,ag,fm,br,ah,aA,Bg,aq,aAF,aAA,aAy,av,e1];rw[AQ]at Rt;have acQ:∀b∈[p,bd,bn,bi,bc],b∉Fr:=fun b hb hh=>by have:=h.lt b hb;have:=Of b hh;omega
   refine(kh (m:=M.aE-1) Rt (by show n<=_;have:=hes.1;simp at this;omega) (by omega)).mono ?_;rintro _ s7 ⟨rfl,k7,n7,rd7⟩;have htl:=vN sec;have vi:sec.length=512:=hes.2;refine(BX (m:=512) rd7 (by show(iO sec).length<=_;omega) (by omega)).mono ?_;rintro _ s8 ⟨rfl,k8,n8,rd8⟩;refine(pN rd8).same ?_;simp only[dm,aAU,af,ag,aAz,aAO];have hP8:=(PO.keep k7 acQ).keep k8 acQ;rw[cG,aS];have so:Kp [] s8 (St.new s8 (.cells (zr 512) 173 false)):=(Kp.refl [] s8).new _;have PS:(St.new s8 (.cells (zr 512) 173 false)).mem.get s8.next=some (.cells (zr 512) 173 false):=au _ _;have M5:(St.new s8 (.cells (zr 512) 173 false)).next=s8.next+1:=rfl;generalize St.new s8 (.cells (zr 512) 173 false)=df at*;have zM:bR 512 1 (.ptr s8.next 0) none none df= .ok (.slice s8.next 0 512 512 0) df:=rfl;rw[zM,af];obtain⟨de,c1,c2,c3,c4⟩:=Et (b:=s8.next) (off:=0) (n:=512) (cap:=512) (d:=iO sec) PS (by omega) (by rw[pA];omega);rw[c1,aS,bt]
   have jZ:bp (zr 512) 0 (ai (iO sec))=ai sec:=by
    unfold bp;rw[aCr,aBf,bJ,aAF,ng]
    conv=>rhs;rw[<-AF sec]
    rw[bE]
    congr 1
    unfold ai;rw[<-aBZ]
    congr 1
    rw[aCJ,vi]
   rw[jZ]at c3
   have qy:Kp [s8.next] df de:=⟨by omega,fun q h1 h2=>c4 q (by simpa using h2),fun hf q hq=>by
    have:q≠s8.next:=by omega
    rw[c4 q this];exact hf q (by omega)⟩
   have EU:∀b∈[p,bd,bn,bi,bc],b∉[s8.next]:=fun b hb=>by have:=hP8.lt b hb;simp;omega
   have xq:=(hP8.keep so (by simp)).keep qy EU;have NG:=xq.main;obtain⟨blk,u1,u2,u3⟩:=IsMap.update xq.dirty n (.agg (ai sec));rw[uJ]at u2;have qx:(ai sec).length=512:=by simpa using vi
   simp only[br,ah,af,aA,NG,aq,aAF,aAA,aAy,av];rw[aQ (n:=512) c3 qx,af,u1,aS];refine⟨⟨trivial,trivial,trivial⟩,trivial, ?_⟩;have qF:=h.nd;simp only[aAQ,aAD,aBo,aCg,aBY]at qF;have acS:=xq.lt bd (by simp);have qH:Kp [bd] de (St.set de bd blk):=(Kp.refl _ de).set _ (.inl (by simp)) acS;have aaz:Kp (bd::Fr) s4 (St.set de bd blk):=((((k7.mono (by intro q hq;left;simp[hq])).trans k8 (by intro q hq;left;simp[hq])).trans so (by simp)).trans qy (by intro q hq;right;simp at hq;omega)).trans qH (by intro q hq;left;simp at hq;simp[hq]);have adl:∀b∈Fr,b<s8.next:=fun b hb=>by obtain⟨_,_,_,_,_,h3,_⟩:=rd8;exact h3 b hb
   have HQ:cA (St.set de bd blk) p a lg {M with dirty:=nM (dV M.dirty (Ls.take i)) (done++[(n,sec)])} bd bn bi bc:=
    ⟨(al _ _ _ _ (aBE (aBE qF.1.1))).trans NG,by rw[J0];exact u2,xq.now.mono (al _ _ _ _ (aBE qF.2.1.1)),xq.idle.mono (al _ _ _ _ (aBE qF.2.1.2.1)),xq.count.mono (al _ _ _ _ (aBE qF.2.1.2.2)),h.nd,xq.lt,h.lgs⟩
   refine aao rest.length _ _ (by rw[alu];simp) ⟨done++[(n,sec)],rest,by rw[<-NS];simp,rfl,rfl,kH.trans aaz (fun q hq=> .inl hq),HQ, ?_, ?_⟩
   ·exact((rd8.keep so (by simp)).keep qy fun b hb=>by have:=adl b hb;simp;omega).keep qH fun b hb=>by have:=Of b hb;simp;omega
   ·exact hR4.keep aaz (fun b hb hh=>by
     rcases aAD.1 hh with rfl|hh
     ·exact Ze _ hb rfl
     ·have h1:=Og b hh;obtain⟨_,_,_,q3,_,_⟩:=Rm;have:=q3 b hb;omega) (fun b hb hh=>by
     rcases aAD.1 hh with rfl|hh
     ·exact hG _ hb rfl
     ·have h1:=Og b hh;obtain⟨_,_,_,_,q4,_⟩:=Rm;have:=q4 b hb;omega)
 ·rw[aAB hc,aAH (by decide)];have he:Ls.take i=Ls:=aAK (by omega);rw[he]at hP;exact⟨trivial,hk,hP⟩
end
