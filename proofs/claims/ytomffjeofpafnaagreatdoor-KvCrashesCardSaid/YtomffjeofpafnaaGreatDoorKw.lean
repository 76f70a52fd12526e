import Derived.Test.YtomffjeofpafnaaGreatDoorKv
namespace Lim
open Go
noncomputable section
set_option linter.defProp false
set_option maxRecDepth 100000
section
variable {κ τ:Nat} {π:PI} {st st':St} {L Lk:List aW} {T N fr:Nat}
def abt (h:pB κ τ π st L Lk T N fr):R 79 [.ptr κ 0] st λy s=>y=I fr/\s=st:=by
 refine bK ?_;rw[w79,cc,af,ag,aHM xI];refine AM h.get ?_;refine(Pq h.tr).same ?_;exact⟨rfl,rfl⟩
def cG:jI:=⟨9,[103,111,101,115],[111,110],false⟩
def SE:cG.ok:=Nu _ _ _ xI xI xI
def abe (h:vf κ τ π st L T N fr)(K:π.D.set=false)(u:Small L)(F:T<=900000000)(G:N<=4000):R 39 [.ptr κ 0] st λy s=>y=.bool true/\Kp (own τ π) st s:=by
 refine bK ?_;rw[w39];have E:aZ [.int .i64 0,.str [],.str [],.bool false] [(0,1,.int .i64 9),(1,1,.str [103,111,101,115]),(2,1,.str [111,110])] st=.ok (.agg (qi cG)) st:=rfl;rw[E,af,vS (x:=.agg (qi cG)) (k:=4) rfl rfl rfl,aP];generalize Q:St.new st _=s1;obtain⟨e,J,U⟩:=AG Q;have b:vf κ τ π s1 L T N fr:=⟨h.1.still e,(e.keep κ h.2.2.1 wb).trans h.2.1,aId h.2.2.1 e.nx,h.2.2.2⟩;have l:=h.1.t2.sR;have d:s1.m.g st.nx=some (.cells (l4 [cG]) 159 false):=J;refine(J8 b.at' u (sl2 (cs:=[cG]) d uM wb) xI).mono ?_;rintro _ s2 ⟨a,⟨_,rfl⟩|⟨⟨c,hc,O⟩,_⟩⟩
 rotate_left
 .exact absurd (by have:c=cG:=by simpa using hc
                   rw[this];exact SE) O
 have f:vf κ τ π s2 L T N fr:=⟨b.1.still a,(a.keep κ b.2.2.1 wb).trans b.2.1,aId b.2.2.1 a.nx,b.2.2.2⟩;have o:=e.trans a;have H:=(a.keep st.nx uM wb).trans d;have n2:=a.nx;have M:∀s,aj .neq (some .int) true (I 0) (.int .i64 0) s=.ok (.bool false) s:=λs=>rfl;have i:∀s,aj .eql (some .int) true (I 0) (.int .i64 0) s=.ok (.bool true) s:=λs=>rfl;have W:=f.at'.tr.Fs;generalize V:kz L [] [cG]=nd;rw[aD,af,aI,aD,af,M,af];simp only[aG,aHH,aHV,aHY,ba,af,dI];refine(abt f.at').same ?_;have P:aj .gtr none false (I nd) (I fr) s2=.ok (.bool (decide (fr<nd))) s2:=BT
 have n:aj .gtr none false (I nd) (I ((N/8:Nat):Int)) s2=.ok (.bool (decide (N/8<nd))) s2:=BT
 rw[P,af,aF,aHM xI,af]
 by_cases r:fr<nd
 .simp only[aHQ r,aG,aHH,aHV,aIb,bU,af,pV,aF,aIj,ag,i];exact⟨afp,o.mono wb⟩
 .simp only[aHL r,aG,aHH,aHV,aHY,ba,af,dI];refine(Qq f.at').same ?_;rw[n,af,aF,aHM xI,af,ag]
  by_cases v:N/8<nd
  .rw[aHQ v,aHP rfl,i,af];exact⟨rfl,o.mono wb⟩
  .rw[aHL v,aHM xI]
   refine(MM f K u F G (sl2 (cs:=[cG]) H uM λhh=>by have:=l _ hh;omega) wb (λc hc=>by
    have:c=cG:=I2
    rw[this];exact⟨SE,rfl⟩) uM uM (.inl rfl)).mono ?_
   rintro _ S ⟨rfl,w,fr',_,⟨A,_⟩,j,_,_⟩;refine(RT j (p:=cG.nm) SE.1).mono ?_;rintro _ q ⟨B,rfl⟩
   have C:iE (jW L [cG]) (je cG.nm)=some [111,110]:=by
    show iE (Fx L cG) _=_;rw[VQ,aHP rfl];rfl
   rw[C];have z:aj .eql (some .str) true (.str [111,110]) (.str [111,110]) q=.ok (.bool true) q:=by rw[ep,mT,aHQ rfl]
   simp only[aD,aI,af,i,aG,aIj,ba,aF,aKj,aJg,z];exact⟨afp,((o.mono wb).trans A afk).trans B⟩
end
def I5 (p:aW):List CV:=[I (((p.1.headD 0).toNat:Nat):Int),.str (p.1.drop 1),.str p.2]
def wW (L:List aW):List CV:=(L.map I5).flatten
def QJ (L:List aW):∀x∈L.map I5,x.length=3:=λx a=>by obtain⟨c,_,rfl⟩:=aIk.1 a;rfl
def mX (L:List aW):(wW L).length=L.length*3:=by
 unfold wW;rw[fg (QJ L),aIx]
def QI (L:List aW):bh (wW L)=true:=by
 simp only[bh,aKd,wW,List.mem_flatten,aIk];rintro x ⟨l,⟨p,_,rfl⟩,a⟩;unfold I5 at a;simp only[aHJ,aIo,aJj]at a;rcases a with rfl|rfl|rfl<;>rfl
structure pY (st:St)(χ:Nat)(F:List Nat)(L:List aW):Prop where
 ex:∃v,st.m.g χ=some (.cells [v] 87 false)/\Own st v 3 169 (wW L) F
 lt:∀b∈χ::F,b<st.nx
 not:χ∉F
section
variable {st st':St} {χ:Nat} {F:List Nat} {L:List aW}
def pY.keep {X:List Nat}(h:pY st χ F L)(a:Kp X st st')(c:∀b∈χ::F,b∉X):pY st' χ F L:=by
 obtain⟨v,e,d⟩:=h.ex;exact⟨⟨v,(a.keep χ (h.lt χ wb) (c χ wb)).trans e,d.mono λb hb=>a.keep b (h.lt b TL) (c b TL)⟩,λb hb=>aId (h.lt b hb) a.nx,h.not⟩
def abC (h:pY st χ F L)(Q:L.length<=1000000):R 35 [.ptr χ 0] st λy s=>∃a F',y=.ptr a 0/\Kp [] st s/\pY s a F' L/\∀b∈a::F',st.nx<=b:=by
 refine bK ?_;rw[w35,tB,aP];generalize M:St.new st _=s1;obtain⟨i,C,P⟩:=AG M;have h1:=h.keep i wb;obtain⟨v,G,E⟩:=h1.ex;have o:Sl s1 [] v 3 (wW L):=E.sl λb hb=>⟨wb,h1.lt b TL⟩
 have D:∀K:CV->Prop,K v->eQ 0 (.ptr χ 0) s1 K:=λK r=>by
  unfold eQ;rw[bj,af,ah,af,az,G,ar];exact r
 refine D _ ?_;obtain⟨n,A,z⟩:=o.src [.int .i64 0,.str [],.str []];have u:Own s1 (.slice st.nx 0 0 0 0) 3 169 [] [st.nx]:=.inr (.inl ⟨st.nx,[],169,false,rfl,rfl,rfl,C⟩);obtain⟨v',s2,F',x,e,j,w⟩:=u.append (bytes:=40) (T:=wW L) uM A (QI L) (λb hb=>by simp at hb;omega) (by rw[mX];simp;omega);rw[z,x,aP];obtain⟨N,m⟩:=e.cF;have I:v'.isAny=false:=by rcases e with⟨rfl,_⟩|⟨b,l,t,g,rfl,_⟩|⟨b,n,rfl,_⟩<;>rfl
 have hb:aZ [.ae] [(0,1,v')] s2=.ok (.agg [v']) s2:=by rw[dB];simp[cE,bz,m,I]
 rw[hb,af,bS];refine⟨rfl,?_⟩;rw[aT];generalize H:St.new s2 _=s3;obtain⟨f,B,O⟩:=AG H;have n2:=j.nx;rw[aIm]at e
 have d:∀b∈F',st.nx<=b/\b<s2.nx:=λb hb=>by
  obtain⟨c,k⟩:=w b hb;refine⟨?_,k⟩;rcases c with c|c
  .have:b=st.nx:=by simpa using c
   omega
  .omega
 have J:=i.trans j λq p=>by
  have:q=st.nx:=by simpa using p
  right;omega
 refine⟨s2.nx,F',rfl,J.trans f,⟨⟨v',B,e.mono λb hb=>f.keep b (d b hb).2 wb⟩,λb hb=>?_,λhh=>by have:=(d _ hh).2;omega⟩,λb hb=>?_⟩
 .rcases aHJ.1 hb with h|h
  .omega
  .have:=(d b h).2;omega
 .rcases aHJ.1 hb with h|h
  .omega
  .exact(d b h).1
end
structure xA where
 kind:Int
 cs:List jI
 sp:Int
 fm:List UInt8
 to:List UInt8
def oE (p:xA)(u:CV):List CV:=[.int .u8 p.kind,u,I p.sp,.str p.fm,.str p.to]
def BG (st:St)(v:CV)(S:List xA):Prop:=((v=.ae\/v=.mr)/\S=[])\/∃b off cap,v=.slice b off S.length cap 0/\b<st.nx/\∀i (h:i<S.length),∃l o u,st.m.g b=some (.ro l o)/\off+i*5+5<=l.length/\(l.drop (off+i*5)).take 5=oE S[i] u/\rV st u S[i].cs
section
variable {st st':St}
def rV.one {v:CV}{cs:List jI}(h:rV st v cs):cF v=true/\v.cK=[v]/\v.isAny=false:=by
 rcases h with⟨rfl|rfl,_⟩|⟨b,off,cap,rfl,_⟩<;>exact⟨rfl,rfl,rfl⟩
def BG.keep {v:CV}{S:List xA}(h:BG st v S)(a:Kp [] st st'):BG st' v S:=by
 rcases h with h|⟨b,off,cap,rfl,c,d⟩
 .exact .inl h
 .refine .inr ⟨b,off,cap,rfl,aId c a.nx,λi hi=>?_⟩;obtain⟨l,o,u,j,g,f,e⟩:=d i hi;exact⟨l,o,u,(a.keep b c wb).trans j,g,f,e.keep a⟩
def BG.len {v:CV}{S:List xA}(h:BG st v S)(s:St):bt .slice v s=.ok (I S.length) s:=by
 rcases h with⟨rfl|rfl,rfl⟩|⟨b,off,cap,rfl,_⟩<;>rfl
def BG.args {v:CV}{S:List xA}(h:BG st v S):OL st v (S.map (·.cs)):=by
 rcases h with⟨h,rfl⟩|⟨b,off,cap,rfl,d,c⟩
 .exact .inl ⟨h,rfl⟩
 .refine .inr ⟨b,off,cap,by rw[aIx],d,λi hi=>?_⟩;have a:i<S.length:=by simpa using hi
  obtain⟨l,o,u,j,k,g,f⟩:=c i a;refine⟨l,o,u,j,?_,by rw[aJw];exact f⟩;have e:(oE (S[i]'a) u)[1]?=some u:=rfl;rw[<-g,aJe,aHP uM,aJA]at e;exact e
def RR {v:CV}{cs:List jI}(z:eA st)(G:rV st v cs)(y:cs.length<=5000):R 32 [v] st (Made 4 159 (l4 cs) st):=by
 refine bK ?_;rw[w32,cM];simp only[aK,aL];refine bG (λfu k s=>∃i x F,fu+i=cs.length/\k=[v,x,I i]/\Kp [] st s/\Own s x 4 159 (l4 (cs.take i)) F/\∀b∈F,st.nx<=b/\b<s.nx) ?_ (n:=cs.length) ⟨0,.ae,[],rfl,rfl,Kp.refl _ _,.inl ⟨rfl,rfl,rfl⟩,wb⟩;rintro fu k s K ⟨i,x,F,hi,rfl,c,a,hF⟩ next;have hs:=G.keep c;simp only[aK,aL];rw[hs.len s,af,dD,af,ag]
 by_cases f:i<cs.length
 .rw[aHQ f,aHP rfl,bD];obtain⟨b,p,l,o,B,j,e⟩:=hs.at' f;have w:=e 0 _ rfl;have l1:=e 1 _ rfl;have l2:=e 2 _ rfl;have u:=e 3 _ rfl
  have P:b<s.nx:=by
   rcases aIX b s.nx with h|h
   .exact h
   .rw[c.fresh z b h]at j;cases j
  have D:=(Kp.refl [] s).skip;have y:(St.skip s).m.g s.nx=none:=c.fresh z _ (aHK _);have A:(St.skip s).m.g b=some (.ro l o):=j;have O:(St.skip s).nx=s.nx+1:=rfl;have C:Own (St.skip s) x 4 159 (l4 (cs.take i)) F:=a.mono λ_ _=>rfl;generalize St.skip s=s2 at*;simp only[B,af,ah,az,A,ye,w,l1,l2,u,aw];have H:aZ [.int .i64 0,.str [],.str [],.bool false] [(0,1,I cs[i].sp),(1,1,.str cs[i].key),(2,1,.str cs[i].val),(3,1,.bool cs[i].gone)] s2=.ok (.agg (qi cs[i])) s2:=rfl;rw[H,af];refine xv 48 C uM (λq hq=>⟨acI,acI⟩) uM y rfl rfl rfl rfl (by rw[pe,aHZ];omega) ?_;intro v' M L r E d;have J:(St.set s2 s.nx (.cells (CV.agg (qi cs[i])).cK 159 false)).m.g b=some (.ro l o):=(ak _ _ _ _ uM).trans A;rw[J];simp only[ye,w,l1,l2,u,aw];refine⟨⟨⟨afp,afp⟩,⟨afp,afp⟩,⟨afp,afp⟩,⟨afp,afp⟩,afp⟩,⟨afp,afp⟩,?_⟩;rw[Ox cs i f]at r;rw[gJ i uM,af];have N:=c.nx;refine next (fu-1) _ _ uM ⟨i+1,v',L,uM,rfl,(c.trans D wb).trans E λq hq=>.inr ?_,r,λq hq=>⟨?_,(d q hq).2⟩⟩
  .rcases aHJ.1 hq with h|h
   .omega
   .exact(hF q h).1
  .rcases(d q hq).1 with h|h
   .exact(hF q h).1
   .omega
 .rw[aHL f,aHM xI];rw[aHS uM]at a;exact⟨F,c,a,hF⟩
end
def WS (k:bY)(A:List aW):List aW:=A.filter λx=>decide (dO x.1 k)
def TC (k:bY)(A:List aW):List aW:=A.filter λx=>decide (dO k x.1)
def qJ (k:bY)(A:List aW)(x:aW):WS k (A++[x])=WS k A++(if dO x.1 k then [x]else []):=by
 unfold WS;rw[aJt,aJa,List.filter_nil]
 by_cases h:dO x.1 k<;>simp[h]
def nb (k:bY)(A:List aW)(x:aW):TC k (A++[x])=TC k A++(if dO k x.1 then [x]else []):=by
 unfold TC;rw[aJt,aJa,List.filter_nil]
 by_cases h:dO k x.1<;>simp[h]
def qa (c:jI)(A out:List aW)(put:Bool):Prop:=
 (c.gone=true/\put=true/\out=WS (je c.nm) A++TC (je c.nm) A)\/(c.gone=false/\put=false/\TC (je c.nm) A=[]/\out=WS (je c.nm) A)\/(c.gone=false/\put=true/\TC (je c.nm) A≠[]/\out=WS (je c.nm) A++(je c.nm,c.val)::TC (je c.nm) A)
section
variable {c:jI} {A out:List aW} {put:Bool} {x:aW}
def qa.same (h:qa c A out put)(a:x.1=je c.nm):qa c (A++[x]) out put:=by
 have b:¬dO (je c.nm) (je c.nm):=jf _;unfold qa at*;rw[qJ,nb,a,aHM b,aIJ,aIJ];exact h
def qa.big (h:qa c A out put)(d:put=false)(b:dO (je c.nm) x.1):qa c (A++[x]) (out++[(je c.nm,c.val)]++[x]) true:=by
 have f:¬dO x.1 (je c.nm):=ju b;rcases h with⟨_,a,_⟩|⟨g,_,e,rfl⟩|⟨_,a,_⟩
 .rw[d]at a;cases a
 .refine .inr (.inr ⟨g,rfl,?_,?_⟩)
  .rw[nb,aHP b];simp
  .rw[qJ,nb,aHP b,aHM f,e];simp
 .rw[d]at a;cases a
def qa.other (h:qa c A out put)(i:∀y∈A,dO y.1 x.1)(k:x.1≠je c.nm)(j:¬(put=false/\dO (je c.nm) x.1)):qa c (A++[x]) (out++[x]) put:=by
 by_cases b:dO (je c.nm) x.1
 .have h1:¬dO x.1 (je c.nm):=ju b;rcases h with⟨g,a,rfl⟩|⟨g,a,d,rfl⟩|⟨g,a,d,rfl⟩
  .refine .inl ⟨g,a,?_⟩;rw[qJ,nb,aHP b,aHM h1];simp
  .exact absurd ⟨a,b⟩ j
  .refine .inr (.inr ⟨g,a,?_,?_⟩)
   .rw[nb,aHP b];simp
   .rw[qJ,nb,aHP b,aHM h1];simp
 .have h1:dO x.1 (je c.nm):=by
   rcases pR.1 (show lj x.1 (je c.nm)from b)with h|h
   .exact h
   .exact absurd h k
  have e:TC (je c.nm) A=[]:=aKA.2 λy f=>by
   have:=ju (iK (i y f) h1);simp[this]
  rcases h with⟨g,a,rfl⟩|⟨g,a,d,rfl⟩|⟨g,a,d,rfl⟩
  .refine .inl ⟨g,a,?_⟩;rw[qJ,nb,aHM b,aHP h1,e];simp
  .refine .inr (.inl ⟨g,a,?_,?_⟩)
   .rw[nb,aHM b,e];rfl
   .rw[qJ,aHP h1]
  .exact absurd e d
def qa.fin (h:qa c A out put):Fx A c=if put=true then out else out++[(je c.nm,c.val)]:=by
 unfold Fx;rcases h with⟨g,rfl,rfl⟩|⟨g,rfl,a,rfl⟩|⟨g,rfl,a,rfl⟩
 .rw[aHP g,aHP rfl];rfl
 .rw[aHM (by simp[g]),aHM xI];show WS (je c.nm) A++(je c.nm,c.val)::TC (je c.nm) A=_;rw[a]
 .rw[aHM (by simp[g]),aHP rfl];rfl
def afr {c:jI}(i:xC c.nm){p:aW}(g:p.1≠[]):(((p.1.headD 0).toNat:Nat):Int)=c.sp/\p.1.drop 1=c.key↔p.1=je c.nm:=by
 obtain⟨⟨f,d⟩,_⟩:=i;have f:0<=c.sp:=f;have d:c.sp<256:=d;obtain⟨a,v⟩:=p;cases a with
 |nil=>exact absurd rfl g
 |cons h t=>
  have e:je c.nm=UInt8.ofNat c.sp.toNat::c.key:=rfl;rw[e];simp only[List.headD_cons,aKv,aIn,aJl];constructor
  .rintro⟨a,b⟩;refine⟨?_,b⟩;rw[<-a,aJS,UInt8.ofNat_toNat]
  .rintro⟨a,b⟩;refine⟨?_,b⟩;rw[a,aKe];omega
def afq {c:jI}(j:xC c.nm){p:aW}(i:p.1≠[]):(c.sp<(((p.1.headD 0).toNat:Nat):Int)\/(((p.1.headD 0).toNat:Nat):Int)=c.sp/\dO c.key (p.1.drop 1))↔dO (je c.nm) p.1:=by
 obtain⟨⟨g,f⟩,_⟩:=j;have g:0<=c.sp:=g;have f:c.sp<256:=f;obtain⟨a,v⟩:=p;cases a with
 |nil=>exact absurd rfl i
 |cons h t=>
  have e:je c.nm=UInt8.ofNat c.sp.toNat::c.key:=rfl;rw[e,lY];simp only[List.headD_cons,aKv,aIn];have d:(UInt8.ofNat c.sp.toNat).toNat=c.sp.toNat:=by rw[aKe];omega
  rw[aJP,d];constructor
  .rintro(a|⟨a,b⟩)
   .left;omega
   .right;exact⟨by rw[<-a,aJS,UInt8.ofNat_toNat],b⟩
  .rintro(a|⟨a,b⟩)
   .left;omega
   .right;refine⟨?_,b⟩;rw[<-a,d];omega
end
section
variable {st st':St} {χ:Nat} {F:List Nat} {L:List aW} {c:jI}
set_option maxHeartbeats 1000000 in
def auf (h:pY st χ F L)(hc:c.ok)(hs:fZ L)(ac:∀p∈L,p.1≠[])(hl:L.length<=1000000):R 36 [.ptr χ 0,.agg (qi c)] st λy s=>Kp [χ] st s/\∃F',pY s χ F' (Fx L c)/\∀b∈F',st.nx<=b:=by
 refine bK ?_;rw[w36,bS];refine⟨rfl,?_⟩;rw[aT];generalize HA:St.new st _=s1;obtain⟨k1,g1,n1⟩:=AG HA;have T:=h.lt χ wb
 have M:∀s,Kp [] s1 s->∀(o:Nat) (x:CV),(qi c)[o]?=some x->∀K:CV->Prop,K x->fl o (.ptr st.nx 0) s K:=λs B o x U K k=>by
  unfold fl;rw[ah,af,az,B.keep st.nx uM wb,g1,ar,aHN,U,aw];exact k
 refine M s1 (Kp.refl _ _) 3 _ rfl _ ?_;obtain⟨v,a1,a2⟩:=h.ex;rw[cM];simp only[aK,aL];refine bG (λfu vs s=>∃(i:Nat) (x:CV) (a:Bool) (j:List aW) (G:List Nat),fu+i=L.length/\vs=[.ptr χ 0,.ptr st.nx 0,x,.bool a,I i]/\Kp [] s1 s/\Own s x 3 169 (wW j) G/\(∀b∈G,s1.nx<=b/\b<s.nx)/\qa c (L.take i) j a/\j.length<=2*i) ?_ (n:=L.length) ⟨0,.ae,c.gone,[],[],rfl,rfl,Kp.refl _ _,.inl ⟨rfl,rfl,rfl⟩,wb,?_,wb⟩
 rotate_left
 .unfold qa WS TC;cases c.gone<;>simp
 rintro fu vs s K ⟨i,x,a,j,G,hi,rfl,B,E,hG,Y,ai⟩ next;simp only[aK,aL];have K0:=k1.trans B;have n0:=B.nx
 have f0:∀K:CV->Prop,K v->eQ 0 (.ptr χ 0) s K:=λK k=>by
  unfold eQ;rw[bj,af,ah,af,az,K0.keep χ T wb,a1,ar];exact k
 have jS:Sl s [] v 3 (wW L):=(a2.mono λb hb=>K0.keep b (h.lt b TL) wb).sl λb hb=>⟨wb,by have:=h.lt b TL;omega⟩;refine f0 _ ?_;rw[jS.len L.length (mX _) uM s,af,dD,af,ag]
 have ab:(CV.agg [I c.sp,.str c.key,.str c.val]).cK=I5 (je c.nm,c.val):=by
  obtain⟨⟨⟨h1,C⟩,_⟩,_⟩:=hc;have h1:0<=c.sp:=h1;have C:c.sp<256:=C;have e:je c.nm=UInt8.ofNat c.sp.toNat::c.key:=rfl;unfold I5;rw[aT,e];simp only[List.headD_cons,aKv,aIn,aKe]
  congr 2
  omega
 have L8:∀(o:List aW) (p:aW),wW o++I5 p=wW (o++[p]):=λo p=>by unfold wW;simp
 by_cases sD:i<L.length
 .rw[aHQ sD,aHP rfl];refine f0 _ ?_;refine Sl.gU (L:=L.map I5) jS uM (QJ L) ado _ ?_;rw[aJw];have hp:=ac _ (aIc sD);have xL:=aIa sD
  have ad:=λy hy=>by
   have h1:=hs;unfold fZ at h1;rw[<-aIA i L,aJq]at h1;exact h1.2.2 y hy L[i] (by have e:=aIe sD;rw[e];exact aIO)
  generalize Vh:L[i]=p at*;rw[cz,aP];generalize zo:St.new s _=s2;obtain⟨k2,g2,n2⟩:=AG zo;have kW:bz [CV.int .i64 0,.str [],.str []] 0 (I5 p)=I5 p:=rfl;rw[aH,g2,aS,aT,kW];refine⟨⟨rfl,rfl,wb⟩,?_⟩;have k3:Kp [] s (St.set s2 s.nx (.cells (I5 p) 169 false)):=k2.set _ (.inr (aHK _)) uM;have g3:(St.set s2 s.nx (.cells (I5 p) 169 false)).m.g s.nx=some (.cells (I5 p) 169 false):=an _ _ _;have n3:(St.set s2 s.nx (.cells (I5 p) 169 false)).nx=s.nx+1:=n2;generalize St.set s2 s.nx (.cells (I5 p) 169 false)=s3 at*;have K3:=B.trans k3
  have bx:∀(o:Nat) (x:CV),(I5 p)[o]?=some x->∀K:CV->Prop,K x->fl o (.ptr s.nx 0) s3 K:=λo x U K k=>by
   unfold fl;rw[ah,af,az,g3,ar,aHN,U,aw];exact k
  have Q:=M s3 K3;refine bx 0 _ rfl _ ?_;refine Q 0 _ rfl _ ?_;have u:aj .eql (some .int) false (I (((p.1.headD 0).toNat:Nat):Int)) (I c.sp) s3=.ok (.bool (decide ((((p.1.headD 0).toNat:Nat):Int)=c.sp))) s3:=by rw[av,cC]
  have r:aj .gtr none false (I (((p.1.headD 0).toNat:Nat):Int)) (I c.sp) s3=.ok (.bool (decide (c.sp<(((p.1.headD 0).toNat:Nat):Int)))) s3:=by rw[av,dh]
  have YR:=E.mono λb hb=>k3.keep b (hG b hb).2 wb;have O:∀(o:Nat) (p:CV) (s:St) (K:CV->Prop),iy (some true) o p s K=fl o p s K:=λ_ _ _ _=>rfl;have fU:∀(o:Nat) (p:CV) (s:St) (K:CV->Prop),iy (some false) o p s K=K .undef:=λ_ _ _ _=>rfl;have W:=afr hc.1 hp;have yo:=afq hc.1 hp
  have Z:∀K:CV->Prop,K (.bool (decide (p.1=je c.nm)))->iy (ao true (.bool (decide ((((p.1.headD 0).toNat:Nat):Int)=c.sp)))) 1 (.ptr s.nx 0) s3 λeE=>iy (ao true (.bool (decide ((((p.1.headD 0).toNat:Nat):Int)=c.sp)))) 1 (.ptr st.nx 0) s3 λeN=>us (br (ao true (.bool (decide ((((p.1.headD 0).toNat:Nat):Int)=c.sp)))) s3 (aj .eql (some .str) false eE eN s3)) λeh=>us (bk (.bool (decide ((((p.1.headD 0).toNat:Nat):Int)=c.sp))) eh (.bool false) s3) K:=λK k=>by
   by_cases h1:(((p.1.headD 0).toNat:Nat):Int)=c.sp
   .rw[aHQ h1,aG,aHP rfl,O];refine bx 1 _ rfl _ ?_;rw[O];refine Q 1 _ rfl _ ?_;rw[ba,ep,mT,af,aF,aHP rfl,af];have:decide (p.1.drop 1=c.key)=decide (p.1=je c.nm):=by rw[aIi,<-W];exact⟨λh=>⟨h1,h⟩,λh=>h.2⟩
    rw[this];exact k
   .rw[aHL h1,aG,aHP rfl,fU,fU,bU,af,aF,aHM xI,af];rw[aHL (λe=>h1 (W.2 e).1)]at k;exact k
  rw[u,af];refine Z _ ?_;rw[ag]
  by_cases w:p.1=je c.nm
  .rw[aHQ w,aHP rfl,gJ i uM,af];exact next (fu-1) _ _ uM ⟨i+1,x,a,j,G,uM,rfl,K3,YR,λb hb=>⟨(hG b hb).1,adI⟩,by rw[xL];exact Y.same w,uM⟩
  .rw[aHL w,aHM xI]
   have b0:∀K:CV->Prop,fl 0 (.ptr s.nx 0) s3 K=K (I (((p.1.headD 0).toNat:Nat):Int)):=λK=>by
    unfold fl;rw[ah,af,az,g3,ar];rfl
   have b1:∀K:CV->Prop,fl 1 (.ptr s.nx 0) s3 K=K (.str (p.1.drop 1)):=λK=>by
    unfold fl;rw[ah,af,az,g3,ar];rfl
   have gb:=(K3.keep st.nx uM wb).trans g1
   have c0:∀K:CV->Prop,fl 0 (.ptr st.nx 0) s3 K=K (I c.sp):=λK=>by
    unfold fl;rw[ah,af,az,gb,ar];rfl
   have c1:∀K:CV->Prop,fl 1 (.ptr st.nx 0) s3 K=K (.str c.key):=λK=>by
    unfold fl;rw[ah,af,az,gb,ar];rfl
   have c2:∀K:CV->Prop,fl 2 (.ptr st.nx 0) s3 K=K (.str c.val):=λK=>by
    unfold fl;rw[ah,af,az,gb,ar];rfl
   have N:aZ [.int .i64 0,.str [],.str []] [(0,1,I c.sp),(1,1,.str c.key),(2,1,.str c.val)] s3=.ok (.agg [I c.sp,.str c.key,.str c.val]) s3:=rfl
   have f:¬(a=false/\dO (je c.nm) p.1)->(us (aJ 3 (.ptr s.nx 0) s3) λla=>upon (bC 169 1 (cH 1 [(.int .i64 0),(.str []),(.str [])]) [(0,3,la)] s3) λpD S=>upon (bJ 169 3 40 x (cT .slice 3 [(.int .i64 0),(.str []),(.str [])] pD S) S) λqc dQ=>us (aj .add (none) true (I i) (.int .i64 1) dQ) λoD=>K [.ptr χ 0,.ptr st.nx 0,qc,.bool a,oD] dQ):=λhn=>by
    rw[aM (n:=3) g3 rfl,af];refine KT 40 YR uM (λb hb=>adI) rfl rfl rfl rfl (by rw[mX];omega) ?_;intro v' s4 G4 z A D;rw[aT,L8]at z;rw[gJ i uM,af];have n4:=A.nx;exact next (fu-1) _ _ uM ⟨i+1,v',a,_,G4,uM,rfl,K3.trans A λq H=>.inr (hG q H).1,z,λb hb=>⟨by rcases(D b hb).1 with h|h;exact(hG b h).1;omega,(D b hb).2⟩,by rw[xL];exact Y.other ad w hn,zS⟩
   cases a with
   |true=>
    simp only[cR,af,aIb,aG,aIj,fU,bU,lr,aF,aHH,aHV,ag];exact f wb
   |false=>
    have aa:dO (je c.nm) p.1->(upon (bC 169 1 (cH 1 [(.int .i64 0),(.str []),(.str [])]) [(0,3,.agg [I c.sp,.str c.key,.str c.val])] s3) λkM s6=>upon (bJ 169 3 40 x (cT .slice 3 [(.int .i64 0),(.str []),(.str [])] kM s6) s6) λmh s7=>us (aJ 3 (.ptr s.nx 0) s7) λmg=>upon (bC 169 1 (cH 1 [(.int .i64 0),(.str []),(.str [])]) [(0,3,mg)] s7) λl7 s8=>upon (bJ 169 3 40 mh (cT .slice 3 [(.int .i64 0),(.str []),(.str [])] l7 s8) s8) λqu s9=>us (aj .add (none) true (I i) (.int .i64 1) s9) λnq=>K [.ptr χ 0,.ptr st.nx 0,qu,.bool true,nq] s9):=λU=>by
     refine KT 40 YR uM (λb hb=>adI) rfl rfl rfl rfl (by rw[mX];omega) ?_;intro v4 s4 G4 z A D;rw[ab,L8]at z;have n4:=A.nx;have g4:=(A.keep s.nx uM (λhh=>by have:=(hG _ hh).2;omega)).trans g3;rw[aM (n:=3) g4 rfl,af];refine KT 40 z uM (λb hb=>(D b hb).2) rfl rfl rfl rfl (by rw[mX];simp;omega) ?_;intro v5 s5 G5 o5 k5 X;rw[aT,L8]at o5;have n5:=k5.nx;have V:∀b∈G4,s1.nx<=b:=λb hb=>by rcases(D b hb).1 with h|h;exact(hG b h).1;omega
     rw[gJ i uM,af];exact next (fu-1) _ _ uM ⟨i+1,v5,true,_,G5,uM,rfl,(K3.trans A λq H=>.inr (hG q H).1).trans k5 λq H=>.inr (V q H),o5,λb hb=>⟨by rcases(X b hb).1 with h|h;exact V b h;omega,(X b hb).2⟩,by rw[xL];exact Y.big rfl U,zS⟩
    have d:∀(P:Prop) [Decidable P],P->decide P=true:=λP _ h=>aHQ h
    by_cases h1:c.sp<(((p.1.headD 0).toNat:Nat):Int)
    .simp only[cR,af,aHY,aG,aIj,O,fU,b0,c0,ba,bU,r,aHQ h1,lr,aF,aHH,aHV,aIb,ag,c1,c2,N];exact aa (yo.1 (.inl h1))
    .by_cases C:(((p.1.headD 0).toNat:Nat):Int)=c.sp
     .by_cases h3:dO c.key (p.1.drop 1)
      .simp only[cR,af,aHY,aG,aIj,O,b0,c0,b1,c1,ba,r,u,aHL h1,aHQ C,ep,GY,aHQ h3,aF,aHH,aHV,aIb,ag,c2,N];exact aa (yo.1 (.inr ⟨C,h3⟩))
      .simp only[cR,af,aHY,aG,aIj,O,b0,c0,b1,c1,ba,r,u,aHL h1,aHQ C,ep,GY,aHL h3,aF,aHH,aHV,aIb,ag,c2,N];exact f λhh=>by rcases yo.2 hh.2 with J|J;exact h1 J;exact h3 J.2
     .simp only[cR,af,aHY,aG,aIj,O,fU,b0,c0,c1,ba,bU,r,u,aHL h1,aHL C,aF,aHH,aHV,aIb,ag,c2,N];exact f λhh=>by rcases yo.2 hh.2 with J|J;exact h1 J;exact C J.1
 .rw[aHL sD,aHM xI,cR,af,ag];rw[aHS uM]at Y;have zq:=Y.fin
  have vN:∀(s':St) (x':CV) (YT:List aW) (G':List Nat),Kp [] s1 s'->Own s' x' 3 169 (wW YT) G'->(∀b∈G',s1.nx<=b/\b<s'.nx)->Fx L c=YT->mc 1 0 (.ptr χ 0) x' s' λs=>Kp [χ] st s/\∃F',pY s χ F' (Fx L c)/\∀b∈F',st.nx<=b:=λs' x' YT G' w Nr l he=>by
   have g:=(w.keep χ uM wb).trans ((k1.keep χ T wb).trans a1);obtain⟨o1,o2⟩:=Nr.cF;have n':=w.nx;unfold mc;rw[bj,af,ah,af,aH,g,aS,o2];refine⟨⟨rfl,acu,wb⟩,(((k1.trans w).mono wb).set _ (.inl wb) uM),G',⟨⟨x',?_,?_⟩,λb hb=>?_,λhh=>by have:=(l _ hh).1;omega⟩,λb hb=>by have:=(l b hb).1;omega⟩
   .rw[an];rfl
   .rw[he];exact Nr.mono λb hb=>ak _ _ _ _ λe=>by have:=(l b hb).1;omega
   .show b<s'.nx;rcases aHJ.1 hb with h|h
    .omega
    .exact(l b h).2
  cases a with
  |true=>
   rw[aHP rfl]at zq;rw[aHM xI];exact vN s x j G B E hG zq
  |false=>
   rw[aHM xI]at zq;rw[aHP xI];have Q:=M s B;refine Q 0 _ rfl _ ?_;refine Q 1 _ rfl _ ?_;refine Q 2 _ rfl _ ?_;have N:aZ [.int .i64 0,.str [],.str []] [(0,1,I c.sp),(1,1,.str c.key),(2,1,.str c.val)] s=.ok (.agg [I c.sp,.str c.key,.str c.val]) s:=rfl;rw[N,af];refine KT 40 E uM (λb hb=>(hG b hb).2) rfl rfl rfl rfl (by rw[mX];omega) ?_;intro v4 s4 G4 z A D;rw[ab,L8]at z;exact vN s4 v4 _ G4 (B.trans A λq H=>.inr (hG q H).1) z (λb hb=>⟨by rcases(D b hb).1 with h|h;exact(hG b h).1;omega,(D b hb).2⟩) zq
end
def hd (p:aW):Nat:=(p.1.headD 0).toNat
def zZ (p:aW->Bool){L:List aW}(d:fZ L)(j:∀a b:aW,dO a.1 b.1->p b=true->p a=true):L.filter p++L.filter (λx=> !p x)=L:=by
 induction L with
 |nil=>rfl
 |cons a r i=>
  unfold fZ at d i;rw[aKi]at d;have h1:=i d.2
  by_cases g:p a=true
  .simp only[aJa,g,aIj,aIb,aHH,aHV,aIL,h1]
  .have h0:∀b∈r,p b=false:=λb c=>by
    cases e:p b with
    |false=>rfl
    |true=>exact absurd (j a b (d.1 b c) e) g
   have l:r.filter p=[]:=aKA.2 λb c=>by simp[h0 b c]
   have k:r.filter (λx=> !p x)=r:=List.filter_eq_self.2 λb c=>by simp[h0 b c]
   have f:p a=false:=by simpa using g
   simp only[aJa,f,aHH,aHV,aHY,aIj,l,k,aIm]
def Mr {a b:aW}(h:dO a.1 b.1):hd a<=hd b:=by
 unfold hd;cases c:a.1 with
 |nil=>simp
 |cons x xs=>
  cases hb:b.1 with
  |nil=>rw[c,hb]at h;exact absurd h (by unfold dO;simp[Op.bytesLess])
  |cons y d=>
   rw[c,hb,lY]at h;simp only[List.headD_cons];rcases h with h|⟨h,_⟩
   .have:=aJP.1 h;omega
   .rw[h];exact aHK _
def Rr {L:List aW}(c:fZ L)(s:Nat):L.filter (λp=>decide (hd p<s))++L.filter (λp=>decide (hd p=s))++L.filter (λp=>decide (s<hd p))=L:=by
 have h1:=zZ (λp=>decide (hd p<s)) c λa b h e=>by
  have:=Mr h;simp only[aIP]at*;omega
 have d:fZ (L.filter λp=> !decide (hd p<s)):=aKo _ c
 have h2:=zZ (λp=>decide (hd p<=s)) d λa b h e=>by
  have:=Mr h;simp only[aIP]at*;omega
 rw[List.filter_filter,List.filter_filter]at h2
 have g:L.filter (λp=>decide (hd p<=s)&& !decide (hd p<s))=L.filter (λp=>decide (hd p=s)):=List.filter_congr λp _=>by
  rw[aJH];simp;omega
 have f:L.filter (λp=>(!decide (hd p<=s))&& !decide (hd p<s))=L.filter (λp=>decide (s<hd p)):=List.filter_congr λp _=>by
  rw[aJH];simp;omega
 rw[g,f]at h2;rw[aIq,h2,h1]
def wN (L:List aW)(s:Nat):Nat:=(L.filter λp=>decide (hd p<s)).length
def part (L:List aW)(s:Nat):List aW:=L.filter λp=>decide (hd p=s)
def TN (L:List aW)(s:Nat):wN L (s+1)=wN L s+(part L s).length:=by
 unfold wN part
 induction L with
 |nil=>rfl
 |cons a r c=>
  simp only[aJa]
  by_cases d:hd a<s
  .have h2:hd a<s+1:=by omega
   have b:¬hd a=s:=uM
   simp only[d,h2,b,aIS,aJm,aIj,aHH,aHV,aIg,c];omega
  .by_cases b:hd a=s
   .have h2:hd a<s+1:=by omega
    simp only[b,aIS,aIj,aIg,c,aKx];simp;omega
   .have h2:¬hd a<s+1:=by omega
    simp only[d,h2,b,aJm,aHH,aHV,c]
def Uw {L:List aW}(b:fZ L){s i:Nat}(hi:i<(part L s).length):∃h:wN L s+i<L.length,L[wN L s+i]=(part L s)[i]:=by
 have h:=Rr b s;have hlen:=congrArg List.length h;rw[aHR,aHR]at hlen;have a:wN L s+i<L.length:=by unfold wN part at*;omega
 refine⟨a,?_⟩
 have e:(L.filter (λp=>decide (hd p<s))++L.filter (λp=>decide (hd p=s))++L.filter (λp=>decide (s<hd p)))[wN L s+i]?=some (part L s)[i]:=by
  have c:(L.filter (λp=>decide (hd p<s))).length=wN L s:=rfl;have d:i<(L.filter (λp=>decide (hd p=s))).length:=hi;rw[aIq,aIY uM,aJi uM,c,aJn];exact aHO hi
 rw[h]at e;rw[aHO a]at e;exact aJX e
def JH {L:List aW}(b:∀p∈L,p.1≠[]){s:Nat}(n:s<256):xZ L (s:Int) [] []=(part L s).map zy:=by
 unfold xZ part
 congr 1
 refine List.filter_congr λp f=>?_;rw[FC];have i:=b p f;cases c:p.1 with
 |nil=>exact absurd c i
 |cons x xs=>
  have g:hd p=x.toNat:=by unfold hd;rw[c];rfl
  have hx:=x.toNat_lt;have m:je ((s:Int),[])=[UInt8.ofNat s]:=by unfold je;simp
  have e:(UInt8.ofNat s).toNat=s:=by rw[aKe];omega
  have k:lj [UInt8.ofNat s] (x::xs)↔s<=x.toNat:=by
   unfold lj;rw[lY,aJP,e];have:=ij xs;constructor
   .intro h;rcases aIX x.toNat s with h2|h2
    .exact absurd (.inl h2) h
    .exact h2
   .rintro h (h2|⟨_,h2⟩)
    .omega
    .exact this h2
  have j:(qL (s:Int) []=[]\/dO (x::xs) (qL (s:Int) []))↔x.toNat<=s:=by
   unfold qL;rw[aHP rfl]
   by_cases a:(s:Int)+1<256
   .have l:je ((s:Int)+1,[])=[UInt8.ofNat (s+1)]:=by
     unfold je;have:((s:Int)+1).toNat=s+1:=uM
     rw[this]
    have d:(UInt8.ofNat (s+1)).toNat=s+1:=by rw[aKe];omega
    rw[aHP a,l,lY,aJP,d];have:=ij xs;constructor
    .rintro(h|h|⟨_,h⟩)
     .cases h
     .omega
     .exact absurd h this
    .intro h;right;left;omega
   .rw[aHM a];exact⟨λ_=>uM,λ_=>.inl rfl⟩
  rw[m,g,aJH];simp only[aIf,aIK,aIP];rw[k,j];omega
section
variable {κ τ χ:Nat} {π:PI} {st st':St} {L L' Lk:List aW} {T N fr:Nat} {F:List Nat}
def IN (L L':List aW)(st:St)(y:CV)(s:St):Prop:=Kp [] st s/\∃b,y=.bool b/\(L'=L->b=true)
set_option maxHeartbeats 1000000 in
def DS (hk:pB κ τ π st L' Lk T N fr)(z:pY st χ F L)(J:∀p∈L',p.1≠[])(Fe:L'.length<=1000000)(hl:L.length<=1000000):R 38 [.ptr κ 0,.ptr χ 0] st (IN L L' st):=by
 have uF:=Uf hk.tr;refine bK ?_;rw[w38,cM];simp only[aK,aL];obtain⟨v,a1,a2⟩:=z.ex;have G:=z.lt χ wb;refine bG (λfu q s=>∃(i n:Nat),fu+i=256/\q=[.ptr κ 0,.ptr χ 0,I n,I i]/\Kp [] st s/\n<=L.length/\(L'=L->n=wN L i)) ?_ (n:=256) ⟨0,0,rfl,rfl,Kp.refl _ _,aJL _,λ_=>by show 0=(L.filter λp=>decide (hd p<0)).length;rw[aKA.2 λp _=>wb];rfl⟩;rintro fu q s K ⟨i,n,hi,rfl,u,hn,hw⟩ next;simp only[aK,aL];have e5:aj .lss none true (I i) (.int .i64 256) s=.ok (.bool (decide (i<256))) s:=aaI
 have f:∀s,Kp [] st s->s.m.g χ=some (.cells [v] 87 false)/\Sl s [] v 3 (wW L):=λs k=>⟨(k.keep χ G wb).trans a1,(a2.mono λb hb=>k.keep b (z.lt b TL) wb).sl λb hb=>⟨wb,by have:=z.lt b TL;have:=k.nx;omega⟩⟩;rw[e5,af,ag]
 by_cases M:i<256
 .rw[aHQ M,aHP rfl];refine(Lv (hk.still u) (sp:=(i:Int)) (fm:=[]) (to:=[]) ⟨⟨by show(0:Int)<=i;omega,by show(i:Int)<256;omega⟩,wb⟩ ⟨⟨by show(0:Int)<=i;omega,by show(i:Int)<256;omega⟩,wb⟩ Fe).mono ?_;rintro _ s3 ⟨x,rfl,k3,H⟩;rw[JH J M]at H;have e0:aj .neq (some .int) true (I 0) (.int .i64 0) s3=.ok (.bool false) s3:=rfl;rw[aD,af,aI,aD,af,e0,af,ag,aHM xI,cM];simp only[aK,aL];have A:=u.trans k3;generalize hR:(part L' i).map zy=a at*;have O:a.length=(part L' i).length:=by rw[<-hR,aIx]
  have ab:a.length<=1000000:=by rw[O];exact aIz (List.length_filter_le _ _) Fe
  refine bG (λW q s=>∃(j m:Nat),W+j=a.length/\q=[.ptr κ 0,.ptr χ 0,I m,I i,x,I j]/\s=s3/\m<=L.length/\(L'=L->m=wN L i+j)) ?_ (n:=a.length) ⟨0,n,rfl,rfl,rfl,hn,hw⟩;rintro W aa s4 K2 ⟨j,m,hj,rfl,rfl,hm,Y⟩ AF;simp only[aK,aL];rw[H.len a.length (oK _) uM s4,af,dD,af,ag];obtain⟨d,y⟩:=f s4 A
  by_cases X:j<a.length
  .rw[aHQ X,aHP rfl,bD];have P:aj .geq none false (I m) (I L.length) s4=.ok (.bool (decide (L.length<=m))) s4:=by rw[av,qE];congr 2;simp only[aIi];omega
   simp only[bj,af,ah,az,d,ar,aHN,aHG,aw,y.len L.length (mX _) uM s4,P]
   have w:L'=L->∃h:m<L.length,hd L[m]=i/\zy L[m]=a[j]:=λe=>by
    subst e;obtain⟨h1,h2⟩:=Uw uF (s:=i) (i:=j) uM;have zp:=Y rfl;subst zp;refine⟨h1,?_,?_⟩
    .rw[h2];have:=(aIR.1 (aIc (l:=part L' i) (n:=j) uM)).2;exact aJU this
    .rw[h2];subst hR;rw[aJw]
   by_cases ov:L.length<=m
   .simp only[aHQ ov,aG,aIb,aHH,aHV,bU,af,aF,aIj,ag];refine⟨⟨afp,afp,afp,afp,afp,afp,afp,afp,afp,afp⟩,afp,A,false,rfl,λe=>?_⟩;obtain⟨h1,_⟩:=w e;omega
   .have Mh:m<L.length:=by omega
    obtain⟨b1,p1,l1,t1,x1,E,D,q3,q4,r⟩:=y.cellAt (L:=L.map I5) uM (QJ L) (i:=m) (by simpa using Mh);rw[aJw]at r;obtain⟨b2,p2,l2,t2,x2,r1,r2,r3,r4,C⟩:=H.cellAt (L:=a.map gh) uM (Ev _) (i:=j) (by simpa using X);rw[aJw]at C;have Z:=r 0 (I (((L[m].1.headD 0).toNat:Nat):Int)) rfl;have z1:=r 1 (.str (L[m].1.drop 1)) rfl;have z2:=r 2 (.str L[m].2) rfl;have y0:=C 0 (.str a[j].1) (by simp[gh]);have y1:=C 1 (.str a[j].2) (by simp[gh]);rw[aIv]at Z y0
    have Q:aj .neq (some .int) false (I (((L[m].1.headD 0).toNat:Nat):Int)) (I i) s4=.ok (.bool (!decide (hd L[m]=i))) s4:=by
     have e:decide ((((L[m].1.headD 0).toNat:Nat):Int)=(i:Int))=decide (hd L[m]=i):=by rw[aIi];exact Int.ofNat_inj
     rw[av,ff,e]
    have B:((True)/\(True)/\(True)/\(True)/\(True)/\(True)/\(True)/\(True)/\(True)/\True):=⟨afp,afp,afp,afp,afp,afp,afp,afp,afp,afp⟩;have c:(L'=L->False)->IN L L' st (.bool false) s4:=λh=>⟨A,false,rfl,λe=>(h e).elim⟩;simp only[aHL ov,aG,aHY,aIb,aHH,aHV,ba,af,bj,ah,az,d,ar,aHN,aIv,aHG,aw,E,D,Z,Q,aF]
    by_cases V:hd L[m]=i
    .simp only[aHQ V,aIb,aG,aHY,aHH,aHV,ba,af,bj,ah,az,d,ar,aHN,aIv,aHG,aw,E,D,z1,r1,r2,y0,ep,oL,aF]
     by_cases U:L[m].1.drop 1=a[j].1
     .simp only[aHQ U,aIb,aG,aHY,aHH,aHV,ba,af,bj,ah,az,d,ar,aHN,aIv,aHG,aw,E,D,z2,r1,r2,y1,ep,oL,aF,ag];refine⟨B,afp,?_⟩
      by_cases S:L[m].2=a[j].2
      .rw[aHQ S,aIb,aHM xI,gJ m uM,af,gJ j uM,af];exact AF (W-1) _ _ uM ⟨j+1,m+1,uM,rfl,rfl,uM,λe=>by have:=Y e;omega⟩
      .rw[aHL S,aHY,aHP rfl];exact c λe=>by obtain⟨_,_,o⟩:=w e;exact S (by rw[<-o];rfl)
     .simp only[aHL U,aIb,aHY,aG,aHH,aHV,aIj,bU,af,aF,ag];exact⟨B,afp,c λe=>by obtain⟨_,_,o⟩:=w e;exact U (by rw[<-o];rfl)⟩
    .simp only[aHL V,aIb,aHY,aG,aHH,aHV,aIj,bU,af,aF,ag];exact⟨B,afp,c λe=>by obtain⟨_,o,_⟩:=w e;exact V o⟩
  .rw[aHL X,aHM xI,gJ i uM,af];refine next (fu-1) _ _ uM ⟨i+1,m,uM,rfl,A,hm,λe=>?_⟩;have h1:=Y e;have h2:=TN L i;rw[<-e]at h1 h2⊢;omega
 .rw[aHL M,aHM xI];obtain⟨d,y⟩:=f s u
  have f0:∀K:CV->Prop,K v->eQ 0 (.ptr χ 0) s K:=λK hK=>by
   unfold eQ;rw[bj,af,ah,af,az,d,ar];exact hK
  refine f0 _ ?_;have eq:aj .eql (some .int) false (I n) (I L.length) s=.ok (.bool (decide (n=L.length))) s:=O9
  rw[y.len L.length (mX _) uM s,af,eq,af];refine⟨u,_,rfl,λe=>aHQ ?_⟩;have:i=256:=uM
  subst this;rw[hw e];unfold wN;rw[List.filter_eq_self.2 λp _=>aHQ (show hd p<256 from(p.1.headD 0).toNat_lt)]
end
section
variable {L:List aW}{n:Nat}{cs:List jI}
def GP (h:fZ L)(k:bY)(v:List UInt8):fZ (nt L k v):=by
 unfold nt fZ;refine aJq.2 ⟨aKo _ h,aKi.2 ⟨λb c=>?_,aKo _ h⟩,λa d b c=>?_⟩
 .exact aJU (aIR.1 c).2
 .have h1:=aJU (aIR.1 d).2;rcases aHJ.1 c with rfl|c
  .exact h1
  .exact iK h1 (aJU (aIR.1 c).2)
def Ir (h:fZ L)(k:bY):fZ (pz L k):=by
 unfold pz fZ;refine aJq.2 ⟨aKo _ h,aKo _ h,λa d b c=>?_⟩;have h1:=aJU (aIR.1 d).2;exact iK h1 (aJU (aIR.1 c).2)
structure uJ (L:List aW)(n:Nat):Prop where
 srt:fZ L
 nm:∀p∈L,p.1≠[]
 sm:Small L
 len:L.length<=n
def uJ.do (h:uJ L n){c:jI}(a:c.ok):uJ (Fx L c) (n+1):=by
 refine⟨?_,?_,h.sm.do a,?_⟩
 .unfold Fx
  split
  .exact Ir h.srt _
  .exact GP h.srt _ _
 .unfold Fx
  split
  .intro p hp;unfold pz at hp;rcases aHT.1 hp with hp|hp<;>exact h.nm p (aIR.1 hp).1
  .intro p hp;unfold nt at hp;rcases aHT.1 hp with hp|hp
   .exact h.nm p (aIR.1 hp).1
   .rcases aHJ.1 hp with rfl|hp
    .exact List.cons_ne_nil _ _
    .exact h.nm p (aIR.1 hp).1
 .have h1:=h.len;unfold Fx
  split
  .have:=Sp L (je c.nm);omega
  .have:=P4 L (je c.nm) c.val;omega
def uJ.take (h:uJ L n)(b:∀c∈cs,c.ok):∀i,i<=cs.length->uJ (jW L (cs.take i)) (n+i):=by
 intro i
 induction i with
 |zero=>intro _;exact h
 |succ i a=>
  intro hi;rw[mG L cs i hi];exact(a uM).do (b _ (aIc hi))
def uJ.all (h:uJ L n)(a:∀c∈cs,c.ok):uJ (jW L cs) (n+cs.length):=by
 have:=h.take a cs.length (aHK _)
 rwa [aHS (aHK _)]at this
def uJ.more {m:Nat}(h:uJ L n)(a:n<=m):uJ L m:=⟨h.srt,h.nm,h.sm,aIz h.len a⟩
def afa:uJ [] 0:=⟨List.Pairwise.nil,wb,by unfold Small;simp,aHK _⟩
end
section
variable {v:CV}{i:Nat}{K:CV->Prop}{s:St}{S:List xA}{kL s':St}{n κ τ:Nat}{π:PI}
section
variable {st st':St} {L Lk:List aW} {T N fr:Nat}
def rV.load {cs:List jI}(h:rV st v cs)(hi:i<cs.length)(g:K (.agg (qi cs[i]))):gU 4 4 v (I i) st K:=by
 obtain⟨b,p,l,o,f,d,a⟩:=h.at' hi;have j:=a 0 _ rfl;have h1:=a 1 _ rfl;have h2:=a 2 _ rfl;have c:=a 3 _ rfl;unfold gU;rw[f,af,qv,d,ye]
 have e:gY l p 4=some (qi cs[i]):=by
  obtain⟨k,_⟩:=aHW.1 c;unfold gY;rw[aHP uM]
  congr 1
  refine aJR λn=>?_;rcases n with _|_|_|_|n
  .rw[aJe,aJA,aHP uM,j];rfl
  .rw[aJe,aJA,aHP uM,h1];rfl
  .rw[aJe,aJA,aHP uM,h2];rfl
  .rw[aJe,aJA,aHP uM,c];rfl
  .rw[aJe,aHM uM];rfl
 rw[e,Hd];exact g
def BG.afd (h:BG st v S)(c:Kp [] st s)(hi:i<S.length)(f:∀u,rV st u S[i].cs->K (.agg (oE S[i] u))):gU 5 5 v (I i) s K:=by
 rcases h with⟨_,rfl⟩|⟨b,off,cap,rfl,d,a⟩
 .simp at hi
 .obtain⟨l,o,u,h1,h2,h3,g⟩:=a i hi;unfold gU;rw[gp hi (.inl rfl),af,qv,c.keep b d wb,h1,ye];have e:gY l (off+i*5) 5=some (oE S[i] u):=by unfold gY;rw[aHP h2,h3]
  rw[e,Hd];exact f u g
structure Live (kL:St)(n T κ τ:Nat)(π:PI)(L:List aW)(s:St):Prop where
 kv:∃T1 fr,T1<=T/\pB κ τ π s L L T1 n fr
 ge:∀b∈κ::own τ π,kL.nx<=b
structure Ref (kL:St)(X:List Nat)(χ:Nat)(F:List Nat)(L:List aW)(s:St):Prop where
 at':pY s χ F L
 ge:∀b∈χ::F,kL.nx<=b/\b∉X
def Live.still {T:Nat}(h:Live kL n T κ τ π L s)(a:Kp [] s s'):Live kL n T κ τ π L s':=by
 obtain⟨d,fr,c,b⟩:=h.kv;exact⟨⟨d,fr,c,b.still a⟩,h.ge⟩
def Ref.still {X F:List Nat}{a:Nat}(h:Ref kL X a F L s)(b:Kp [] s s'):Ref kL X a F L s':=⟨h.at'.keep b wb,h.ge⟩
def Live.lt {T:Nat}(h:Live kL n T κ τ π L s):∀b∈κ::own τ π,b<s.nx:=λb a=>by
 obtain⟨e,fr,d,c⟩:=h.kv;rcases aHJ.1 a with rfl|a
 .exact c.lt
 .exact c.tr.sR b a
def auu (kL:St)(v:CV)(n k:Nat)(fu:Nat)(c:List CV)(s:St):Prop:=∃(i κ τ b:Nat) (π:PI) (L:List aW) (F:List Nat),fu+i=k/\c=[v,.ptr π.a 0,.ptr κ 0,.ptr b 0,I i]/\Live kL n (10000*i) κ τ π L s/\Ref kL (κ::own τ π) b F L s/\uJ L (4000*i)/\Kp [] kL s
def Yn (kL:St)(v:CV)(n i:Nat)(L:List aW)(f:List CV)(s:St):Prop:=Kp [] kL s/\∃(d b:Nat) (F F':List Nat) (c:List aW),pY s d F L/\uJ c (4000*(i+1))/\
 ((∃(e κ τ:Nat) (π:PI),(e=0\/e=1\/e=3)/\f=[v,.ptr π.a 0,I e,.ptr κ 0,.ptr d 0,I i,.ptr b 0]/\Live kL n (10000*(i+1)) κ τ π c s/\Ref kL (κ::own τ π) b F' c s)\/
 (∃(a:Nat) (kv:CV) (Fd:List Nat) (D:aU),f=[v,.ptr a 0,I 20,kv,.ptr d 0,I i,.ptr b 0]/\cQ s a Fd D/\D.dead=true/\(pX L n (10000*(i+1)) D\/pX c n (10000*(i+1)) D)/\pY s b F' c))
end
set_option maxHeartbeats 4000000 in
def Su {st:St}{kv:CV}{keep:List Bool}(h:BG st v S)(hk:pZ st [] kv keep)(hf:eA st)(hl:S.length<=9223372036854775807)(hb:∀p∈S,p.cs.length<=140737488355328/\∀c∈p.cs,c.size<=281474976710656)(yT:keep.length<=140737488355328)(ax Og:Int):R 7 [I ax,v,I Og,kv] st λy st'=>y=.bool true/\Kp [] st st':=by
 refine bK ?_;rw[w7];refine(UP h.args adm acJ).mono ?_;rintro _ s1 ⟨b,rfl,e1,a4⟩;obtain rfl:st=s1:=e1.symm;have en:∀s,aj .neq (some .int) true (I 0) (.int .i64 0) s=.ok (.bool false) s:=λs=>rfl;have aP:∀s,aj .eql (some .int) true (I 0) (.int .i64 0) s=.ok (.bool true) s:=λs=>rfl;have eD:∀s,aj .eql (some .int) true (I 20) (.int .i64 20) s=.ok (.bool true) s:=λs=>rfl;cases b with
 |true=>
  simp only[aG,aHH,aHV,aIb,bU,af,aF,aIj,ag];exact zK hf
 |false=>
  have eg:aj .gtr none true (I keep.length) (.int .i64 3000) st=.ok (.bool (decide (3000<keep.length))) st:=BT
  simp only[aG,aHH,aHV,aHY,ba,af];rw[hk.len,af,eg,af,aF,aHM xI,af,ag]
  by_cases Ff:3000<keep.length
  .rw[aHQ Ff,aHP rfl];exact zK hf
  rw[aHL Ff,aHM xI];obtain⟨Od,ad⟩:=a4 rfl;have Od:S.length<=40:=by simpa using Od
  have ad:=λp hp=>ad _ (aIk.2 ⟨p,hp,rfl⟩);obtain⟨n0,bu,Z⟩:=aeF ax 3601 uM uM;refine Z st _ ?_;have ea:aj .add none true (.int .i64 400) (I n0) st=.ok (I ((400+n0:Nat):Int)) st:=O8
  rw[ea,af];obtain⟨n,hn⟩:∃n,n=400+n0:=⟨_,rfl⟩;rw[<-hn];refine(Qn (n:=n) uM uM).mono ?_;rintro _ s3 ⟨k3,a,Fa,rfl,U,aM⟩;rw[aD,af,aI,aD,af];refine(Iv (n:=n) uM uM U (k3.fresh hf) U.lt).mono ?_;rintro _ s4 ⟨κ,τ,π,rfl,rfl,k4,w9,B,fo⟩;have n3:=k3.nx
  have Du:∀b∈κ::own τ π,st.nx<=b:=λb hb=>by
   rcases w9 b hb with h|h
   .exact aM b h
   .omega
  have K4:=k3.trans k4 λq hq=>.inr (aM q hq);obtain⟨m,hm,bb⟩:=aeF Og 400 uM uM;rw[aD,af,aI,aD,af,en,af];simp only[aG,aHH,aHV,aHY,ba,af];rw[en,af,aF,aHM xI,af];simp only[aG,aHH,aHV,aHY,ba,af,dI];refine bb s4 _ ?_;obtain⟨Dy,be,_⟩:=B.1.t2.Bj;refine(RX Dy (i:=(m:Int)) uM be yT (hk.mono K4)).mono ?_;rintro _ s5 ⟨rfl,k5,F5,a7,aN⟩;have t5:=B.1.t2.Og k5 a7 aN;have ea:({π with D:={π.D with set:=true,left:=(m:Int),keep:=keep},Fd:=F5}:PI).a=π.a:=rfl
  have iS:∀b∈own τ {π with D:={π.D with set:=true,left:=(m:Int),keep:=keep},Fd:=F5},b∈own τ π\/s4.nx<=b:=λb hb=>by
   by_cases h1:b∈own τ π
   .exact .inl h1
   .unfold own PI.all at hb h1;simp only[aHJ,aHT,aJf]at hb h1;rcases hb with h2|h2|h2|h2|h2|h2|h2|h2
    .exact absurd h2 h1.1
    .exact absurd h2 h1.2.1
    .exact absurd h2 h1.2.2.1
    .exact absurd h2 h1.2.2.2.1
    .exact absurd h2 h1.2.2.2.2.1
    .exact absurd h2 h1.2.2.2.2.2.1
    .exact absurd h2 h1.2.2.2.2.2.2.1
    .rcases aN b h2 with h3|h3
     .exact absurd h3 h1.2.2.2.2.2.2.2
     .exact .inr h3
  have OT:∀q∈π.Fd,q∈own τ π:=λq hq=>kj (PI.l6 hq);have K5:=K4.trans k5 λq hq=>.inr (Du q (aIH _ (OT q hq)))
  have ay:Live st n (10000*0) κ τ {π with D:={π.D with set:=true,left:=(m:Int),keep:=keep},Fd:=F5} [] s5:=by
   have aA:=B.2.2.1;refine⟨⟨0,_,aJL _,t5,(k5.keep κ aA λhh=>B.2.2.2 (OT _ hh)).trans B.2.1,aId aA k5.nx,λhh=>?_⟩,λb hb=>?_⟩
   .rcases iS κ hh with h1|h1
    .exact B.2.2.2 h1
    .omega
   .have n4:=K4.nx;rcases aHJ.1 hb with rfl|hb
    .exact Du _ wb
    .rcases iS b hb with h1|h1
     .exact Du b ael
     .omega
  rw[<-ea];generalize ({π with D:={π.D with set:=true,left:=(m:Int),keep:=keep},Fd:=F5}:PI)=π at*;rw[en,af,aF,aHM xI,af,ag,aHM xI];have mo:∀s,aZ [.ae] [] s=.ok (.agg [.ae]) s:=λs=>rfl;rw[mo,af,bS];refine⟨rfl,?_⟩;rw[aT];generalize a6:St.new s5 (.cells [.ae] 87 false)=s6;obtain⟨k6,g6,n6⟩:=AG a6;have a2:=ay.lt;have n5:=K5.nx;rw[cM];simp only[aK,aL];refine bG (auu st v n S.length) ?_ (n:=S.length) ⟨0,κ,τ,s5.nx,π,[],[],rfl,rfl,ay.still k6,⟨⟨⟨_,g6,.inl ⟨rfl,rfl,rfl⟩⟩,zS,wb⟩,λb hb=>?_⟩,afa,K5.trans k6⟩
  rotate_left
  .obtain rfl:b=s5.nx:=by simpa using hb
   exact⟨n5,λhh=>by have:=a2 _ hh;omega⟩
  rintro fu vs s K ⟨i,κ,τ,χ,π,L,F,hi,rfl,hL,V,w,r⟩ next;simp only[aK,aL];have hA:=h.keep r;rw[hA.len,af,dD,af,ag];obtain⟨T1,fr,bw,ac⟩:=hL.kv
  by_cases hc:i<S.length
  .rw[aHQ hc,aHP rfl];refine h.afd r hc λu hu=>?_;refine mW rfl rfl (by have:=hu.one.1;unfold oE;simp only[bh,List.all_cons,List.all_nil,this];rfl) ?_;generalize a5:St.new s (.cells (oE S[i] u) 77 false)=s7;obtain⟨k7,g7,n7⟩:=AG a5;have qQ:=ad _ (aIc hc)
   have fB:∀s',s'.m.g s.nx=some (.cells (oE S[i] u) 77 false)->∀(o:Nat) (x:CV),(oE S[i] u)[o]?=some x->∀K:CV->Prop,K x->fl o (.ptr s.nx 0) s' K:=λs' g o x hx K Z=>by
    unfold fl;rw[ah,af,az,g,ar,aHN,hx,aw];exact Z
   refine fB s7 g7 0 _ rfl _ ?_;have n0:=r.nx;rw[av,dh,af,ag]
   by_cases h1:1<S[i].kind
   .rw[aHQ h1,aHP rfl,gJ i uM,af];exact next (fu-1) _ _ uM ⟨i+1,κ,τ,χ,π,L,F,uM,rfl,⟨⟨T1,fr,uM,ac.still k7⟩,hL.ge⟩,V.still k7,w.more uM,r.trans k7⟩
   rw[aHL h1,aHM xI];have bi:L.length<=1000000:=aIz w.len uM;refine(abC (V.still k7).at' bi).mono ?_;rintro _ s8 ⟨d,F',rfl,k8,X,NV⟩;have n8:=k8.nx;have Zf:=k7.trans k8;have UE:=hL.lt;have Co:=V.at'.lt;have Xp:=X.lt;have aR:=ac.still Zf;have g8:=(k8.keep s.nx uM wb).trans g7;have K8:=r.trans Zf;refine kY (Yn st v n i L) ?_ ?_
   .intro Tj Vv;refine fB s8 g8 0 _ rfl _ ?_;rw[av,cC,af,ag]
    by_cases h0:S[i].kind=0
    .rw[aHQ h0,aHP rfl];refine fB s8 g8 1 _ rfl _ ?_;refine(RR (K8.fresh hf) (hu.keep K8) uM).mono ?_;intro y s9 hm;have jS:=hm.sl (own τ π) λb hb=>by have:=UE b TL;omega
     obtain⟨_,H,_⟩:=hm;have n9:=H.nx;refine(Wf (aR.still H) w.sm jS uM uM uM).mono ?_;intro z f XU;have HU:∀q∈own τ π,st.nx<=q:=λq hq=>hL.ge q aaa;have aV:=V.at'.keep (Zf.trans H) wb;have bg:=X.keep H wb;have Cj:∀b∈d::F',s.nx<b/\b<s8.nx:=λb hb=>⟨by have:=NV b hb;omega,Xp b hb⟩
     obtain⟨e,rfl,he,lG,l,hJ⟩:∃e:Nat,z=I e/\(e=0\/e=1\/e=3\/e=20)/\((e=0\/e=20)->∀c∈S[i].cs,c.ok)/\Kp (own τ π) s9 f/\∀dQ J E,Kp [d] f dQ->pY dQ d J E->E=(if e=0\/e=20 then jW L S[i].cs else L)->(∀b∈J,b∈F'\/f.nx<=b)->Yn st v n i L [v,.ptr π.a 0,I e,.ptr κ 0,.ptr χ 0,I i,.ptr d 0] dQ:=by
      rcases XU with⟨e,rfl,he,lG,A,T',fr',L',ak,bx,⟨l,jU⟩,al,bE,a9,Hz⟩|⟨rfl,lG,l,Hz,Fd,D,U,aJ,nj,hs⟩
      .refine⟨e,rfl,uM,λhh=>lG uM,l,λdQ J E W ab eL zw=>?_⟩
       have bc:E=L':=by
        rw[eL,a9];rcases he with rfl|rfl|rfl<;>simp
       subst bc;have M:=K8.trans H;have Q:=M.trans l λq hq=>.inr (HU q hq);have aa:=Cj d wb;have I4:=l.nx
       have bn:∀b∈κ::own τ A,b<f.nx:=λb hb=>by
        rcases aHJ.1 hb with rfl|hb
        .exact al.lt
        .exact al.tr.sR b hb
       have Dv:∀b∈κ::own τ A,b<s.nx/\st.nx<=b\/s9.nx<=b:=λb hb=>by
        rcases aHJ.1 hb with rfl|hb
        .exact .inl ⟨UE _ wb,hL.ge _ wb⟩
        .rcases jU b hb with h2|h2
         .exact .inl ⟨UE b adb,HU b h2⟩
         .exact .inr h2
       refine⟨Q.trans W λq hq=>.inr acV,χ,d,F,J,E,(aV.keep l λb hb hh=>(V.ge b hb).2 adk).keep W λb hb hh=>by have:=Co b hb;simp at hh;omega,?_,.inl ⟨e,κ,τ,A,he,by rw[ak],⟨⟨T',fr',uM,al.off W λb hb hh=>?_⟩,λb hb=>?_⟩,ab,λb hb=>?_⟩⟩
       .rw[eL]
        split
        .exact(w.all (lG uM)).more uM
        .exact w.more uM
       .simp at hh;have:=Dv b hb;omega
       .have:=Dv b hb;omega
       .have h3:b=d\/b∈F'\/f.nx<=b:=by
         rcases aHJ.1 hb with h4|h4
         .exact .inl h4
         .exact .inr (zw b h4)
        have h5:s.nx<b/\b<s8.nx\/f.nx<=b:=by
         rcases h3 with h4|h4|h4
         .exact .inl (Cj b (by simp[h4]))
         .exact .inl (Cj b (by simp[h4]))
         .exact .inr h4
        exact⟨uM,λhh=>by have h6:=Dv b hh;have h7:=bn b hh;omega⟩
      .refine⟨20,rfl,wb,λ_=>lG,l,λdQ J E W ab eL zw=>?_⟩;have M:=K8.trans H;have Q:=M.trans l λq hq=>.inr (HU q hq);have aa:=Cj d wb;rw[aHP wb]at eL;subst eL;refine⟨Q.trans W λq hq=>.inr acV,χ,d,F,J,_,(aV.keep l λb hb hh=>(V.ge b hb).2 adk).keep W λb hb hh=>by have:=Co b hb;simp at hh;omega,(w.all lG).more uM,.inr ⟨π.a,.ptr κ 0,Fd,D,rfl,U.keep W λb hb hh=>?_,nj,hs.imp (λh=>h.more uM) (λh=>h.more uM),ab⟩⟩;simp at hh;rcases aJ b hb with h2|h2
       .have:=UE b adb;omega
       .omega
     have aa:=Cj d wb
     have gB:∀s',Kp [d] f s'->s'.m.g s.nx=some (.cells (oE S[i] u) 77 false):=λs' k'=>by
      have I4:=l.nx;exact(k'.keep s.nx uM zS).trans ((l.keep s.nx uM λhh=>by have:=UE s.nx adk;omega).trans ((H.keep s.nx uM wb).trans g8))
     have uC:∀s',Kp [d] f s'->rV s' u S[i].cs:=λs' k'=>hu.keep (((K8.trans H).trans l λq hq=>.inr (HU q hq)).trans k' λq hq=>.inr acV);rw[cM];simp only[aK,aL];have bd:∀s,aj .eql (some .int) true (I e) (.int .i64 0) s=.ok (.bool (decide (e=0))) s:=λs=>O9
     have bD:∀s,aj .eql (some .int) true (I e) (.int .i64 20) s=.ok (.bool (decide (e=20))) s:=λs=>O9
     refine bG (λOY vs s'=>∃j J,OY+j=S[i].cs.length/\vs=[v,.ptr π.a 0,I e,.ptr κ 0,.ptr χ 0,I i,.ptr s.nx 0,.ptr d 0,I j]/\Kp [d] f s'/\pY s' d J (jW L (S[i].cs.take j))/\(∀b∈J,b∈F'\/f.nx<=b)/\(¬(e=0\/e=20)->j=0)) ?_ (n:=S[i].cs.length) ⟨0,F',rfl,rfl,Kp.refl _ _,bg.keep l λb hb hh=>acD,afk,λ_=>rfl⟩;rintro OY vs s' K2 ⟨j,J,hj,rfl,k',r',zw,hz⟩ AF;simp only[aK,aL];refine fB s' (gB s' k') 1 _ rfl _ ?_;have aB:=uC s' k';rw[aB.len,af,dD,af]
     by_cases O:j<S[i].cs.length
     .simp only[aHQ O,aG,aIj,ba,af,bd]
      by_cases yW:e=0\/e=20
      .have ex:∀K:CV->Prop,K (.bool true)->us (br (if false=true then some (decide (e=0))else some (!decide (e=0))) s' (.ok (I e) s')) λx=>us (br (if false=true then some (decide (e=0))else some (!decide (e=0))) s' (aj .eql (some .int) true x (.int .i64 20) s')) λy=>us (bk (.bool (decide (e=0))) (.bool true) y s') λz=>us (bk (.bool true) z (.bool false) s') K:=λK Z=>by
        rcases yW with rfl|rfl
        .exact Z
        .exact Z
       refine ex _ ?_;rw[ag,aHP rfl];refine fB s' (gB s' k') 1 _ rfl _ ?_;refine aB.load O ?_;have C:=w.take (lG yW) j uM;refine(auf r' (lG yW _ (aIc O)) C.srt C.nm (aIz C.len uM)).mono ?_;rintro _ bV ⟨nJ,F3,au,Bb⟩;rw[gJ j uM,af];rw[<-mG L S[i].cs j O]at au;have nk:=k'.nx;exact AF (OY-1) _ _ uM ⟨j+1,F3,uM,rfl,k'.trans nJ afk,au,λb hb=>.inr (by have:=Bb b hb;omega),λhh=>absurd yW hh⟩
      .have ex:∀K:CV->Prop,K (.bool false)->us (br (if false=true then some (decide (e=0))else some (!decide (e=0))) s' (.ok (I e) s')) λx=>us (br (if false=true then some (decide (e=0))else some (!decide (e=0))) s' (aj .eql (some .int) true x (.int .i64 20) s')) λy=>us (bk (.bool (decide (e=0))) (.bool true) y s') λz=>us (bk (.bool true) z (.bool false) s') K:=λK Z=>by
        have h2:e=1\/e=3:=uM
        rcases h2 with rfl|rfl
        .exact Z
        .exact Z
       refine ex _ ?_;rw[ag,aHM xI];obtain rfl:=hz yW;exact Vv _ _ (hJ s' J _ k' r' (by rw[aHM yW];rfl) zw)
     .have ej:S[i].cs.take j=S[i].cs:=aHS uM;rw[ej]at r';simp only[aHL O,aG,aHH,aIj,aHV,bU,af,lr,aF,ag];refine Vv _ _ (hJ s' J _ k' r' ?_ zw)
      split
      .rfl
      .rename_i yW;obtain rfl:=hz yW;rw[<-ej];rfl
    .rw[aHL h0,aHM xI];refine(EK (Pk aR.tr uM) uM).mono ?_;have OT:∀q∈π.Fd,q∈own τ π:=λq hq=>kj (PI.l6 hq);have HU:∀q∈own τ π,st.nx<=q:=λq hq=>hL.ge q aaa;have Cj:∀b∈d::F',s.nx<b/\b<s8.nx:=λb hb=>⟨by have:=NV b hb;omega,Xp b hb⟩;have aS:=V.at'.keep Zf wb;rintro _ s9 (⟨ap,am,A,fr',rfl,ak,H,bj,bf,Hz⟩|⟨rfl,l,Hz,Fd,D,U,aJ,nj,hs⟩)
     .rw[aD,af,aI,aD,af,aP,af,ag,aHP rfl];have M:=K8.trans H λq hq=>.inr (HU q (OT q hq))
      have Dv:∀b∈ap::own am A,b<s.nx/\st.nx<=b\/s8.nx<=b:=λb hb=>by
       rcases bj b hb with h2|h2
       .exact .inl ⟨UE b (by simp[OT b h2]),HU b (OT b h2)⟩
       .exact .inr h2
      refine Vv _ _ ⟨M,χ,d,F,F',L,aS.keep H λb hb hh=>(V.ge b hb).2 (by simp[OT b hh]),w.more uM,.inl ⟨0,ap,am,A,.inl rfl,by rw[ak];rfl,⟨⟨T1,fr',uM,bf.at'⟩,λb hb=>by have:=Dv b hb;omega⟩,X.keep H λb hb hh=>by have h2:=Cj b hb;have h3:=UE b (by simp[OT b hh]);omega,λb hb=>?_⟩⟩;have h2:=Cj b hb;exact⟨uM,λhh=>by have:=Dv b hh;omega⟩
     .have e0:aj .eql (some .int) true (I 20) (.int .i64 0) s9=.ok (.bool false) s9:=rfl;rw[aD,af,aI,aD,af,e0,af,ag,aHM xI];have M:=K8.trans l λq hq=>.inr (HU q hq);exact Vv _ _ ⟨M,χ,d,F,F',L,aS.keep l λb hb hh=>(V.ge b hb).2 adk,w.more uM,.inr ⟨π.a,.ptr κ 0,Fd,D,rfl,U,nj,.inl (hs.more uM),X.keep l λb hb hh=>acD⟩⟩
   .rintro vs s9 ⟨M,χ,d,F,F',L',r1,C,⟨e,κ,τ,π,he,rfl,aH,a8⟩|⟨a,bt,Fd,D,rfl,U,nj,hs,r2⟩⟩
    .simp only[aK,aL];have Je:aj .eql (some .int) true (I e) (.int .i64 20) s9=.ok (.bool false) s9:=by rcases he with rfl|rfl|rfl<;>rfl
     have ai:∀s,aj .neq (some .bool) false (.bool false) (.bool false) s=.ok (.bool false) s:=λs=>rfl;obtain⟨T9,bz,bv,a3⟩:=aH.kv;obtain⟨aC,aQ,_⟩:=a3.tr.Bj;rw[Je,af];refine(xi aC).same ?_;rw[aQ,ai,af,ag,aHM xI];refine(xi aC).same ?_;rw[aQ,ag,aHM xI,gJ i uM,af];exact next (fu-1) _ _ uM ⟨i+1,κ,τ,d,π,L',F',uM,rfl,aH,a8,C,M⟩
    .simp only[aK,aL];have ai:∀s,aj .neq (some .bool) false (.bool true) (.bool true) s=.ok (.bool false) s:=λs=>rfl;rw[eD,af];refine(xi U).same ?_;rw[nj,ai,af,ag,aHM xI];refine(xi U).same ?_;rw[nj,ag,aHP rfl];obtain⟨Lx,L6,aE⟩:∃Lx,pX Lx n (10000*(i+1)) D/\(Lx=L\/Lx=L'):=hs.elim (λh=>⟨_,h,.inl rfl⟩) λh=>⟨_,h,.inr rfl⟩
     have Y:uJ Lx (4000*(i+1)):=by
      rcases aE with rfl|rfl
      .exact w.more uM
      .exact C
     have bp:D.aq.length=n:=by obtain⟨G,_,h2⟩:=L6;exact h2.2.1
     refine(Ng U nj uM).mono ?_;rintro _ f ⟨oq,a1,F1,rfl,OV,xO⟩;rw[aD,af,aI,aD,af,en,af,ag,aHM xI];have Q:=M.trans oq;refine(EK (P:=λ_=>False) ((YC L6 OV (Q.fresh hf) uM).mono λ_ _ h=>.inl h) uM).mono ?_;rintro _ dQ (⟨an,bq,bs,bB,rfl,bC,W,bl,Y9,bm⟩|⟨_,hF⟩)
     rotate_left
     .exact hF.elim
     have QC:=oq.trans W λq hq=>.inr (xO q hq);have bo:=M.trans QC;have a0:=r1.keep QC wb;have aY:=r2.keep QC wb;have lx:Lx.length<=1000000:=aIz Y.len uM;rw[aD,af,aI,aD,af,aP,af];simp only[aG,aIj,ba,af,dI];refine(DS Y9.at' a0 Y.nm lx (aIz w.len uM)).mono ?_;rintro _ bV ⟨nJ,b1,rfl,FY⟩;have I4:=oq.nx;have n9:=M.nx
     have aO:∀eu,Kp [] dQ eu->gK (some true) eu (λk=>R 39 [.ptr an 0] eu k) (λtJ sM=>us (bk (.bool true) tJ (.bool false) sM) λsq=>gK (ao true sq) sM (λk=>R 27 [] sM k) λFO kH=>us (bk sq FO (.bool false) kH) λF8=>F8=.bool true/\Kp [] st kH):=λeu nI=>by
      rw[dI];refine(abe ⟨Y9.1.still nI,(nI.keep an Y9.2.2.1 wb).trans Y9.2.1,aId Y9.2.2.1 nI.nx,Y9.2.2.2⟩ bm Y.sm uM uM).mono ?_;rintro _ eP ⟨rfl,vI⟩
      have TI:=(bo.trans nI).trans vI λq hq=>.inr (by
       rcases bl q (by simp[hq])with h2|h2
       .have:=xO q h2;omega
       .omega)
      rw[aF,aHP rfl,af,aG];simp only[aIj,dI];refine(zK (TI.fresh hf)).mono ?_;rintro _ iV ⟨rfl,mM⟩;rw[aF,aHP rfl,af];exact⟨rfl,TI.trans mM⟩
     cases b1 with
     |true=>
      simp only[aG,aHH,aHV,aIj,aIb,ba,bU,af,pV,aF];exact aO bV nJ
     |false=>
      obtain rfl:Lx=L':=aE.resolve_left λe=>by cases FY e
      simp only[aG,aHH,aHV,aIj,aHY,ba,af,dI,aF];refine(DS (Y9.at'.still nJ) (aY.keep nJ wb) Y.nm lx lx).mono ?_;rintro _ eu ⟨nI,b2,rfl,BO⟩;obtain rfl:=BO rfl;simp only[aG,aIj,ba,af,aF];exact aO eu (nJ.trans nI)
  .rw[aHL hc,aHM xI];refine(DS ac V.at' w.nm (aIz w.len uM) (aIz w.len uM)).mono ?_;rintro _ s2 ⟨k2,b,rfl,BO⟩;obtain rfl:=BO rfl;simp only[aG,aIj,dI];refine(zK ((r.trans k2).fresh hf)).mono ?_;rintro _ s3 ⟨rfl,k3⟩;rw[aF,aHP rfl,af];exact⟨rfl,(r.trans k2).trans k3⟩
end
