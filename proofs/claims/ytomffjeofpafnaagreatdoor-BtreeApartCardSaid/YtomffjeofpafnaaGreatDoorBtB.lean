import Derived.Test.YtomffjeofpafnaaGreatDoorBtA
namespace Lim
open Go
noncomputable section
set_option maxRecDepth 100000
section
variable {τ:Nat} {π:PI} {st st':St} {G:GM}
theorem CC {d:List UInt8}{lo hi:Nat}(h1:lo<=hi)(h2:hi<=d.length)(s:St):kD (.str d) (some (I lo)) (some (I hi)) s= .ok (.str ((d.drop lo).take (hi-lo))) s:=by
 unfold kD;dsimp only;rw[pF,aBb ⟨h1,h2⟩]
structure TG (G G':GM)(c:da)(v:List UInt8)(pc:List Nat):Prop where
 ok:tP G'
 val:zV G' c v pc
 nd:pc.Nodup
 new:∀x∈pc,¬G.bL x
 kept:∀qs,(∀x∈qs,G.bL x)->Kept G G' qs
 root:G'.root=G.root
 free:G'.ck+eJ v.length=G.ck
 aE:G'.aE=G.aE
 frl:G'.fr.length<=G.fr.length
theorem BV (G:GM):G.alloc.fr.length<=G.fr.length:=by
 unfold GM.alloc
 split
 ·exact aAU _
 ·rename_i h;rw[h];simp
structure YP (τ:Nat)(π:PI)(st:St)(G:GM)(v:List UInt8)(x8:Nat)(j:Nat)(s:St)(G':GM)(I4:List Nat)(pv:Nat):Prop where
 tg:Tg τ π s G'
 g8:s.mem.get x8=some (.cells [I pv] 3 false)
 chain:oK G' I4 pv (v.drop (j*480))
 len:I4.length+j=(v.length+479)/480
 nd:I4.Nodup
 new:∀x∈I4,¬G.bL x
 kept:∀qs,(∀x∈qs,G.bL x)->Kept G G' qs
 root:G'.root=G.root
 free:G'.ck+I4.length=G.ck
 aE:G'.aE=G.aE
 kp:Kp (x8::π.W) st s
 frl:G'.fr.length<=G.fr.length
theorem Eb (h:Tg τ π st G){key v:List UInt8}(hk:key.length<=48)(hv:v.length<=8192)(hf:eJ v.length<=G.ck):R 47 [.ptr τ 0, .str key, .str v] st fun x st'=>Kp π.W st st'/\∃c G' pc,x= .tuple [.agg (aQ c),I 0]/\c.key=key/\c.ok true/\TG G G' c v pc/\Tg τ π st' G':=by
 refine bO ?_;rw[w47];rw[cr,El];refine⟨rfl, ?_⟩;have k1:Kp [] st (St.new st (.cells [.ptr τ 0] 27 false)):=(Kp.refl [] st).new _;have g1:(St.new st (.cells [.ptr τ 0] 27 false)).mem.get st.next=some (.cells [.ptr τ 0] 27 false):=aq _ _;have n1:(St.new st (.cells [.ptr τ 0] 27 false)).next=st.next+1:=rfl;generalize St.new st (.cells [.ptr τ 0] 27 false)=s1 at*;have k2:Kp [] s1 (St.new s1 (.cells [.str [], .str [], .int .i64 0, .int .i64 0] 109 false)):=(Kp.refl [] s1).new _;have g2:(St.new s1 (.cells [.str [], .str [], .int .i64 0, .int .i64 0] 109 false)).mem.get s1.next=some (.cells [.str [], .str [], .int .i64 0, .int .i64 0] 109 false):=aq _ _;have n2:(St.new s1 (.cells [.str [], .str [], .int .i64 0, .int .i64 0] 109 false)).next=s1.next+1:=rfl;rw[cM,aT];generalize St.new s1 (.cells [.str [], .str [], .int .i64 0, .int .i64 0] 109 false)=s2 at*;have sH:=(k2.keep st.next (by omega) (by simp)).trans g1;have mV:Kp [] st s2:=k1.trans k2 (by simp);have t2:=h.still mV;rw[fh,af];refine(xY (n:=v.length) (by omega)).same ?_
 by_cases Mh:v.length<=64
 ·have e0:eJ v.length=0:=by unfold eJ;rw[aBb Mh]
  have e1:aj .eql (some .int) true (I (eJ v.length)) (.int .i64 0) s2= .ok (.bool true) s2:=by rw[e0];rfl
  have mP:bJ [.str [], .str [], .int .i64 0, .int .i64 0] [(0,1, .str key),(1,1, .str v)] s2= .ok (.agg (aQ ⟨key,v,0,0⟩)) s2:=rfl;have kg:bt [.str [], .str [], .int .i64 0, .int .i64 0] 0 (aQ ⟨key,v,0,0⟩)=aQ ⟨key,v,0,0⟩:=dV _ _ rfl;rw[e1,af,ag,aBb rfl,mP,af,aH,g2,aS,aU,kg];refine⟨⟨rfl,rfl,by simp⟩, ?_⟩;rw[aO (n:=4) (ao _ _ _) rfl,af];have k3:Kp [s1.next] s2 (St.set s2 s1.next (.cells (aQ ⟨key,v,0,0⟩) 109 false)):=(Kp.refl _ s2).set _ (.inl (by simp)) (by omega);refine⟨(mV.mono (by simp)).set _ (.inr (by omega)) (by omega),⟨key,v,0,0⟩,G,[],rfl,rfl,⟨hk,fun h=>(by cases h),fun _ _=>⟨rfl,Mh⟩,fun _ h=>absurd rfl h⟩,⟨h.pg.Vd, .inl ⟨rfl,rfl,rfl⟩,by simp,by simp,fun qs _ q _=>⟨id,rfl⟩,rfl,by rw[e0];rfl,rfl,aAU _⟩,t2.vo k3 fun b hb=> ?_⟩;simp at hb;subst hb;exact⟨fun hh=>by have:=h.pg.lt _ hh;omega,fun e=>by have:=h.lt;omega⟩
 ·have e0:eJ v.length=(v.length+479)/480:=by unfold eJ;rw[aAZ Mh]
  have e1:aj .eql (some .int) true (I (eJ v.length)) (.int .i64 0) s2= .ok (.bool false) s2:=by rw[av,cB,aAW (by omega)]
  rw[e1,af,ag,aAZ (by decide)]
  have OE:∀K:CV->St->Prop,(upon (dD 3 [.int .i64 0] s2) fun x8 s5=>upon (aR 1 x8 (.int .i64 0) s5) fun _ s6=>K x8 s6)=K (.ptr s2.next 0) (St.new s2 (.cells [I ((0:Nat):Int)] 3 false)):=by
   intro K;have kg:bt [.int .i64 0] 0 [.int .i64 0]=[I ((0:Nat):Int)]:=rfl;rw[cM,aT,aH,aq,aS,iF,IV,kg];simp
  rw[OE];have k3:Kp [] s2 (St.new s2 (.cells [I ((0:Nat):Int)] 3 false)):=(Kp.refl [] s2).new _;have g3:(St.new s2 (.cells [I ((0:Nat):Int)] 3 false)).mem.get s2.next=some (.cells [I ((0:Nat):Int)] 3 false):=aq _ _;have n3:(St.new s2 (.cells [I ((0:Nat):Int)] 3 false)).next=s2.next+1:=rfl;generalize St.new s2 (.cells [I ((0:Nat):Int)] 3 false)=s3 at*;have jf:Kp [] st s3:=mV.trans k3 (by simp);have nH:=(k3.keep st.next (by omega) (by simp)).trans sH;have Ir:=(k3.keep s1.next (by omega) (by simp)).trans g2;have t3:=t2.still k3;have mu:=h.LR;have fP:∀b,st.next<=b->b∉π.all/\b≠τ:=fun b hb=>⟨fun hh=>by have:=h.pg.lt b hh;omega,fun e=>by have:=h.lt;omega⟩;have hnW:∀b,st.next<=b->b∉π.W:=fun b hb hh=>by have:=mu b hh;omega
  rw[lW,af,db];have es1:aj .sub none true (I (eJ v.length)) (.int .i64 1) s3= .ok (I ((eJ v.length:Int)-1)) s3:=by rw[av,dJ,bD (by omega)]
  rw[es1,af];simp only[aK,aL];rw[e0]
  refine bM (fun fu vs s=>vs=[.str key, .str v, .ptr s1.next 0, .ptr s2.next 0, .func (.func 96) [] [.ptr st.next 0, .ptr s2.next 0],I ((fu:Int)-1)]/\∃G' I4 pv,YP τ π s3 G v s2.next fu s G' I4 pv) ?_ (n:=(v.length+479)/480)
   ⟨rfl,G,[],0,⟨t3,g3,⟨rfl,aBC (by omega)⟩,by simp,by simp,by simp,fun qs _ q _=>⟨id,rfl⟩,rfl,rfl,rfl,Kp.refl _ _,aAU _⟩⟩
  rintro fu vs s k ⟨rfl,G',I4,pv,hI⟩ next;have HT:=hI.kp.next;have gx1:=(hI.kp.keep st.next (by omega) (by simp only[aAX,aCr];exact⟨by omega,hnW _ (aAU _)⟩)).trans nH;have gx2:=(hI.kp.keep s1.next (by omega) (by simp only[aAX,aCr];exact⟨by omega,hnW _ (by omega)⟩)).trans Ir;have hlen:=hI.len;simp only[aK,aL]
  by_cases hc:0<fu
  ·obtain⟨j,rfl⟩:∃j,fu=j+1:=⟨fu-1,by omega⟩;have ei:(((j+1:Nat):Int)-1)=((j:Nat):Int):=by omega
   rw[ei];have aqy:j*480<v.length:=by omega
   have a1:aj .geq none true (I j) (.int .i64 0) s= .ok (.bool true) s:=by rw[av,rl,aBc (by omega)]
   have a2:aj .mul none true (I j) (.int .i64 480) s= .ok (I ((j*480:Nat):Int)) s:=by rw[av,jQ,bD (by omega)];rfl
   have a3:aj .mul none true (I ((j+1:Nat):Int)) (.int .i64 480) s= .ok (I (((j+1)*480:Nat):Int)) s:=by rw[av,jQ,bD (by omega)];rfl
   have a4:Bm false (I v.length) (I (((j+1)*480:Nat):Int)) s= .ok (I ((min v.length ((j+1)*480):Nat):Int)) s:=by
    have e:Bm false (I v.length) (I (((j+1)*480:Nat):Int)) s= .ok (I (if (((j+1)*480:Nat):Int)<(v.length:Int)then (((j+1)*480:Nat):Int)else (v.length:Int))) s:=rfl;rw[e];congr 2;split<;>omega
   have a5:=CC (d:=v) (lo:=j*480) (hi:=min v.length ((j+1)*480)) (by omega) (by omega) s
   have SV:(v.drop (j*480)).take (min v.length ((j+1)*480)-j*480)=(v.drop (j*480)).take 480:=by
    by_cases hm:(j+1)*480<=v.length
    ·rw[Nat.min_eq_right hm];congr 1;omega
    ·rw[aBH (by omega),aBa (by rw[aBo];omega),aBa (by rw[aBo];omega)]
   rw[SV]at a5;rw[a1,af,ag,aBb rfl];simp only[a2,af,fh,ik j (by omega),a3,a4,a5,dQ,aBw,aBR]
   have tI:0<G'.ck:=by
    have:=hI.free;rw[e0]at hf;omega
   have AP:pv<=qf:=by
    have hC:=hI.chain;cases I4 with
    |nil=>obtain⟨rfl,_⟩:=hC;exact aDD _
    |cons p pr=>obtain⟨rfl,_,hu,_⟩:=hC;exact qW hI.tg.pg.Vd hu
   have ha:=qu hI.tg.pg.Vd tI;refine(Wh hI.tg tI gx1 hI.g8 (by omega) (by omega) (fP _ (aAU _)).1 (fP _ (by omega)).1 (fP _ (by omega)).2 (by omega) (d:=(v.drop (j*480)).take 480) (by rw[aBh];omega) AP).mono ?_;rintro _ s9 ⟨rfl,k9,t9,g9⟩;have e5:aj .neq (some .int) true (I 0) (.int .i64 0) s9= .ok (.bool false) s9:=rfl;have e6:aj .sub none true (I j) (.int .i64 1) s9= .ok (I ((j:Int)-1)) s9:=by rw[av,dJ,bD (by omega)]
   simp only[e5,af,ag,aAR,aBf,e6];have akD:∀x∈I4,G'.bL x:=hI.chain.aE;have QJ:G'.dG∉I4:=fun hh=>ha.not (akD _ hh);have tf:(v.drop (j*480)).drop 480=v.drop ((j+1)*480):=by rw[aDk];congr 1;omega
   refine next j _ _ (by omega) ⟨rfl,G'.alloc.put G'.dG (.dL pv ((v.drop (j*480)).take 480)),G'.dG::I4,G'.dG,t9,g9,⟨rfl, ?_,(ha.bL _).2 (.inr rfl),pv,jP _ _ _,AP, ?_⟩,by rw[aBt];omega,aBi.2 ⟨QJ,hI.nd⟩, ?_, ?_,ha.root.trans hI.root, ?_,ha.aE.trans hI.aE,hI.kp.trans k9 (fun q hq=> .inl hq),aCq (BV G') hI.frl⟩
   ·intro e;have:=congrArg List.length e;rw[aBo]at this;simp at this;omega
   ·rw[tf];exact hI.chain.kept ((uj ha QJ).trans (kU QJ))
   ·intro x hx;rcases aAX.1 hx with rfl|hx
    ·intro hu;have:=((hI.kept [G'.dG] (by simpa using hu)) G'.dG (by simp)).1 hu;exact ha.not this
    ·exact hI.new x hx
   ·intro qs Xg;have h1:=hI.kept qs Xg;have hq:G'.dG∉qs:=fun hh=>ha.not ((h1 _ hh).1 (Xg _ hh));exact(h1.trans (uj ha hq)).trans (kU hq)
   ·have h1:=ha.free;have h2:=hI.free;rw[aBt];show G'.alloc.ck+_=_;omega
  ·have US:fu=0:=by omega
   subst US;have a1:aj .geq none true (I (((0:Nat):Int)-1)) (.int .i64 0) s= .ok (.bool false) s:=rfl;have mP:bJ [.str [], .str [], .int .i64 0, .int .i64 0] [(0,1, .str key),(2,1,I pv),(3,1,I v.length)] s= .ok (.agg (aQ ⟨key,[],pv,v.length⟩)) s:=rfl;have kg:bt [.str [], .str [], .int .i64 0, .int .i64 0] 0 (aQ ⟨key,[],pv,v.length⟩)=aQ ⟨key,[],pv,v.length⟩:=dV _ _ rfl;rw[a1,af,ag,aAZ (by decide),az,hI.g8,ar,aAQ,au,fh,af,mP,af,aH,gx2,aS,aU,kg];refine⟨⟨rfl,rfl,by simp⟩, ?_⟩;rw[aO (n:=4) (ao _ _ _) rfl,af];have k9:Kp [s1.next] s (St.set s s1.next (.cells (aQ ⟨key,[],pv,v.length⟩) 109 false)):=(Kp.refl _ s).set _ (.inl (by simp)) (by omega);have hC:=hI.chain;rw[aDE,aBx]at hC
   have Xj:pv≠0/\pv<=qf:=by
    cases I4 with
    |nil=>obtain⟨_,h2⟩:=hC;rw[h2]at Mh;simp at Mh
    |cons p pr=>obtain⟨rfl,_,hu,_⟩:=hC;exact⟨by have:=hu.1;omega,qW hI.tg.pg.Vd hu⟩
   refine⟨((jf.mono (by simp)).trans hI.kp fun q hq=> ?_).trans k9 (by intro q hq;simp at hq;right;omega),⟨key,[],pv,v.length⟩,G',I4,rfl,rfl,⟨hk,fun h=>(by cases h),fun _ h=>absurd h Xj.1,fun _ _=>⟨rfl,Xj.2,by show 1<=v.length;omega,by show v.length<=2147483647;omega⟩⟩,⟨hI.tg.pg.Vd, .inr ⟨Xj.1,rfl,by omega,hv,hC⟩,hI.nd,hI.new,hI.kept,hI.root,by rw[e0,<-hI.free];omega,hI.aE,hI.frl⟩,hI.tg.vo k9 fun b hb=> ?_⟩
   ·rcases aAX.1 hq with rfl|hq
    ·right;omega
    ·exact .inl hq
   ·simp at hb;subst hb;exact fP _ (by omega)
end
section
variable {τ:Nat} {π:PI} {st st':St} {G:GM}
theorem dN.len {X:List Nat}{x:CV}{l:List cE}(h:dN st X x l)(s:St):bo .slice x s= .ok (I l.length) s:=by
 obtain⟨rows,a,b⟩:=h;rw[a.len rows.length (fA b.w) (by omega) s,b.len]
theorem dN.row {X:List Nat}{x:CV}{l:List cE}(h:dN st X x l){i:Nat}(hi:i<l.length):∃vc vk,Sl st X vc 4 (bj l[i].n.cells)/\Sl st X vk 1 (bU l[i].n.kids)/\∀Q:CV->Prop,Q (.agg [I l[i].page,I l[i].at_, .bool l[i].n.leaf,vc,vk])->Lim.jG 5 5 x (I i) st Q:=by
 obtain⟨rows,a,b⟩:=h;obtain⟨fw,vc,vk,e,c,d⟩:=b.at hi;refine⟨vc,vk,c,d,fun Q hQ=> ?_⟩;refine a.jG (by omega) b.w fw Q ?_;rw[e];exact hQ
theorem jI.size {key:bZ}{f:cE}{rest:List cE}{L:List bB}(h:jI G key f rest L):f.n.cells.length<=512/\f.n.ok/\f.n.leaf=true/\f.at_=f.n.find key/\f.at_<=f.n.cells.length:=by
 obtain⟨lo,hi,Ll,Lr,Lm,ps,q,h1,h2,h3,h4,h5,h6,h7,h8⟩:=h;have:=dZ f.n.leaf f.n.cells;have hs:=h2.size;rw[bS]at hs;exact⟨by omega,h2.ok,h3.leaf,h8,by rw[h8];exact aDf⟩
theorem jY {s:St}{p a:Nat}{leaf:Bool}{vc vk:CV}{K:CV->St->Prop}(h1:cq vc=true)(h2:cq vk=true)(hK:K (.ptr s.next 0) (St.new s (.cells [I p,I a, .bool leaf,vc,vk] 107 false))):
 upon (dD 107 [.int .i64 0, .int .i64 0, .bool false, .ae, .ae] s) fun x s2=>upon (aR 5 x (.agg [I p,I a, .bool leaf,vc,vk]) s2) fun _ s3=>K x s3:=rq rfl rfl (by simp[h1,h2]) hK
theorem Yf (h:Tg τ π st G){L:List bB}(ht:fv G L)(key:bZ):R 13 [.ptr τ 0, .str key] st fun x st'=>Kp [] st st'/\x=if 48<key.length then .tuple [.str [], .bool false,I 1]else .tuple [.str ((l5 L key).getD []), .bool (l5 L key).isSome,I 0]:=by
 refine bO ?_;rw[w13];have e0:aj .gtr none true (I key.length) (.int .i64 48) st= .ok (.bool (decide (48<key.length))) st:=by rw[av,dj];congr 2;simp only[aBu];omega
 rw[cX,af,ag,aAZ (by decide),fh,af,e0,af,ag]
 by_cases JK:48<key.length
 ·rw[aBc JK,aBb rfl,aBb JK];exact⟨Kp.refl _ _,rfl⟩
 ·rw[aAW JK,aAZ (by decide),aAZ JK];refine(xX h ht key).mono ?_;rintro _ s1 ⟨k1,x,rfl,hx⟩;have t1:=h.still k1;have e1:aj .neq (some .int) true (I 0) (.int .i64 0) s1= .ok (.bool false) s1:=rfl;simp only[aD,aJ,af,e1,aG,aAR,aBf,aBk,bh];rcases hx with⟨pB,rfl⟩|⟨f,rest,hp,vu,hst⟩
  ·have hL:L=[]:=by
    rcases ht.tree with h|⟨hh,ps,_,hs⟩
    ·exact h.2
    ·obtain⟨n,q,hn,_⟩:=hs;have:=hn.bL.1;omega
   subst hL;have e2:aj .eql (some .int) true (.int .i64 0) (.int .i64 0) s1= .ok (.bool true) s1:=rfl;simp only[rk,af,e2,aF,aAR,aBf,ag,aBr];exact⟨k1,rfl⟩
  ·obtain⟨oF,pD,fp,nR,wz⟩:=hp.size;have OE:=hst [] (by simp);have tH:(rest.reverse++[f]).length=rest.length+1:=by simp
   have hlen:=OE.len s1;rw[tH]at hlen;have e2:aj .eql (some .int) true (I ((rest.length+1:Nat):Int)) (.int .i64 0) s1= .ok (.bool false) s1:=by rw[av,cB,aAW (by omega)]
   have e3:=tV (rest.length+1) (by omega) (by omega) s1 none;rw[aCc]at e3;obtain⟨vc,vk,c1,c2,gw⟩:=OE.row (i:=rest.length) (by simp);have hf:(rest.reverse++[f])[rest.length]'(by simp)=f:=by simp
   rw[hf]at c1 c2 gw;simp only[hlen,af,e2,aF,aAR,aBf,ag,e3];refine gw _ ?_;refine jY c1.bu.2.1 c2.bu.2.1 ?_;have k3:Kp [] s1 (St.new s1 (.cells [I f.page,I f.at_, .bool f.n.leaf,vc,vk] 107 false)):=(Kp.refl [] s1).new _;have g3:(St.new s1 (.cells [I f.page,I f.at_, .bool f.n.leaf,vc,vk] 107 false)).mem.get s1.next=some (.cells [I f.page,I f.at_, .bool f.n.leaf,vc,vk] 107 false):=aq _ _;generalize St.new s1 (.cells [I f.page,I f.at_, .bool f.n.leaf,vc,vk] 107 false)=s3 at*;have t3:=t1.still k3;have Rb:=c1.mono k3;have jf:Kp [] st s3:=k1.trans k3 (by simp);obtain⟨lo,hi,Ll,Lr,ps,Lt,pt,Ld,pd,hA⟩:=hp.yY;have e4:aj .eql (some .int) false (I f.at_) (I f.n.cells.length) s3= .ok (.bool (decide (f.at_=f.n.cells.length))) s3:=by rw[av,cB];congr 2;simp only[aBu];omega
   simp only[fl,ah,af,az,g3,ar,aAT,Nat.reduceAdd,aAS,aAQ,au,Rb.len f.n.cells.length (br _) (by omega) s3,e4]
   by_cases Dt:f.at_=f.n.cells.length
   ·obtain⟨_,qJ,_⟩:=hA.E5 (fun c hc=>by rw[Dt,aBL (aAU _)]at hc;cases hc);rw[aBc Dt,qJ];simp only[aG,aAR,aBf,aBm,cc,af,iU,gM,aF,aBr,ag];exact⟨jf,rfl⟩
   ·have hlt:f.at_<f.n.cells.length:=by omega
    rw[aAW Dt];obtain⟨b,p,l,t,g,q1,q2,q3,q4,q5⟩:=Rb.cellAt (L:=f.n.cells.map aQ) (by omega) (eV _) (i:=f.at_) (by simpa using hlt);have q6:=q5 0 (.str f.n.cells[f.at_].key) (by simp[aQ]);rw[aBJ]at q6;simp only[aG,aAR,aBf,aBk,bh,af,iU,gM,ah,az,g3,ar,aAT,aBJ,Nat.reduceAdd,aAS,aAQ,au,q1,q2,q6,eT,nq,aF,ag]
    by_cases hk:f.n.cells[f.at_].key=key
    ·obtain⟨w,po,vQ,Ah,v1,v2,v3,v4,v5,v6⟩:=hA.found (aAV hlt) hk;rw[aBc hk,aBm,aAZ (by decide)];refine Rb.jG (L:=f.n.cells.map aQ) (by omega) (eV _) (by simpa using hlt) _ ?_;have e:(f.n.cells.map aQ)[f.at_]'(by simpa using hlt)=aQ f.n.cells[f.at_]:=by simp
     rw[e];have vU:=pD.cell _ (aBq hlt);rw[fp]at vU;refine(DY t3 vU v1).mono ?_;rintro _ s4 ⟨rfl,k4⟩;have e5:aj .eql (some .int) true (I 0) (.int .i64 0) s4= .ok (.bool true) s4:=rfl;simp only[aD,aJ,af,e5];rw[v6];exact⟨jf.trans k4 (by simp),rfl⟩
    ·obtain⟨_,qJ,_⟩:=hA.E5 (fun c hc=>by rw[aAV hlt]at hc;cases hc;exact hk);rw[aAW hk,aBk,aBb rfl,qJ];exact⟨jf,rfl⟩
end
section
variable {τ:Nat} {π:PI} {st st':St} {G:GM}
theorem Sl.xV {X:List Nat}{v:CV}{k n m:Nat}{L:List CV}(hs:Sl st X v k L)(hk:0<k)(hn:L.length=n*k)(h0:0<n)(hm:m<=n)(s:St):∃v',iz k v none (I m) (I m) s= .ok v' s/\Sl st X v' k (L.take (m*k)):=by
 rcases hs with⟨rfl,rfl⟩|⟨b,off,len,cap,grow,rfl,g2,g3,g4⟩
 ·have:0<n*k:=Nat.mul_pos h0 hk;simp at hn;omega
 ·have:len=n:=aBX hk (by rw[<-g2,hn]);subst this;have SE:m*k<=len*k:=aBM k hm
  have e:iz k (.slice b off len cap grow) none (I m) (I m) s=(if m=0 then .ok (.slice b off 0 0 0) s else .ok (.slice b off m m 0) s):=by
   unfold iz;dsimp only;rw[sS,aBb (by omega)];dsimp only;rw[sR,aBb (aAU _)];simp only[dE,aM,aBS,aBy,aBB];rw[aBb (.inr (by omega))];have e1:Nat.sub m 0=m:=rfl;have e2:Nat.add off (Nat.mul 0 k)=off:=by simp
   rw[e1,e2]
   by_cases K0:m=0
   ·rw[aBb K0,aBb K0,K0]
   ·rw[aAZ K0,aAZ K0]
  rw[e]
  by_cases K0:m=0
  ·subst K0;exact⟨_,by rw[aBb rfl], .inr ⟨b,off,0,0,0,rfl,by simp,⟨aAU _, .inl rfl⟩, .inl rfl⟩⟩
  ·rw[aAZ K0];refine⟨_,rfl, .inr ⟨b,off,m,m,0,rfl,by rw[aBh];omega,⟨aAU _, .inl rfl⟩, ?_⟩⟩;rcases g4 with g4|⟨g5,g6,c,t,g,g7,g8,g9⟩
   ·omega
   ·exact .inr ⟨g5,g6,c,t,g,g7,by omega,by rw[<-g9,aCh,aBH SE]⟩
theorem dC.take {X:List Nat}{rs:List (List CV)}{l:List cE}(h:dC st X rs l)(i:Nat):dC st X (rs.take i) (l.take i):=by
 induction rs generalizing l i with
 |nil=>cases l with|nil=>simp[dC]|cons s l=>exact h.elim
 |cons r rs ih=>cases l with
  |nil=>exact h.elim
  |cons s l=>cases i with
   |zero=>trivial
   |succ i=>exact⟨h.1,ih h.2 i⟩
theorem dN.xV {X:List Nat}{x:CV}{l:List cE}(h:dN st X x l)(h0:0<l.length){m:Nat}(hm:m<=l.length)(s:St):∃x',iz 5 x none (I m) (I m) s= .ok x' s/\dN st X x' (l.take m):=by
 obtain⟨rows,a,b⟩:=h;have hl:=b.len;obtain⟨v',p1,p2⟩:=a.xV (by omega) (fA b.w) (by omega) (m:=m) (by omega) s;rw[sI b.w m (by omega)]at p2;exact⟨v',p1,_,p2,b.take m⟩
theorem dN.hi {X:List Nat}{x:CV}{l:List cE}(h:dN st X x l){m:Nat}(hm:m<=l.length)(s:St):∃x',aN 5 x none (some (I m)) s= .ok x' s/\dN st X x' (l.take m):=by
 obtain⟨rows,a,b⟩:=h;have hl:=b.len;obtain⟨v',p1,p2⟩:=a.hi (by omega) (fA b.w) (h:=m) (by omega) s;rw[sI b.w m (by omega)]at p2;exact⟨v',p1,_,p2,b.take m⟩
theorem qb {s:St}{leaf:Bool}{vc vk:CV}{K:CV->St->Prop}(h1:cq vc=true)(h2:cq vk=true)(hK:K (.ptr s.next 0) (St.new s (.cells [.bool leaf,vc,vk] 105 false))):
 upon (dD 105 [.bool false, .ae, .ae] s) fun x s2=>upon (aR 3 x (.agg [.bool leaf,vc,vk]) s2) fun _ s3=>K x s3:=rq rfl rfl (by simp[h1,h2]) hK
def BX (τ:Nat)(π:PI)(G:GM)(LL:List bB)(st:St)(y:CV)(st':St):Prop:=y=I 0/\Kp π.W st st'/\∃G',Tg τ π st' G'/\fv G' LL/\G'.aE=G.aE
theorem fx {s:St}{b:Nat}{n:aZ}{vc vk:CV}{K:CV->Prop}(hg:s.mem.get b=some (.cells [.bool n.leaf,vc,vk] 105 false))(hK:K (.agg [.bool n.leaf,vc,vk])):us (aI 3 (.ptr b 0) s) K:=by
 rw[aO (n:=3) hg rfl,af];exact hK
theorem VK:∀(m:Nat) (rest:List cE),rest.length=m->∀{st:St} {G:GM} {f:cE} {n:aZ} {h:Nat} {x v:CV} {LL:List bB},Tg τ π st G->xJ G h f.page rest n LL->(n.leaf=true\/n.cells≠[])->n.size<=640->rest.length+2<=G.ck->
 dN st π.W x (rest.reverse++[f])->IsNode st π.W v n->rest.length<=16->R 104 [.ptr τ 0,x,v] st (BX τ π G LL st):=by
 intro m
 induction m using Nat.strongRecOn with
 |_ m ih=>
  intro rest hm st G f n h x v LL ht hg iR hsz jy hst hv vu;have mu:=ht.LR;have yc:=hv;obtain⟨vc,vk,rfl,Me,JC⟩:=hv
  have oF:n.cells.length<=640:=by
   have:=dZ n.leaf n.cells;rw[bS]at hsz;omega
  refine bO ?_;rw[aad];rw[cr,aU];refine⟨rfl, ?_⟩;have k1:Kp [] st (St.new st (.cells [.bool n.leaf,vc,vk] 105 false)):=(Kp.refl [] st).new _;have g1:(St.new st (.cells [.bool n.leaf,vc,vk] 105 false)).mem.get st.next=some (.cells [.bool n.leaf,vc,vk] 105 false):=aq _ _;have n1:(St.new st (.cells [.bool n.leaf,vc,vk] 105 false)).next=st.next+1:=rfl;generalize St.new st (.cells [.bool n.leaf,vc,vk] 105 false)=s1 at*;have gh:=hst.mono (k1.mono (by simp));have tH:(rest.reverse++[f]).length=rest.length+1:=by simp
  have e3:∀s,aj .sub none true (I ((rest.length+1:Nat):Int)) (.int .i64 1) s= .ok (I rest.length) s:=fun s=>by
   have:=tV (rest.length+1) (by omega) (by omega) s none
   rwa [aCc]at this
  obtain⟨yk,yj,c1,c2,gw⟩:=gh.row (i:=rest.length) (by simp);have hf:(rest.reverse++[f])[rest.length]'(by simp)=f:=by simp
  rw[hf]at c1 c2 gw;have hlen:=fun s=>hst.len s;rw[tH]at hlen;simp only[hlen,af,e3];refine gw _ ?_;refine jY c1.bu.2.1 c2.bu.2.1 ?_;have k3:Kp [] s1 (St.new s1 (.cells [I f.page,I f.at_, .bool f.n.leaf,yk,yj] 107 false)):=(Kp.refl [] s1).new _;have g3:(St.new s1 (.cells [I f.page,I f.at_, .bool f.n.leaf,yk,yj] 107 false)).mem.get s1.next=some (.cells [I f.page,I f.at_, .bool f.n.leaf,yk,yj] 107 false):=aq _ _;have n3:(St.new s1 (.cells [I f.page,I f.at_, .bool f.n.leaf,yk,yj] 107 false)).next=s1.next+1:=rfl;generalize St.new s1 (.cells [I f.page,I f.at_, .bool f.n.leaf,yk,yj] 107 false)=s3 at*;have jf:Kp [] st s3:=k1.trans k3 (by simp);have nH:=(k3.keep st.next (by omega) (by simp)).trans g1;have YZ:=gh.mono (k3.mono (by simp));obtain⟨dx,VZ,Hd⟩:=YZ.xV (by simp) (m:=rest.length) (by simp) s3
  have xf:(rest.reverse++[f]).take rest.length=rest.reverse:=by
   rw[aCm (by simp)]
  rw[xf]at Hd;have t3:=ht.still jf;simp only[VZ,af];refine fx nH ?_;refine(xR t3.fr ((yc.mono (jf.mono (by simp))).ef (by simp)) hg.HM (by omega)).mono ?_;rintro _ s4 ⟨rfl,k4⟩;have qK:Kp [] st s4:=jf.trans k4 (by simp);have n4:=k4.next;have JL:=(k4.keep st.next (by omega) (by simp)).trans nH;have Q0:=(k4.keep s1.next (by omega) (by simp)).trans g3;have t4:=ht.still qK;have v4:IsNode s4 π.W (.agg [.bool n.leaf,vc,vk]) n:=yc.mono (qK.mono (by simp));have TV:=Hd.mono (k4.mono (by simp));have e4:aj .leq none true (I n.size) (.int .i64 512) s4= .ok (.bool (decide (n.size<=512))) s4:=by rw[av,nt];congr 2;simp only[aBu];omega
  simp only[e4,af,ag];obtain⟨lo,hi,Ll,Lr,L,ps,q,vD,jT,iL,QZ⟩:=hg.ctx
  by_cases uu:n.size<=512
  ·rw[aBc uu,aBb rfl];simp only[fl,ah,af,az,Q0,ar,aAT,aAQ,au];refine fx JL ?_;refine(lr t4 hg.bL (v4.ef (by simp)) hg.HM uu).mono ?_;rintro _ s5 ⟨rfl,k5,t5⟩;refine⟨rfl,(qK.mono (by simp)).trans k5 fun q hq=> .inl hq,_,t5, ?_,rfl⟩;rw[<-QZ];exact vD.write hg.ok hg.bL hg.HM uu iR jT iL
  ·rw[aAW uu,aAZ (by decide)];obtain⟨i,FC,H⟩:=PZ hg.HM (by omega) (by omega)
   have O2:cz n<n.cells.length:=by
    have:=H.lt;unfold cz;cases fp:n.leaf with
    |false=>simp;omega
    |true=>
     rw[aBb rfl];have hA:=H.Y6;rcases H.eqs with⟨_,e,_⟩|⟨h,_⟩
     ·rw[e]at hA
      have:0<i:=by
       rcases Nat.eq_zero_or_pos i with h0|h0
       ·exact absurd (by show n.cells.take i=[];rw[h0,aCI]) hA
       ·exact h0
      omega
     ·rw[fp]at h;cases h
   refine fx JL ?_;refine(Qs t4.fr (v4.ef (by simp)) hg.HM (by omega) O2).mono ?_;rintro _ s6 ⟨xa,xb,rfl,k6,hxa,hxb⟩;generalize amr:wD n=cu at*;obtain⟨a,sp,b⟩:=cu;simp only at H hxa hxb;have n6:=k6.next;have Dp:Kp [] st s6:=qK.trans k6 (by simp);have adE:∀q∈π.W,q<s4.next:=fun q hq=>by have:=mu q hq;have:=qK.next;omega
   have rH:∀q,st.next<=q->q∉π.W:=fun q hq hh=>by have:=mu q hh;omega
   obtain⟨ca,ka,rfl,Z2,Z1⟩:=hxa π.W adE;obtain⟨cb,kb,rfl,Z0,ZZ⟩:=hxb π.W adE;obtain⟨za1,za2,za3⟩:=Z2.bu;obtain⟨zb1,zb2,zb3⟩:=Z1.bu;obtain⟨zc1,zc2,zc3⟩:=Z0.bu;obtain⟨zd1,zd2,zd3⟩:=ZZ.bu;have yy:(St.new s6 (.cells [.bool false, .ae, .ae] 105 false)).next=s6.next+1:=rfl;simp only[aD,aJ,af];rw[cM,aT,cM,aT,yy];have kA:Kp [] s6 (St.new (St.new s6 (.cells [.bool false, .ae, .ae] 105 false)) (.cells [.bool false, .ae, .ae] 105 false)):=((Kp.refl [] s6).new _).new _;have ZN:(St.new (St.new s6 (.cells [.bool false, .ae, .ae] 105 false)) (.cells [.bool false, .ae, .ae] 105 false)).mem.get s6.next=some (.cells [.bool false, .ae, .ae] 105 false):=(aW _ _ _ (by simp)).trans (aq _ _);have ZM:(St.new (St.new s6 (.cells [.bool false, .ae, .ae] 105 false)) (.cells [.bool false, .ae, .ae] 105 false)).mem.get (s6.next+1)=some (.cells [.bool false, .ae, .ae] 105 false):=aq (St.new s6 (.cells [.bool false, .ae, .ae] 105 false)) _;have nA:(St.new (St.new s6 (.cells [.bool false, .ae, .ae] 105 false)) (.cells [.bool false, .ae, .ae] 105 false)).next=s6.next+2:=rfl;generalize St.new (St.new s6 (.cells [.bool false, .ae, .ae] 105 false)) (.cells [.bool false, .ae, .ae] 105 false)=s8 at*;have kg:∀a b c:CV,bt [.bool false, .ae, .ae] 0 [a,b,c]=[a,b,c]:=fun a b c=>rfl;rw[aH,ZN,aS,aU,kg];refine⟨⟨rfl,by simp[za2,zb2],by simp⟩, ?_⟩;rw[aH,ak _ _ _ _ (by omega),ZM,aS,aU,kg];refine⟨⟨rfl,by simp[zc2,zd2],by simp⟩, ?_⟩;have kB:Kp [] s6 (St.set (St.set s8 s6.next (.cells [.bool a.leaf,ca,ka] 105 false)) (s6.next+1) (.cells [.bool b.leaf,cb,kb] 105 false)):=(kA.set _ (.inr (aAU _)) (by omega)).set _ (.inr (by omega)) (by simp;omega);have gB1:(St.set (St.set s8 s6.next (.cells [.bool a.leaf,ca,ka] 105 false)) (s6.next+1) (.cells [.bool b.leaf,cb,kb] 105 false)).mem.get s6.next=some (.cells [.bool a.leaf,ca,ka] 105 false):=(ak _ _ _ _ (by omega)).trans (ao _ _ _)
   have gB2:(St.set (St.set s8 s6.next (.cells [.bool a.leaf,ca,ka] 105 false)) (s6.next+1) (.cells [.bool b.leaf,cb,kb] 105 false)).mem.get (s6.next+1)=some (.cells [.bool b.leaf,cb,kb] 105 false):=ao _ _ _;have nB:(St.set (St.set s8 s6.next (.cells [.bool a.leaf,ca,ka] 105 false)) (s6.next+1) (.cells [.bool b.leaf,cb,kb] 105 false)).next=s6.next+2:=nA;generalize St.set (St.set s8 s6.next (.cells [.bool a.leaf,ca,ka] 105 false)) (s6.next+1) (.cells [.bool b.leaf,cb,kb] 105 false)=dd at*;have oN:Kp [] st dd:=Dp.trans kB (by simp);have abg:Kp [] s4 dd:=k6.trans kB (by simp);have Iq:=(abg.keep s1.next (by omega) (by simp)).trans Q0;have t10:=ht.still oN;have ajt:IsNode dd π.W (.agg [.bool a.leaf,ca,ka]) a:=⟨ca,ka,rfl,Z2.mono (kB.mono (by simp)),Z1.mono (kB.mono (by simp))⟩;have ajr:IsNode dd π.W (.agg [.bool b.leaf,cb,kb]) b:=⟨cb,kb,rfl,Z0.mono (kB.mono (by simp)),ZZ.mono (kB.mono (by simp))⟩;simp only[fl,ah,af,az,Iq,ar,aAT,aAQ,au];refine fx gB1 ?_;refine(lr t10 hg.bL (ajt.ef (by simp)) H.V5 H.szA).mono ?_;rintro _ dm ⟨rfl,pJ,t11⟩;have R9:=pJ.next;have e5:∀s,aj .neq (some .int) true (I 0) (.int .i64 0) s= .ok (.bool false) s:=fun s=>rfl;have anK:=(pJ.keep (s6.next+1) (by omega) (rH _ (by have:=Dp.next;omega))).trans gB2;simp only[e5,af,ag,aAR,aBf];refine fx anK ?_;have XI:0<(G.put f.page (.node a)).ck:=by rw[yG];omega
   have xm:=JY (hg.ok.put f.page (.node a)) XI H.okB H.szB (.inr H.neB);refine(xQ t11 XI (ajr.mono pJ) H.okB H.szB).mono ?_;rintro _ bY ⟨rfl,qI,t12⟩;generalize hr:(G.put f.page (.node a)).dG=r at*;generalize hG2:(G.put f.page (.node a)).alloc.put r (.node b)=G2 at*;have Od:=qI.next;have Dq:Kp π.W st bY:=((oN.mono (by simp)).trans pJ fun q hq=> .inl hq).trans qI fun q hq=> .inl hq;have Um:Kp π.W dd bY:=pJ.trans qI fun q hq=> .inl hq;have anV:=(Um.keep s1.next (by have:=oN.next;omega) (rH _ (by omega))).trans Iq;have aaq:dN bY π.W dx rest.reverse:=(TV.mono (abg.mono (by simp))).mono Um;have acE:=aaq.len bY;rw[List.length_reverse]at acE;have hrm:=qW xm.ok xm.is.bL;have e6:aj .eql (some .int) true (I rest.length) (.int .i64 0) bY= .ok (.bool (decide (rest.length=0))) bY:=by rw[av,cB];congr 2;simp only[aBu];omega
   simp only[aD,aJ,af,e5,ag,aAR,aBf,acE,e6];have AM:sp.length<=48:=by rw[H.key];exact(hg.HM.cell _ (aBq ..)).key
   cases rest with
   |nil=>
    obtain⟨_,rfl,rfl,rfl,rfl,rfl⟩:=(show f.page=G.root/\lo=[]/\hi=none/\Ll=[]/\Lr=[]/\ps=[]from vD);rw[aBb (show decide (([]:List cE).length=0)=true from rfl)];have mP:bJ [.str [], .str [], .int .i64 0, .int .i64 0] [(0,1, .str sp)] bY= .ok (.agg (aQ (fL sp))) bY:=rfl;rw[mP,af,rT (k:=4) rfl rfl rfl,aT];have pI:Kp [] bY (St.new bY (.cells (CV.agg (aQ (fL sp))).cK 109 false)):=(Kp.refl [] bY).new _;have Is:(St.new bY (.cells (CV.agg (aQ (fL sp))).cK 109 false)).mem.get bY.next=some (.cells (aQ (fL sp)) 109 false):=aq _ _;have n13:(St.new bY (.cells (CV.agg (aQ (fL sp))).cK 109 false)).next=bY.next+1:=rfl;generalize St.new bY (.cells (CV.agg (aQ (fL sp))).cK 109 false)=eh at*;have anU:=(pI.keep s1.next (by omega) (by simp)).trans anV;have Mf:bT 3 2 (cO 2 [.int .i64 0]) [(0,1,I f.page),(1,1,I r)] eh= .ok (.slice eh.next 0 2 2 0) (St.new eh (.cells [I f.page,I r] 3 false)):=rfl;simp only[az,anU,ar,aAQ,au,Mf,aT];have zd:Kp [] eh (St.new eh (.cells [I f.page,I r] 3 false)):=(Kp.refl [] eh).new _;have aob:(St.new eh (.cells [I f.page,I r] 3 false)).mem.get eh.next=some (.cells [I f.page,I r] 3 false):=aq _ _;have n14:(St.new eh (.cells [I f.page,I r] 3 false)).next=eh.next+1:=rfl;generalize St.new eh (.cells [I f.page,I r] 3 false)=fe at*;have aoc:=(zd.keep bY.next (by omega) (by simp)).trans Is;have Lg:bJ [.bool false, .ae, .ae] [(1,1, .slice bY.next 0 1 1 0),(2,1, .slice eh.next 0 2 2 0)] fe= .ok (.agg [.bool false, .slice bY.next 0 1 1 0, .slice eh.next 0 2 2 0]) fe:=rfl;rw[Lg,af];have acK:=Dq.next;have t14:=(t12.still pI).still zd
    have vt:IsNode fe π.W (.agg [.bool false, .slice bY.next 0 1 1 0, .slice eh.next 0 2 2 0]) ⟨false,[fL sp],[f.page,r]⟩:=
     ⟨_,_,rfl, .inr ⟨bY.next,0,1,1,0,rfl,rfl,⟨aAU _, .inl rfl⟩, .inr ⟨rH _ (by omega),by omega,_,_,_,aoc,by simp[aQ],rfl⟩⟩, .inr ⟨eh.next,0,2,2,0,rfl,rfl,⟨aAU _, .inl rfl⟩, .inr ⟨rH _ (by omega),by omega,_,_,_,aob,by simp,rfl⟩⟩⟩
    have hpm:=qW hg.ok hg.bL;have pD:aZ.ok ⟨false,[fL sp],[f.page,r]⟩:=⟨fun c hc=>by simp at hc;subst hc;exact sq AM,by unfold iw;simp,rfl,fun k hk=>by simp at hk;rcases hk with rfl|rfl<;>assumption⟩
    have acb:aZ.size ⟨false,[fL sp],[f.page,r]⟩<=512:=by
     rw[bS];have h1:=(hU (sq AM)).2.2 rfl;have h2:=(jC f.page hpm).2;have h3:=(jC r hrm).2;have h4:(uv ([fL sp]:List da).length).length=1:=ey (by simp);simp only[h4,aAR,aBf];have h5:(cJ false [fL sp]).length=(gW false (fL sp)).length:=by simp[cJ]
     have h6:(eK [f.page,r]).length=(uv f.page).length+(uv r).length:=by simp[eK]
     rw[h5,h6];omega
    have Ii:0<G2.ck:=by have:=xm.free;rw[yG]at this;simp at jy;omega
    have Ya:=JY xm.ok Ii pD acb (.inr (by simp));refine(xQ t14 Ii vt pD acb).mono ?_;rintro _ fZ ⟨rfl,nQ,t15⟩;simp only[aD,aJ,af,e5,ag,aAR,aBf];refine t15.get' ?_;refine(pe t15.pg _ (.inr Ya.is.bL)).mono ?_;rintro _ cD ⟨rfl,E7,p16⟩;refine⟨rfl, ?_,_,t15.of E7 p16, ?_, ?_⟩
    ·exact((((Dq.trans pI (by simp)).trans zd (by simp)).trans nQ fun q hq=> .inl hq).trans E7 fun q hq=> .inl hq)
    ·rw[<-QZ];simp only[aBw,aBQ]at iL⊢;exact He hg.ok hg.bL hg.HM H jT iL xm Ya
    ·have h1:=Ya.aE;have h2:=xm.aE;exact h1.trans h2
   |cons sm fM=>
    rw[aAW (by simp),aAZ (by decide)];obtain⟨m1,m2,m3,m4,m5,kG,fw,xI,xH,L',nX,q',m6,m7,m8,m9⟩:=Kn vD hg.ok hg.bL hg.HM H jT iL xm;have ayD:=vD;obtain⟨_,_,_,_,_,_,_,_,_,_,KX,_,_,_⟩:=vD
    have abM:sm.n.cells.length<=512:=by
     have:=dZ sm.n.leaf sm.n.cells;have:=KX.size;rw[bS]at this;omega
    have WQ:=KX.ok.iQ;rw[m2,aAZ (by decide)]at WQ
    have e7:aj .sub none true (I (sm::fM).length) (.int .i64 1) bY= .ok (I fM.length) bY:=by
     have:=tV (sm::fM).length (by simp at vu⊢;omega) (by simp) bY none
     simpa using this
    have TU:dN bY π.W dx (fM.reverse++[sm]):=by simpa using aaq
    obtain⟨pM,mH,d1,d2,Fb⟩:=TU.row (i:=fM.length) (by simp);have XN:(fM.reverse++[sm])[fM.length]'(by simp)=sm:=by simp
    rw[XN,m2]at Fb;rw[XN]at d1 d2;rw[e7,af];refine Fb _ ?_;refine jY d1.bu.2.1 d2.bu.2.1 ?_;have L7:Kp [] bY (St.new bY (.cells [I sm.page,I sm.at_, .bool false,pM,mH] 107 false)):=(Kp.refl [] bY).new _;have Tj:(St.new bY (.cells [I sm.page,I sm.at_, .bool false,pM,mH] 107 false)).mem.get bY.next=some (.cells [I sm.page,I sm.at_, .bool false,pM,mH] 107 false):=aq _ _;have n18:(St.new bY (.cells [I sm.page,I sm.at_, .bool false,pM,mH] 107 false)).next=bY.next+1:=rfl;generalize St.new bY (.cells [I sm.page,I sm.at_, .bool false,pM,mH] 107 false)=cC at*
    have Dr:∀K:CV->Prop,K (.agg [.bool false,pM,mH])->JM 3 2 (.ptr bY.next 0) cC K:=fun K hK=>by
     unfold JM;rw[ah,af,gq (n:=3) Tj (by simp),af];exact hK
    refine Dr _ ?_;refine qb d1.bu.2.1 d2.bu.2.1 ?_;have Oq:Kp [] cC (St.new cC (.cells [.bool false,pM,mH] 105 false)):=(Kp.refl [] cC).new _;have g20:(St.new cC (.cells [.bool false,pM,mH] 105 false)).mem.get cC.next=some (.cells [.bool false,pM,mH] 105 false):=aq _ _;have n20:(St.new cC (.cells [.bool false,pM,mH] 105 false)).next=cC.next+1:=rfl;generalize St.new cC (.cells [.bool false,pM,mH] 105 false)=jn at*;have aeu:=(Oq.keep bY.next (by omega) (by simp)).trans Tj;have ze:Kp [] bY jn:=L7.trans Oq (by simp);have acY:cT jn:=ze.fresh t12.fr;rw[bG];have HP:Kp [] jn (St.skip jn):=(Kp.refl [] jn).skip;have iq:(St.skip jn).mem.get jn.next=none:=acY _ (aAU _);have nsk:(St.skip jn).next=jn.next+1:=rfl;have Td:(St.skip jn).mem.get cC.next=some (.cells [.bool false,pM,mH] 105 false):=g20;have aea:(St.skip jn).mem.get bY.next=some (.cells [I sm.page,I sm.at_, .bool false,pM,mH] 107 false):=aeu;generalize St.skip jn=sk at*;have abl:Kp [] bY sk:=ze.trans HP (by simp);simp only[ah,af,az,Td,ar,aAT,aAS,aAQ,au];refine(sO ((d1.ef (Y:=[]) (by simp)).mono abl) (dK _) (by rw[br];omega)).mono ?_;rintro uz fm ⟨F1,wu,o1,Iv,_⟩;have n21:=wu.next;have aek:=(wu.keep bY.next (by omega) (by simp)).trans aea;have Ye:=(wu.keep cC.next (by omega) (by simp)).trans Td;have anm:fm.mem.get jn.next=none:=(wu.keep jn.next (by omega) (by simp)).trans iq;have mP:bJ [.str [], .str [], .int .i64 0, .int .i64 0] [(0,1, .str sp)] fm= .ok (.agg (aQ (fL sp))) fm:=rfl;simp only[aek,ar,aAS,aAQ,au,mP,af];rw[jb anm (Dz (k:=4) rfl rfl rfl),aT];have k22:Kp [jn.next] fm (St.set fm jn.next (.cells (CV.agg (aQ (fL sp))).cK 109 false)):=(Kp.refl _ fm).set _ (.inl (by simp)) (by omega);have Ti:(St.set fm jn.next (.cells (CV.agg (aQ (fL sp))).cK 109 false)).mem.get jn.next=some (.cells (aQ (fL sp)) 109 false):=ao _ _ _;have o22:Own (St.set fm jn.next (.cells (CV.agg (aQ (fL sp))).cK 109 false)) uz 4 109 (bj sm.n.cells) F1:=o1.mono fun b hb=>ak _ _ _ _ (by have:=(Iv b hb).1;omega)
    have anv:(St.set fm jn.next (.cells (CV.agg (aQ (fL sp))).cK 109 false)).mem.get cC.next=_:=(ak _ _ _ _ (by omega)).trans Ye;have aej:(St.set fm jn.next (.cells (CV.agg (aQ (fL sp))).cK 109 false)).mem.get bY.next=_:=(ak _ _ _ _ (by omega)).trans aek;have n22:(St.set fm jn.next (.cells (CV.agg (aQ (fL sp))).cK 109 false)).next=fm.next:=rfl;generalize St.set fm jn.next (.cells (CV.agg (aQ (fL sp))).cK 109 false)=Ag at*;refine(zg o22 (br _) (by omega) (fun b hb=>by have:=(Iv b hb).2;omega) Ti (fun hh=>by have:=(Iv _ hh).1;omega) rfl (dK _) (fk _) m1).mono ?_;rintro nT pU ⟨F2,o2,Zc,Yr⟩;have n23:=Zc.next;have OG:cC.next∉F1:=fun hh=>by have:=(Iv _ hh).1;omega
    have abT:bY.next∉F1:=fun hh=>by have:=(Iv _ hh).1;omega
    have anu:=(Zc.keep cC.next (by omega) OG).trans anv;have anA:=(Zc.keep bY.next (by omega) abT).trans aej
    have qF:∀b∈F2,jn.next<b/\b<pU.next:=fun b hb=>by
     obtain⟨p1,p2⟩:=Yr b hb;refine⟨?_,p2⟩;rcases p1 with h|h
     ·have:=(Iv b h).1;omega
     ·omega
    obtain⟨RY,NX⟩:=o2.cq;have akK:bt [.bool false,pM,mH] 1 [nT]=[.bool false,nT,mH]:=rfl
    have zG:(bj sm.n.cells).take (sm.at_*4)++(aQ (fL sp)++(bj sm.n.cells).drop (sm.at_*4))=bj (mr sm.n sm.at_ sp r).cells:=by
     rw[jg _ _ m1,jh _ _ m1];show _=bj (sm.n.cells.take sm.at_++fL sp::sm.n.cells.drop sm.at_);rw[gj]
     congr 1
    rw[zG]at o2;simp only[ah,af,aH,aAT,anu,aS,NX,akK,az,Td,aea,aej,ar,aAS,aAQ,au,aCV,and_true,iq];refine⟨⟨rfl,by simp[RY],by simp⟩, ?_⟩;have QE:Kp [cC.next] pU (St.set pU cC.next (.cells [.bool false,nT,mH] 105 false)):=(Kp.refl _ pU).set _ (.inl (by simp)) (by omega);have Lp:(St.set pU cC.next (.cells [.bool false,nT,mH] 105 false)).mem.get cC.next=some (.cells [.bool false,nT,mH] 105 false):=ao _ _ _;have anz:(St.set pU cC.next (.cells [.bool false,nT,mH] 105 false)).mem.get bY.next=_:=(ak _ _ _ _ (by omega)).trans anA;have n24:(St.set pU cC.next (.cells [.bool false,nT,mH] 105 false)).next=pU.next:=rfl;have o24:Own (St.set pU cC.next (.cells [.bool false,nT,mH] 105 false)) nT 4 109 (bj (mr sm.n sm.at_ sp r).cells) F2:=o2.mono fun b hb=>ak _ _ _ _ (by have:=(qF b hb).1;omega);have ajC:Kp [] bY pU:=((abl.trans wu (by simp)).trans k22 (by simp;omega)).trans Zc fun q hq=> .inr (by have:=(Iv q hq).1;omega);have abb:Kp [] bY (St.set pU cC.next (.cells [.bool false,nT,mH] 105 false)):=ajC.set _ (.inr (by omega)) (by omega);generalize St.set pU cC.next (.cells [.bool false,nT,mH] 105 false)=ix at*;have acX:cT ix:=abb.fresh t12.fr;have aba:Kp [] ix (St.skip ix):=(Kp.refl [] ix).skip;have Dh:(St.skip ix).mem.get ix.next=none:=acX _ (aAU _);have atX:(St.skip ix).next=ix.next+1:=rfl;have Yc:(St.skip ix).mem.get cC.next=_:=Lp;have adZ:(St.skip ix).mem.get bY.next=_:=anz;rw[bG];generalize St.skip ix=sl at*;have abk:Kp [] bY sl:=abb.trans aba (by simp);simp only[az,Yc,ar,aAS,aAQ,au];refine(zL ((d2.ef (Y:=[]) (by simp)).mono abk) (jc _) (by rw[py];omega)).mono ?_;rintro oe lM ⟨F3,Y8,o3,Yq,_⟩;have n25:=Y8.next;have aei:=(Y8.keep bY.next (by omega) (by simp)).trans adZ;have ant:=(Y8.keep cC.next (by omega) (by simp)).trans Yc;have anl:lM.mem.get ix.next=none:=(Y8.keep ix.next (by omega) (by simp)).trans Dh;simp only[aei,ar,aAS,aAQ,au,ik sm.at_ (by omega),af];have amc:fY [(0,1,I r)] (cO 1 [.int .i64 0])=some [I r]:=rfl;rw[jb anl amc,aT]
    have Zb:Kp [ix.next] lM (St.set lM ix.next (.cells [I r] 3 false)):=(Kp.refl _ lM).set _ (.inl (by simp)) (by omega);have Yn:(St.set lM ix.next (.cells [I r] 3 false)).mem.get ix.next=some (.cells [I r] 3 false):=ao _ _ _;have o26:Own (St.set lM ix.next (.cells [I r] 3 false)) oe 1 3 (bU sm.n.kids) F3:=o3.mono fun b hb=>ak _ _ _ _ (by have:=(Yq b hb).1;omega);have ans:(St.set lM ix.next (.cells [I r] 3 false)).mem.get cC.next=_:=(ak _ _ _ _ (by omega)).trans ant;have anx:(St.set lM ix.next (.cells [I r] 3 false)).mem.get bY.next=_:=(ak _ _ _ _ (by omega)).trans aei;have n26:(St.set lM ix.next (.cells [I r] 3 false)).next=lM.next:=rfl;have ajk:Own (St.set lM ix.next (.cells [I r] 3 false)) nT 4 109 (bj (mr sm.n sm.at_ sp r).cells) F2:=((o24.keep aba fun b hb=>⟨by have:=(qF b hb).2;omega,by simp⟩).keep Y8 fun b hb=>⟨by have:=(qF b hb).2;omega,by simp⟩).mono fun b hb=>ak _ _ _ _ (by have:=(qF b hb).2;omega);generalize St.set lM ix.next (.cells [I r] 3 false)=xT at*;refine(KU (n:=sm.n.kids.length) (i:=sm.at_+1) o26 (by simp) (by omega) (fun b hb=>by have:=(Yq b hb).2;omega) Yn (fun hh=>by have:=(Yq _ hh).1;omega) rfl (jc _) rfl (by omega)).mono ?_;rintro tT ua ⟨F4,o4,Wr,fF4⟩;have n27:=Wr.next;have aki:cC.next∉F3:=fun hh=>by have:=(Yq _ hh).1;omega
    have anr:=(Wr.keep cC.next (by omega) aki).trans ans
    have lF4:∀b∈F4,ix.next<b/\b<ua.next:=fun b hb=>by
     obtain⟨p1,p2⟩:=fF4 b hb;refine⟨?_,p2⟩;rcases p1 with h|h
     ·have:=(Yq b h).1;omega
     ·omega
    have ajj:Own ua nT 4 109 (bj (mr sm.n sm.at_ sp r).cells) F2:=ajk.keep Wr fun b hb=>⟨by have:=(qF b hb).2;omega,fun hh=>by have:=(Yq b hh).1;have:=(qF b hb).2;omega⟩;obtain⟨od1,od2⟩:=o4.cq;have akL:bt [.bool false,nT,mH] 2 [tT]=[.bool false,nT,tT]:=rfl
    have aeC:(bU sm.n.kids).take ((sm.at_+1)*1)++([I r]++(bU sm.n.kids).drop ((sm.at_+1)*1))=bU (mr sm.n sm.at_ sp r).kids:=by
     rw[aCF,uh,ui];show _=bU (sm.n.kids.take (sm.at_+1)++r::sm.n.kids.drop (sm.at_+1));rw[mO]
     congr 1
    rw[aeC]at o4;simp only[ah,af,aH,aAT,anr,aS,od2,akL,az,Yc,adZ,anx,ar,aAS,aAQ,au,aCV,and_true,Dh];refine⟨⟨rfl,by simp[od1],by simp⟩, ?_⟩;have ajB:Kp [] bY ua:=((abk.trans Y8 (by simp)).trans Zb (by simp;omega)).trans Wr fun q hq=> .inr (by have:=(Yq q hq).1;omega);have Wi:Kp [] bY (St.set ua cC.next (.cells [.bool false,nT,tT] 105 false)):=ajB.set _ (.inr (by omega)) (by omega);have ZR:(St.set ua cC.next (.cells [.bool false,nT,tT] 105 false)).mem.get cC.next=some (.cells [.bool (mr sm.n sm.at_ sp r).leaf,nT,tT] 105 false):=ao _ _ _;have aji:Own (St.set ua cC.next (.cells [.bool false,nT,tT] 105 false)) nT 4 109 (bj (mr sm.n sm.at_ sp r).cells) F2:=ajj.mono fun b hb=>ak _ _ _ _ (by have:=(qF b hb).1;omega);have aiY:Own (St.set ua cC.next (.cells [.bool false,nT,tT] 105 false)) tT 1 3 (bU (mr sm.n sm.at_ sp r).kids) F4:=o4.mono fun b hb=>ak _ _ _ _ (by have:=(lF4 b hb).1;omega);have n28:(St.set ua cC.next (.cells [.bool false,nT,tT] 105 false)).next=ua.next:=rfl;generalize St.set ua cC.next (.cells [.bool false,nT,tT] 105 false)=Af at*;refine fx ZR ?_;have acK:=Dq.next
    have SA:IsNode Af π.W (.agg [.bool (mr sm.n sm.at_ sp r).leaf,nT,tT]) (mr sm.n sm.at_ sp r):=
     ⟨nT,tT,rfl,aji.sl fun b hb=>⟨rH b (by have:=(qF b hb).1;omega),by have:=(qF b hb).2;omega⟩,aiY.sl fun b hb=>⟨rH b (by have:=(lF4 b hb).1;omega),by have:=(lF4 b hb).2;omega⟩⟩
    have hGo:xJ G2 (h+1) sm.page fM (mr sm.n sm.at_ sp r) LL:=⟨xm.ok,m5,m3,kG,fw,xI,xH,L',nX,q',m6,m7,m8,m9.trans QZ⟩;have Ii:=xm.free;rw[yG]at Ii;simp only[aBt]at jy hm vu;refine(ih fM.length (by omega) fM rfl (t12.still Wi) hGo (.inr (by unfold mr;simp)) (by omega) (by omega) (TU.mono (Wi.mono (by simp))) SA (by omega)).mono ?_;rintro _ Ns ⟨rfl,k29,G',t29,ait,sG⟩;refine⟨rfl,(Dq.trans Wi (by simp)).trans k29 fun q hq=> .inl hq,G',t29,ait, ?_⟩;have h2:=xm.aE;rw[sG,h2];rfl
theorem aah {rest:List cE}{f:cE}{n:aZ}{h:Nat}{x v:CV}{LL:List bB}(ht:Tg τ π st G)(hg:xJ G h f.page rest n LL)(iR:n.leaf=true\/n.cells≠[])(hsz:n.size<=640)(jy:rest.length+2<=G.ck)
 (hst:dN st π.W x (rest.reverse++[f])) (hv:IsNode st π.W v n) (vu:rest.length<=16):R 104 [.ptr τ 0,x,v] st (BX τ π G LL st):=VK rest.length rest rfl ht hg iR hsz jy hst hv vu
end
