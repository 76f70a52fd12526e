import Derived.Test.YtnahbemmgcjojaaGreatDoorGr18
import Derived.Test.YtnahbemmgcjojaaGreatDoorGr05
namespace Lim
open Go
noncomputable section
set_option maxRecDepth 100000
theorem Np (k:Nat)(h:k<256):gD .or .u8 (k:Int) 128=some ((k%128+128:Nat):Int):=by
 have:∀k:Fin 256,gD .or .u8 ((k.val:Nat):Int) 128=some ((k.val%128+128:Nat):Int):=by decide+kernel
 exact this ⟨k,h⟩
theorem CQ (k:Nat):IntKind.u8.wrap (k:Int)=((k%256:Nat):Int):=by
 unfold IntKind.wrap;simp[IntKind.bits,IntKind.signed]
theorem lj (k:Nat)(h:k<18446744073709551616):IntKind.u64.wrap (k:Int)=(k:Int):=by
 unfold IntKind.wrap;simp[IntKind.bits,IntKind.signed];omega
theorem fY (k:Nat)(h:k<256):bo (UInt8.ofNat k)= .int .u8 (k:Int):=by
 unfold bo;have:(UInt8.ofNat k).toNat=k:=by simp;omega
 rw[this]
theorem DO (k:Nat)(h:k<256)(d:Option gH)(c:Bool)(st:St):ai .or d c (.int .u8 (k:Int)) (.int .u8 128) st= .ok (.int .u8 ((k%128+128:Nat):Int)) st:=by
 have:ai .or d c (.int .u8 (k:Int)) (.int .u8 128) st=(match gD .or .u8 (k:Int) 128 with|some r=> .ok (.int .u8 r) st|none=> .bad):=rfl;rw[this,Np k h]
theorem BD (k:Nat)(d:Option gH)(c:Bool)(st:St):ai .shr d c (.int .u64 (k:Int)) (.int .u64 7) st= .ok (.int .u64 ((k/128:Nat):Int)) st:=by
 have:ai .shr d c (.int .u64 (k:Int)) (.int .u64 7) st= .ok (.int .u64 ((k:Int).fdiv 128)) st:=rfl;rw[this]
 congr 2
 rw[Int.fdiv_eq_ediv_of_nonneg _ (by omega)];omega
section
variable {st st':St}
theorem mZ.made {k e:Nat}{L:List CV}{v x:CV}(h:mZ k e v L st x st'):Made k e L st x st':=by obtain⟨F,h1,h2,h3,_⟩:=h;exact⟨F,h1,h2,h3⟩
theorem bq (a b:List UInt8):aj (a++b)=aj a++aj b:=by simp[aj]
theorem zb {X:List Nat}{v:CV}{b:List UInt8}{n:Nat}(h:Sl st X v 1 (aj b))(hb:b.length<=1000000)(hn:n<=2147483647):R 183 [v, .int .u64 n] st (Made 1 5 (aj (b++uv n)) st):=by
 refine bp ?_;rw[Rw];simp only[bP,aI,aJ];refine(pF h (by omega)).mono ?_;intro x s1 hc;obtain⟨F0,c1,c2,c3⟩:=hc.made;have key:∀m k,k<=m->k<=2147483647->(uv k).length<=5:=fun m k _ h=>(lq k h).2;refine bA (fun m vs s=>∃u:Nat,∃x F pre,m=u/\vs=[.int .u64 u,x]/\pre++uv u=uv n/\Kp [] st s/\Own s x 1 5 (aj (b++pre)) F/\∀q∈F,st.next<=q/\q<s.next) ?_ (n:=n) ⟨n,x,F0,[],rfl,rfl,rfl,c1,by simpa using c2,c3⟩;rintro m vs s k ⟨u,x,F,pre,hm,rfl,hp,hk,ho,hF⟩ next;have hm':=hm;clear hm;subst hm';have Mo:∃u,u=m:=⟨m,rfl⟩;obtain⟨u,Mo⟩:=Mo;subst Mo;have Xt:pre.length<=5:=by have:=congrArg List.length hp;have h5:=(lq n hn).2;rw[agq]at this;omega
 have hz:([CV.int .u8 0]:List CV).length=1:=rfl
 by_cases hu:127<u
 ·have Tn:(127:Int)<u:=by omega
  simp only[aI,aJ,aA,cC,ae,ah,Tn,agW,ags]
  have e1:bQ (.toInt .u8) (.int .u64 u) s= .ok (.int .u8 ((u%256:Nat):Int)) s:=by
   show OR.ok (.int .u8 (IntKind.u8.wrap u)) s=_;rw[CQ]
  rw[e1,ae,DO _ (by omega),ae];refine LK 1 ho (by omega) (fun q hq=>(hF q hq).2) hz rfl rfl rfl (by simp;omega) ?_;intro v' s' F' h1 h2 h3;have Yt:=BD u none true s';rw[aA]at Yt;rw[Yt,ae];refine next (u/128) _ _ (by omega) ⟨u/128,v',F',pre++[UInt8.ofNat (u%128+128)],rfl,rfl, ?_,hk.trans h2 fun q hq=> .inr (hF q hq).1, ?_,fun q hq=> ?_⟩
  ·rw[<-hp,mo hu];simp
  ·have:aj (b++(pre++[UInt8.ofNat (u%128+128)]))=aj (b++pre)++(CV.int .u8 ((u%256%128+128:Nat):Int)).bL:=by
    rw[<-agv,bq (b++pre)]
    congr 1
    show [bo _]=[_];rw[fY _ (by omega)]
    congr 3;omega
   rw[this];exact h1
  ·obtain⟨h4,h5⟩:=h3 q hq;exact⟨h4.elim (fun h=>(hF q h).1) (fun h=>aha hk.next h),h5⟩
 ·have Tn:¬(127:Int)<u:=by omega
  simp only[aI,aJ,aA,cC,ae,ah,Tn,ahP,afY,agn]
  have e1:bQ (.toInt .u8) (.int .u64 u) s= .ok (.int .u8 ((u%256:Nat):Int)) s:=by
   show OR.ok (.int .u8 (IntKind.u8.wrap u)) s=_;rw[CQ]
  rw[e1,ae];refine LK 1 ho (by omega) (fun q hq=>(hF q hq).2) hz rfl rfl rfl (by simp;omega) ?_;intro v' s' F' h1 h2 h3;refine⟨F',hk.trans h2 fun q hq=> .inr (hF q hq).1, ?_,fun q hq=> ?_⟩
  ·have:aj (b++uv n)=aj (b++pre)++(CV.int .u8 ((u%256:Nat):Int)).bL:=by
    rw[<-hp,<-agv,bq (b++pre),fS (by omega)]
    congr 1
   rw[this];exact h1
  ·obtain⟨h4,h5⟩:=h3 q hq;exact⟨h4.elim (fun h=>(hF q h).1) (fun h=>aha hk.next h),h5⟩
theorem jN {X:List Nat}{v:CV}{b:List UInt8}{n:Nat}(h:Sl st X v 1 (aj b))(hb:b.length<=1000000)(hn:n<=2147483647):R 154 [v,I n] st (Made 1 5 (aj (b++uv n)) st):=by
 refine bp ?_;rw[RI];have e1:¬(n:Int)<0:=by omega
 have e2:¬(2147483647:Int)<n:=by omega
 have e3:bQ (.toInt .u64) (I n) st= .ok (.int .u64 n) st:=by
  show OR.ok (.int .u64 (IntKind.u64.wrap n)) st=_;rw[lj n (by omega)]
 simp[e1,e2,e3];exact zb h hb hn
theorem EW {X:List Nat}{v:CV}{b:List UInt8}{f:Bool}(h:Sl st X v 1 (aj b))(hb:b.length<=1000000):R 155 [v, .bool f] st (Made 1 5 (aj (b++uv (if f=true then 1 else 0))) st):=by
 refine bp ?_;rw[RH];cases f
 ·simp;exact jN (n:=0) h hb (by omega)
 ·simp;exact jN (n:=1) h hb (by omega)
end
section
variable {st st':St}
def ky (st:St)(F:List Nat)(v:CV)(k:Nat)(L:List CV):Prop:=∀X,(∀b∈F,b∉X)->Sl st X v k L
theorem ky.keep {F X:List Nat}{v:CV}{k:Nat}{L:List CV}(h:ky st F v k L)(hk:Kp X st st')(hx:∀b∈F,b∉X):ky st' F v k L:=fun Y hy=>by
 have h1:=h (X++Y) fun b hb=>by simp;exact⟨hx b hb,hy b hb⟩
 exact(h1.mono (hk.mono fun q hq=> .inl (by simp[hq]))).oE fun q hq=> .inl (by simp[hq])
theorem Own.M6 {v:CV}{k e:Nat}{L:List CV}{F:List Nat}(h:Own st v k e L F)(hx:∀b∈F,b<st.next):ky st F v k L:=fun X h2=>h.sl fun b hb=>⟨h2 b hb,hx b hb⟩
theorem ky.nil {F:List Nat}{v:CV}{k:Nat}{L:List CV}(h:ky st F v k L):Sl st [] v k L:=h [] (by simp)
theorem ky.lo {F:List Nat}{v:CV}{k n:Nat}{L:List CV}(h:ky st F v k L)(hk:0<k)(hn:L.length=n*k){l:Nat}(hl:l<=n)(s:St):∃v',cc k v (some (I l)) none s= .ok v' s/\ky st F v' k (L.drop (l*k)):=by
 obtain⟨v',h1,_⟩:=h.nil.lo hk hn hl s;refine⟨v',h1,fun X hx=> ?_⟩;obtain⟨v2,h2,h3⟩:=(h X hx).lo hk hn hl s;rw[h1]at h2;cases h2;exact h3
theorem ky.hi {F:List Nat}{v:CV}{k n:Nat}{L:List CV}(h:ky st F v k L)(hk:0<k)(hn:L.length=n*k){l:Nat}(hl:l<=n)(s:St):∃v',cc k v none (some (I l)) s= .ok v' s/\ky st F v' k (L.take (l*k)):=by
 obtain⟨v',h1,_⟩:=h.nil.hi hk hn hl s;refine⟨v',h1,fun X hx=> ?_⟩;obtain⟨v2,h2,h3⟩:=(h X hx).hi hk hn hl s;rw[h1]at h2;cases h2;exact h3
def jb (st:St)(r:Nat)(F:List Nat)(L:List UInt8):Prop:=∃q v G,F=r::q::G/\F.Nodup/\(∀b∈F,b<st.next)/\st.mem.get r=some (.cells [.ptr q 0] 248 false)/\st.mem.get q=some (.cells [v, .bool false] 246 false)/\ky st G v 1 (aj L)
theorem jb.keep {r:Nat}{F X:List Nat}{L:List UInt8}(h:jb st r F L)(hk:Kp X st st')(hx:∀b∈F,b∉X):jb st' r F L:=by
 obtain⟨q,v,G,rfl,h1,h2,h3,h4,h5⟩:=h;exact⟨q,v,G,rfl,h1,fun b hb=>ago (h2 b hb) hk.next,by rw[hk.keep r (h2 r (by simp)) (hx r (by simp))];exact h3,by rw[hk.keep q (h2 q (by simp)) (hx q (by simp))];exact h4,h5.keep hk fun b hb=>hx b (by simp[hb])⟩
theorem lK {X:List Nat}{v:CV}{L:List UInt8}(h:Sl st X v 1 (aj L))(hl:L.length<=1000000):R 64 [v] st fun x st'=>∃r F,x= .ptr r 0/\Kp [] st st'/\jb st' r F L/\∀b∈F,st.next<=b:=by
 refine bp ?_;rw[Zn];refine(pF h (by omega)).mono ?_;intro x s1 hc;obtain⟨F0,c1,c2,c3⟩:=hc.made;obtain⟨o1,o2⟩:=c2.bW;have o3:=(c2.sl (X:=[]) fun b hb=>⟨by simp,(c3 b hb).2⟩).jg.1;simp[eF,dG,bB,o2,o3];have hF:F0.Nodup:=by rcases c2 with⟨_,_,rfl⟩|⟨_,_,_,_,_,_,rfl,_⟩|⟨_,_,_,_,_,rfl,_⟩<;>simp
 refine⟨(c1.new _).new _,(s1.next+1)::s1.next::F0,⟨s1.next,x,F0,rfl, ?_, ?_,aG _ _, ?_, ?_⟩, ?_⟩
 ·simp only[agF,age,ahO];exact⟨⟨by omega,fun h=>by have:=(c3 _ h).2;omega⟩,fun h=>by have:=(c3 _ h).2;omega,hF⟩
 ·intro b hb;simp only[age]at hb;simp;rcases hb with rfl|rfl|hb
  ·omega
  ·omega
  ·have:=(c3 b hb).2;omega
 ·rw[aU _ _ _ (by simp)];exact aG _ _
 ·refine Own.M6 (e:=5) (c2.mono fun b hb=> ?_) fun b hb=> ?_
  ·have:=(c3 b hb).2;rw[aU _ _ _ (by simp;omega),aU _ _ _ this]
  ·have:=(c3 b hb).2;simp;omega
 ·intro b hb;have:=c1.next;simp only[age]at hb;rcases hb with rfl|rfl|hb
  ·omega
  ·omega
  ·exact(c3 b hb).1
variable {r:Nat} {F:List Nat} {L:List UInt8}
theorem lD (h:jb st r F L):R 99 [.ptr r 0] st fun v st'=>v= .bool true/\st'=st:=by
 obtain⟨q,v,G,rfl,h1,h2,h3,h4,h5⟩:=h;refine bp ?_;rw[YS];simp[fB,h3];refine bp ?_;rw[RR];simp[fB,h4]
theorem AJ (h:jb st r F L):R 109 [.ptr r 0] st fun v st'=>v=I L.length/\st'=st:=by
 obtain⟨q,v,G,rfl,h1,h2,h3,h4,h5⟩:=h;refine bp ?_;rw[R8];simp[eN,h3];refine bp ?_;rw[RN];simp[eN,fB,h4,h5.nil.len L.length (by simp) (by omega)]
theorem A8 (h:jb st r F L):R 68 [.ptr r 0] st fun v st'=>v= .bool (decide (L=[]))/\st'=st:=by
 refine bp ?_;rw[Zj];refine(lD h).mono ?_;rintro _ _ ⟨rfl,rfl⟩;simp;refine(AJ h).mono ?_;rintro _ _ ⟨rfl,rfl⟩;simp
theorem ky.mono {F G:List Nat}{v:CV}{k:Nat}{L:List CV}(h:ky st G v k L)(hg:∀b∈G,b∈F):ky st F v k L:=fun X hx=>h X fun b hb=>hx b (hg b hb)
theorem Ao (h:jb st r F L){q:Nat}(hq:st.mem.get r=some (.cells [.ptr q 0] 248 false)){n:Nat}(hn:n<=L.length):R 108 [.ptr q 0,I n] st fun x st'=>ky st' F x 1 (aj (L.take n))/\Kp F st st'/\st'.next=st.next/\jb st' r F (L.drop n)/\st'.mem.get r=st.mem.get r:=by
 obtain⟨q',v,G,rfl,h1,h2,h3,h4,h5⟩:=h;have:q'=q:=by rw[h3]at hq;cases hq;rfl
 subst this;refine bp ?_;rw[R9];obtain⟨v1,a1,a2⟩:=h5.hi (n:=L.length) (by omega) (by simp) hn st;obtain⟨v2,b1,b2⟩:=h5.lo (n:=L.length) (by omega) (by simp) hn st;obtain⟨c1,c2,c3⟩:=b2.nil.jg;have Yh:=h1;simp only[agF,age,ahO]at h1;simp[eN,kh,h4,a1,b1,bB,c2,c3];have hk:Kp (r::q'::G) st (St.set st q' (.cells [v2, .bool false] 246 false)):=(Kp.refl _ st).set _ (.inl (by simp)) (h2 q' (by simp));have XN:Kp [q'] st (St.set st q' (.cells [v2, .bool false] 246 false)):=(Kp.refl _ st).set _ (.inl (by simp)) (h2 q' (by simp));have hG:∀b∈G,b∉[q']:=fun b hb e=>h1.2.1 (by simp at e;exact e▸hb);have hr:(St.set st q' (.cells [v2, .bool false] 246 false)).mem.get r=st.mem.get r:=aq _ _ _ _ h1.1.1;have e1:aj (L.take n)=(aj L).take (n*1):=by simp[aj]
 have e2:aj (L.drop n)=(aj L).drop (n*1):=by simp[aj]
 refine⟨?_,hk,⟨q',v2,G,rfl,Yh,h2,by rw[hr];exact h3,az _ _ _, ?_⟩,hr⟩
 ·rw[e1];exact(a2.keep XN hG).mono (fun b hb=>by simp[hb])
 ·rw[e2];exact b2.keep XN hG
theorem An {f:Nat}(hf:f=106\/f=107)(h:jb st r F L)(v:CV):R f [.ptr r 0,v, .bool true] st fun x st'=>x=v/\st'=st:=by
 obtain⟨q,v',G,rfl,h1,h2,h3,h4,h5⟩:=h;refine bp ?_ (by rcases hf with rfl|rfl<;>rfl);rcases hf with rfl|rfl
 ·rw[Sb];simp[eN,h3,h4]
 ·rw[Sa];simp[eN,h3,h4]
theorem LM (k:Nat)(h:k<256):gD .and .u8 (k:Int) 127=some ((k%128:Nat):Int):=by
 have:∀k:Fin 256,gD .and .u8 ((k.val:Nat):Int) 127=some ((k.val%128:Nat):Int):=by decide+kernel
 exact this ⟨k,h⟩
theorem No (a m:Nat)(k:Nat)(h:a<2^k)(hs:a+m*2^k<18446744073709551616):gD .or .u64 (a:Int) ((m*2^k:Nat):Int)=some ((a+m*2^k:Nat):Int):=by
 have e:gD .or .u64 (a:Int) ((m*2^k:Nat):Int)=some (IntKind.u64.wrap ((BitVec.ofInt 64 (a:Int)|||BitVec.ofInt 64 ((m*2^k:Nat):Int)).toNat:Int)):=rfl;rw[e,BitVec.ofInt_natCast,BitVec.ofInt_natCast,BitVec.toNat_or,BitVec.toNat_ofNat,BitVec.toNat_ofNat,ahv (by omega),ahv (by omega),Nat.or_comm,ahE m,<-Nat.two_pow_add_eq_or_of_lt h,lj _ (by rw[ahE];omega),ahE,Nat.add_comm]
theorem EX {X:List Nat}{v:CV}{n:Nat}(h:Sl st X v 1 (aj (uv n++L)))(hn:n<=2147483647):R 145 [v] st fun x st'=>x= .tuple [.int .u64 n,I (uv n).length]/\st'=st:=by
 refine bp ?_;rw[RO];have hlen:=h.len (uv n++L).length (by simp) (by omega) st;simp only[bP,aI,aJ,hlen,ae];have Mr:=(lq n hn).2;refine bA (fun m vs s=>∃i u acc:Nat,∃pre,m+i=(uv n).length/\vs=[.int .u64 acc,v,I (uv n++L).length,I i]/\pre++uv u=uv n/\pre.length=i/\acc+u*128^i=n/\acc<128^i/\s=st) ?_ (n:=(uv n).length) ⟨0,n,0,[],by simp,rfl,rfl,rfl,by simp,by simp,rfl⟩;rintro m vs s k ⟨i,u,acc,pre,hm,rfl,hp,hi,ha,hb,rfl⟩ next;have hul:0<(uv u).length:=by by_cases hu:127<u;rw[mo hu];simp;rw[fS (by omega)];simp
 have Mt:i<(uv n).length:=by rw[<-hp,agq];omega
 have gK:(i:Int)<(uv n++L).length:=by rw[agq];omega
 have Mm:u<=n:=by
  have:1<=128^i:=Nat.one_le_pow _ _ (by omega);have:=Nat.mul_le_mul_left u this;omega
 have wu:∀hh,(aj (uv n++L))[i]'hh= .int .u8 ((if 127<u then u%128+128 else u:Nat):Int):=by
  intro hh;have e:uv n++L=pre++(uv u++L):=by rw[<-hp,agv]
  have:(aj (uv n++L))[i]?=some (.int .u8 ((if 127<u then u%128+128 else u:Nat):Int)):=by
   rw[e,bq,agN (by simp;omega)];simp only[bJ,hi,Nat.sub_self]
   by_cases hu:127<u
   ·rw[mo hu,agl hu];show some (bo _)=_;rw[fY _ (by omega)]
   ·rw[fS (by omega),agf hu];show some (bo _)=_;rw[fY _ (by omega)]
  rw[agh hh]at this;exact Option.some.inj this
 have hib:i<(aj (uv n++L)).length:=by simp;omega
 simp only[aI,aJ,aA,bK,ae,ah,gK,agW,ags];refine h.idx hib _ ?_;rw[wu];have Jn:¬(i:Int)=10:=by omega
 have e9:¬(i:Int)=9:=by omega
 simp only[eT,ae,Jn,ahP,aE,aM,agj,afY,agn,aF];have hc:(if 127<u then u%128+128 else u)<256:=by split<;>omega
 generalize zU:(if 127<u then u%128+128 else u)=c at hc;have hcm:c%128=u%128:=by rw[<-zU];split<;>omega
 have a1:∀s,ai .and none true (.int .u8 (c:Int)) (.int .u8 127) s= .ok (.int .u8 ((c%128:Nat):Int)) s:=fun s=>by
  have:ai .and none true (.int .u8 (c:Int)) (.int .u8 127) s=(match gD .and .u8 (c:Int) 127 with|some r=> .ok (.int .u8 r) s|none=> .bad):=rfl;rw[this,LM c hc]
 have Xw:128^i<=128^4:=Nat.pow_le_pow_right (by omega) (by omega);have Er:2^(7*i)=128^i:=by rw[Nat.pow_mul]
 have ach:u%128*128^i<=n:=by
  have:u%128*128^i<=u*128^i:=agS _ (Nat.mod_le _ _);omega
 have a2:∀s,bQ (.toInt .u64) (.int .u8 ((c%128:Nat):Int)) s= .ok (.int .u64 ((c%128:Nat):Int)) s:=fun s=>by
  show OR.ok (.int .u64 (IntKind.u64.wrap _)) s=_;rw[lj _ (by omega)]
 have a3:IntKind.i64.wrap (7*(i:Int))=((7*i:Nat):Int):=by rw[bN (by omega)];omega
 have a4:∀s,ai .shl none false (.int .u64 ((c%128:Nat):Int)) (.int .i64 ((7*i:Nat):Int)) s= .ok (.int .u64 ((u%128*2^(7*i):Nat):Int)) s:=fun s=>by
  have e:ai .shl none false (.int .u64 ((c%128:Nat):Int)) (.int .i64 ((7*i:Nat):Int)) s=if ((7*i:Nat):Int)<0 then .bad else .ok (.int .u64 (IntKind.u64.wrap (((c%128:Nat):Int)*2^(min ((7*i:Nat):Int).toNat 64)))) s:=rfl
  rw[e,agf (by omega),aia,agD (by omega),hcm];have e2:((u%128:Nat):Int)*2^(7*i)=((u%128*2^(7*i):Nat):Int):=by simp
  rw[e2,lj _ (by rw[Er];omega)]
 have a5:∀s,ai .or none false (.int .u64 (acc:Int)) (.int .u64 ((u%128*2^(7*i):Nat):Int)) s= .ok (.int .u64 ((acc+u%128*2^(7*i):Nat):Int)) s:=fun s=>by
  have e:ai .or none false (.int .u64 (acc:Int)) (.int .u64 ((u%128*2^(7*i):Nat):Int)) s=(match gD .or .u64 (acc:Int) ((u%128*2^(7*i):Nat):Int)with|some r=> .ok (.int .u64 r) s|none=> .bad):=rfl;rw[e,No acc (u%128) (7*i) (by rw[Er];exact hb) (by rw[Er];omega)]
 have a6:IntKind.i64.wrap ((i:Int)+1)=((i+1:Nat):Int):=by rw[bN (by omega)];omega
 have a7:ai .eql (some .int) true (I i) (.int .i64 9) s= .ok (.bool false) s:=by rw[aA,eT];simp only[e9,ahP]
 have a8:∀s,ai .lss none true (.int .u8 (c:Int)) (.int .u8 128) s= .ok (.bool (decide (c<128))) s:=fun s=>by
  rw[aA,bK];congr 2;simp only[ahf];omega
 simp only[a7,ae,aE,bT,afY,ags,agn,agj,aF,ah,a1,a2,jE,a3,a4,a5,a8,cR,a6];have Kr:=(Nat.mod_add_div u 128).symm
 by_cases hu:127<u
 ·have Vb:¬c<128:=by rw[<-zU,agl hu];omega
  simp only[Vb,ahP,afY,agn]
  have e6:u*128^i=u%128*128^i+u/128*128^(i+1):=by
   conv=>lhs;rw[Kr]
   rw[ahm,ahZ,ahE 128 (u/128),Nat.mul_assoc,ahE 128]
  have e7:u%128*128^i<=127*128^i:=agS _ (by omega);refine next (m-1) _ _ (by omega) ⟨i+1,u/128,acc+u%128*2^(7*i),pre++[UInt8.ofNat (u%128+128)],by omega,rfl, ?_,by simp;omega,by rw[Er];omega,by rw[Er,ahZ];omega,rfl⟩;rw[<-hp,mo hu];simp
 ·have Vb:c<128:=by rw[<-zU,agf hu];omega
  simp only[Vb,agW,ags];have e5:(uv n).length=i+1:=by rw[<-hp,fS (by omega)];simp;omega
  rw[e5];have e6:u%128=u:=by omega
  rw[e6,Er,ha];exact⟨rfl,trivial⟩
end
section
variable {st st':St} {r:Nat} {F:List Nat} {L:List UInt8}
def FA (r:Nat)(F:List Nat)(L:List UInt8)(st st':St):Prop:=Kp F st st'/\st'.next=st.next/\jb st' r F L
theorem Ge {n:Nat}(h:1<(uv n).length):∃b,(uv n)[(uv n).length-1]?=some b/\b≠0:=by
 have key:∀m n,n<=m->0<n->∃b,(uv n)[(uv n).length-1]?=some b/\b≠0:=by
  intro m
  induction m with
  |zero=>intro n h1 h2;omega
  |succ m ih=>
   intro n h1 h2
   by_cases hn:127<n
   ·obtain⟨b,h3,h4⟩:=ih (n/128) (by omega) (by omega);have hl:0<(uv (n/128)).length:=by by_cases hu:127<n/128;rw[mo hu];simp;rw[fS (by omega)];simp
    refine⟨b, ?_,h4⟩;rw[mo hn,agT,ahU];obtain⟨k,hk⟩:∃k,(uv (n/128)).length=k+1:=⟨(uv (n/128)).length-1,by omega⟩;rw[hk,agb];rw[hk,ahU]at h3;exact h3
   ·rw[fS (by omega)];refine⟨_,rfl,fun e=> ?_⟩;have:=congrArg UInt8.toNat e;simp at this;omega
 refine key n n (aga _) ?_
 by_cases h0:n=0
 ·subst h0;rw[fS (by omega)]at h;simp at h
 ·omega
theorem jb.sl (h:jb st r F L):∃q v,st.mem.get r=some (.cells [.ptr q 0] 248 false)/\st.mem.get q=some (.cells [v, .bool false] 246 false)/\Sl st [] v 1 (aj L):=by
 obtain⟨q,v,G,rfl,h1,h2,h3,h4,h5⟩:=h;exact⟨q,v,h3,h4,h5.nil⟩
theorem JP {n:Nat}(h:jb st r F (uv n++L))(hn:n<=2147483647):R 105 [.ptr r 0] st fun x st'=>x= .tuple [.int .u64 n, .bool true]/\FA r F L st st':=by
 refine bp ?_;rw[Sc];refine(lD h).same ?_;obtain⟨q,v,h1,h2,h3⟩:=h.sl;simp[eN,h1,h2];refine(EX h3 hn).same ?_;have hl:=(lq n hn).1;have hl5:=(lq n hn).2;have IE:R 108 [.ptr q 0,I (uv n).length] st fun x3 s3=>FA r F L st s3:=(Ao h h1 (n:=(uv n).length) (by simp)).mono fun x s ⟨_,k1,k2,k3,_⟩=>⟨k1,k2,by simpa using k3⟩
 have OB:1<(uv n).length->Lim.idx 1 v (I (((uv n).length-1:Nat):Int)) st fun dp=>∃c:Nat,dp= .int .u8 c/\c≠0:=fun h4=>by
  obtain⟨b,b1,b2⟩:=Ge h4;have hlt:(uv n).length-1<(aj (uv n++L)).length:=by simp;omega
  refine h3.idx hlt _ ?_
  have e4:(aj (uv n++L))[(uv n).length-1]'hlt=bo b:=by
   have:(aj (uv n++L))[(uv n).length-1]?=some (bo b):=by
    rw[bq,ahg (by simp;omega)];simp only[aj,agB,b1];rfl
   rw[agh hlt]at this;exact Option.some.inj this
  exact⟨b.toNat,e4,fun e=>b2 (by apply UInt8.toNat_inj.1;simp;omega)⟩
 generalize (uv n).length=k at*;have e0:¬k=0:=by omega
 by_cases h4:1<k
 ·have e3:IntKind.i64.wrap ((k:Int)-1)=((k-1:Nat):Int):=by rw[bN (by omega)];omega
  have key:=OB h4;unfold Lim.idx at key;have e2:(1:Int)<k:=by omega
  simp[e0,e2,e3,fB,sm,h1,h2];refine oK key fun a ha=>oK ha fun x hx=> ?_;obtain⟨c,rfl,hc⟩:=hx;simp[hc,IE]
 ·have e2:¬(1:Int)<k:=by omega
  simp[e0,e2,fB,sm,h1,IE]
theorem eE {n m:Nat}(h:jb st r F (uv n++L))(hn:n<=m)(hm:m<=2147483647):R 65 [.ptr r 0,I m] st fun x st'=>x=I n/\FA r F L st st':=by
 refine bp ?_;rw[Zm];simp;refine(JP h (by omega)).mono ?_;rintro _ s1 ⟨rfl,h1,h2,h3⟩
 have e1:bQ (.toInt .i64) (.int .u64 (n:Int)) s1= .ok (I n) s1:=by
  show OR.ok (.int .i64 (IntKind.i64.wrap _)) s1=_;rw[bN (by omega)]
 have e2:(n:Int)<=2147483647:=by omega
 have e3:(n:Int)<=m:=by omega
 have e4:(0:Int)<=m:=by omega
 simp[e1,e2,hn];refine(An (.inl rfl) h3 (I n)).same ?_;exact⟨rfl,h1,h2,h3⟩
theorem xv {f:Bool}(h:jb st r F (uv (if f=true then 1 else 0)++L)):R 66 [.ptr r 0] st fun x st'=>x= .bool f/\FA r F L st st':=by
 refine bp ?_;rw[Zl];simp;refine(eE (m:=1) h (by split<;>omega) (by omega)).mono ?_;rintro _ s1 ⟨rfl,h1⟩;cases f<;>simp[h1]
theorem vC {s:List UInt8}{m:Nat}(h:jb st r F (uv s.length++(s++L)))(hn:s.length<=m)(hm:m<=2147483647):R 67 [.ptr r 0,I m] st fun x st'=>x= .str s/\FA r F L st st':=by
 refine bp ?_;rw[Zk];simp;refine(eE h hn hm).mono ?_;rintro _ s1 ⟨rfl,h1,h2,h3⟩;refine(lD h3).same ?_;obtain⟨q,v,g1,g2,g3⟩:=h3.sl;have e1:¬((s++L).length:Int)<s.length:=by rw[agq];omega
 simp[fB,eN,g1,g2,g3.len (s++L).length (by simp) (by omega)];have e2:¬((s.length:Int)+L.length<s.length):=by omega
 simp[e2];refine(Ao h3 g1 (n:=s.length) (by simp)).mono ?_;rintro x s2 ⟨k1,k2,k3,k4,k5⟩;have e3:(s++L).take s.length=s:=by simp
 have e4:(s++L).drop s.length=L:=by simp
 rw[e3]at k1;rw[e4]at k4;rw[k1.nil.str,ae];refine(An (.inr rfl) k4 (.str s)).same ?_;exact⟨rfl,h1.trans k2 fun q hq=> .inl hq,by omega,k4⟩
end
theorem RD (C:aN)(h:CV)(st:St)(Q:CV->St->Prop):aH P0 C (lvs 165) 165 [h] st Q=(upon (eO 231 h st) fun o p=>upon (dd 290 (zr 512) p) fun q r=>upon (dd 290 (zr 512) r) fun s t=>cN (fun e u=>cf (fun a b w=>us (ai .lss (none) true (ak 3 a) (I 8) b) fun x=>aD x (fl 0 (ak 0 a) b fun y=>us (ai .mul (none) true (I 8) (ak 3 a) b) fun z=>us (ai .shr (none) false y z b) fun A=>us (bQ (.toInt .u8) A b) fun B=>us (cQ 512 1 (ak 2 a) (ak 3 a) b) fun D=>upon (aT 1 D B b) fun _ i=>us (ai .add (none) true (ak 3 a) (I 1) i) fun E=>w [(ak 0 a),(ak 1 a),(ak 2 a),E] i) (cN (fun d c=>cd (us (al 2 (ak 0 d) c) fun F=>us (aw F c) fun G=>us (bO .slice G c) fun H=>us (bQ (.toInt .u8) H c) fun J=>us (al 2 (ak 0 d) c) fun j=>us (aw j c) fun k=>us (bO .slice k c) fun K=>us (ai .shr (none) true K (.int .u64 8) c) fun L=>us (bQ (.toInt .u8) L c) fun M=>us (cQ 512 1 (ak 2 d) (I 9) c) fun N=>upon (aT 1 N J c) fun a0 g=>us (cQ 512 1 (ak 2 d) (I 10) g) fun O=>upon (aT 1 O M g) fun a1 f=>((True)/\((us (aw j g) fun v=>v=k)/\True)/\True)/\(True)/\cd (us (bM 512 1 (ak 2 d) (some (I 11)) none f) fun P=>us (al 2 (ak 0 d) f) fun S=>us (aw S f) fun T=>upon (jF false 1 P T f) fun a2 l=>((True)/\True)/\(True)/\us (aP 512 (ak 2 d) l) fun U=>upon (aT 512 (ak 1 d) U l) fun _ m=>us (aP 512 (ak 1 d) m) fun V=>Q V m))) fun n=>fl 1 (ak 0 a) b fun W=>aD W (us (cQ 512 1 (ak 2 a) (I 8) b) fun X=>upon (aT 1 X (.int .u8 1) b) fun _ Y=>n [(ak 0 a),(ak 1 a),(ak 2 a)] Y) (
 n [(ak 0 a),(ak 1 a),(ak 2 a)] b))) [(ak 0 e),(ak 1 e),(ak 2 e),(ak 3 e)] u) fun Z=>Z [o,q,s,(I 0)] t):=by kernel_rfl
theorem RU (C:aN)(q:CV)(st:St)(Q:CV->St->Prop):aH P0 C (lvs 137) 137 [q] st Q=(upon (eO 290 q st) fun i x=>upon (dd 231 [(I 0),(.bool false), .aa] x) fun y d=>cd (us (cQ 512 1 i (I 9) d) fun z=>us (aw z d) fun A=>us (bQ (.toInt .i64) A d) fun B=>us (cQ 512 1 i (I 10) d) fun D=>us (aw D d) fun E=>us (bQ (.toInt .i64) E d) fun F=>us (ai .shl (none) true F (.int .u64 8) d) fun G=>us (ai .or (none) false B G d) fun H=>((True)/\(True)/\True)/\(True)/\cN (fun h J=>cf (fun b a K=>us (ai .lss (none) true (ak 4 b) (I 8) a) fun L=>aD L (us (cQ 512 1 (ak 0 b) (ak 4 b) a) fun M=>us (aw M a) fun N=>us (bQ (.toInt .u64) N a) fun O=>us (ai .mul (none) true (I 8) (ak 4 b) a) fun P=>us (ai .shl (none) false O P a) fun S=>us (ai .or (none) false (ak 2 b) S a) fun T=>us (ai .add (none) true (ak 4 b) (I 1) a) fun U=>K [(ak 0 b),(ak 1 b),T,(ak 3 b),U] a) (us (ai .lss (none) true (ak 2 b) (.int .u64 1) a) fun j=>us (aS (ag false j) a (.ok (ak 2 b) a)) fun V=>us (aS (ag false j) a (ai .gtr (none) true V (.int .u64 4611686018427387904) a)) fun W=>us (aK j (.bool true) W a) fun k=>us (aS (ag false k) a (.ok (ak 3 b) a)) fun X=>us (aS (ag false k) a (ai .gtr (none) true X (I 501) a)) fun Y=>us (aK k (.bool true) Y a) fun Z=>aD Z (us (bf [(I 0),(.bool false), .aa] [] a) fun a0=>upon (aT 3 (ak 1 b) a0 a) fun _ r=>us (aP 3 (ak 1 b) r) fun a1=>Q (.tuple [a1,(.bool false)]) r) (cd (us (bQ (.toInt .i64) (ak 2 b) (St.new (St.skip a) (.cells [(I 0),(.bool false), .aa] 231 false))) fun a2=>
 us (cQ 512 1 (ak 0 b) (I 8) (St.new (St.skip a) (.cells [(I 0),(.bool false), .aa] 231 false))) fun l=>us (aw l (St.new (St.skip a) (.cells [(I 0),(.bool false), .aa] 231 false))) fun m=>us (ai .eql (some .int) true m (.int .u8 1) (St.new (St.skip a) (.cells [(I 0),(.bool false), .aa] 231 false))) fun a3=>upon (dW a.next 5 0 (cM 0 [(.int .u8 0)]) [] (St.new (St.skip a) (.cells [(I 0),(.bool false), .aa] 231 false))) fun a4 e=>us (ai .add (none) true (I 11) (ak 3 b) e) fun a5=>us (bM 512 1 (ak 0 b) (some (I 11)) (some a5) e) fun a6=>upon (cy 5 1 1 a4 (dJ .slice 1 [(.int .u8 0)] a6 e) e) fun a7 s=>us (bf [(I 0),(.bool false), .aa] [(0,1,a2),(1,1,a3),(2,1,a7)] s) fun a8=>upon (gO (St.skip a).next [(I 0),(.bool false), .aa] 231 s) fun f n=>upon (aT 3 f a8 n) fun c3 o=>(((us (aw l e) fun v=>v=m)/\(us (aw l n) fun v=>v=m)/\True)/\((upon (gO (St.skip a).next [(I 0),(.bool false), .aa] 231 e) fun v _=>v=f)/\(upon (gO (St.skip a).next [(I 0),(.bool false), .aa] 231 n) fun v _=>v=f)/\True)/\True)/\((True)/\True)/\cd (us (aP 3 f o) fun a9=>C 165 [a9] o fun b0 c=>us (aP 512 (ak 0 b) c) fun t=>us (ai .neq (some (.bytes 512)) false b0 t c) fun g=>us (aS (ag false g) c (al 1 f c)) fun b1=>us (aS (ag false g) c (aw b1 c)) fun b2=>us (aS (ag false g) c (fA .not b2 c)) fun b3=>us (aS (ag false g) c (.ok b3 c)) fun p=>us (aS (ag true p) c (.ok (ak 3 b) c)) fun b4=>us (aS (ag true p) c (ai .neq (some .int) true b4 (I 501) c)) fun b5=>us (aS (ag false g) c (aK p b5 (.bool false) c)) fun b6=>
 us (aK g (.bool true) b6 c) fun b7=>((True)/\((us (aP 512 (ak 0 b) o) fun v=>v=t)/\True)/\(True)/\True)/\(True)/\aD b7 (us (bf [(I 0),(.bool false), .aa] [] c) fun b8=>upon (aT 3 (ak 1 b) b8 c) fun _ u=>us (aP 3 (ak 1 b) u) fun b9=>Q (.tuple [b9,(.bool false)]) u) (us (aP 3 f c) fun c0=>upon (aT 3 (ak 1 b) c0 c) fun _ w=>us (aP 3 (ak 1 b) w) fun c1=>Q (.tuple [c1,(.bool true)]) w)))))) [(ak 0 h),(ak 1 h),(ak 2 h),(ak 3 h),(ak 4 h)] J) fun c2=>c2 [i,y,(.int .u64 0),H,(I 0)] d)):=by kernel_rfl
theorem RT (C:aN)(a b:CV)(st:St)(Q:CV->St->Prop):aH P0 C (lvs 138) 138 [a,b] st Q=(cd (us (cz a st) fun c=>us (al 1 c st) fun d=>us (aw d st) fun e=>us (cz a st) fun f=>us (al 2 f st) fun g=>us (aw g st) fun h=>us (ai .rem (none) false b h st) fun i=>us (ai .add (none) false e i st) fun j=>((True)/\(True)/\True)/\(True)/\Q j st)):=by kernel_rfl
theorem YU (C:aN)(f g:CV)(st:St)(Q:CV->St->Prop):aH P0 C (lvs 97) 97 [f,g] st Q=(upon (dd 231 [(I 0),(.bool false), .aa] st) fun b i=>eN 0 f i fun q=>C 50 [q,g] i fun j c=>us (aB j 0 c) fun r=>us (aB j 1 c) fun l=>us (ai .neq (some .int) true l (I 0) c) fun s=>aD s (us (bf [(I 0),(.bool false), .aa] [] c) fun t=>upon (aT 3 b t c) fun _ m=>us (aP 3 b m) fun u=>Q (.tuple [u,(.bool false),l]) m) (us (mF 512 r c) fun w=>us (aP 512 w c) fun x=>C 137 [x] c fun n h=>us (aB n 0 h) fun y=>us (aB n 1 h) fun d=>upon (aT 3 b y h) fun _ a=>cd (us (aP 3 b a) fun o=>us (aS (ag true d) a (.ok f a)) fun z=>us (aS (ag true d) a (al 0 b a)) fun A=>us (aS (ag true d) a (aw A a)) fun B=>cb (ag true d) a (fun k=>C 138 [z,B] a k) fun D e=>us (aS (ag true d) e (.ok g e)) fun E=>us (aS (ag true d) e (ai .eql (some .int) false D E e)) fun F=>us (aK d F (.bool false) e) fun G=>upon (aT 3 b o e) fun J p=>(((us (aP 3 b e) fun v=>v=o)/\True)/\(True)/\True)/\(True)/\us (aP 3 b p) fun H=>Q (.tuple [H,G,(I 0)]) p))):=by kernel_rfl
theorem RS (C:aN)(b:CV)(st:St)(Q:CV->St->Prop):aH P0 C (lvs 139) 139 [b] st Q=(upon (eO 146 b st) fun c a=>us (aw c a) fun f=>eN 3 f a fun g=>upon (dd 3 [(I 0)] a) fun d h=>upon (aT 1 d g h) fun _ e=>us (mH (.func 166) [] [d,c] e) fun i=>Q i e):=by kernel_rfl
theorem MP (C:aN)(c e:CV)(st:St)(Q:CV->St->Prop):aH P0 C (lvs 166) 166 [c,e] st Q=(upon (dd 231 [(I 0),(.bool false), .aa] st) fun i a=>cd (us (aw c a) fun r=>us (aw e a) fun s=>us (cz s a) fun t=>us (al 3 t a) fun u=>us (aw u a) fun w=>us (ai .sub (none) false r w a) fun x=>us (aw e a) fun y=>us (cz y a) fun z=>us (al 2 z a) fun A=>us (aw A a) fun B=>us (ai .eql (some .int) false x B a) fun D=>((True)/\(True)/\(True)/\(True)/\(True)/\True)/\(True)/\aD D (us (bf [(I 0),(.bool false), .aa] [] a) fun E=>upon (aT 3 i E a) fun _ m=>us (aP 3 i m) fun F=>Q (.tuple [F,(.bool false),(I 0)]) m) (us (aw c a) fun G=>us (ai .add (none) true G (I 1) a) fun H=>upon (aT 1 c H a) fun _ g=>cd (us (aw e (St.new g (.cells [(I 0),(.bool false), .aa] 231 false))) fun n=>us (aw e (St.new g (.cells [(I 0),(.bool false), .aa] 231 false))) fun J=>us (aw c (St.new g (.cells [(I 0),(.bool false), .aa] 231 false))) fun K=>C 138 [J,K] (St.new g (.cells [(I 0),(.bool false), .aa] 231 false)) fun L k=>C 97 [n,L] k fun l j=>us (aB l 0 j) fun M=>us (aB l 1 j) fun d=>us (aB l 2 j) fun N=>upon (gO g.next [(I 0),(.bool false), .aa] 231 j) fun h O=>upon (aT 3 h M O) fun V b=>(((us (aw e k) fun v=>v=n)/\True)/\(True)/\(True)/\((upon (gO g.next [(I 0),(.bool false), .aa] 231 (St.new g (.cells [(I 0),(.bool false), .aa] 231 false))) fun v _=>v=h)/\(upon (gO g.next [(I 0),(.bool false), .aa] 231 k) fun v _=>v=h)/\True)/\True)/\(True)/\cd (us (aP 3 h b) fun P=>us (aS (ag true d) b (al 0 h b)) fun o=>
 us (aS (ag true d) b (aw o b)) fun p=>us (aS (ag true d) b (aw c b)) fun q=>us (aS (ag true d) b (ai .eql (some .int) false p q b)) fun S=>us (aK d S (.bool false) b) fun T=>upon (aT 3 i P b) fun W f=>((True)/\((us (aS (ag true d) f (aw o f)) fun v=>v=p)/\True)/\((us (aS (ag true d) f (aw c f)) fun v=>v=q)/\True)/\True)/\(True)/\us (aP 3 i f) fun U=>Q (.tuple [U,T,N]) f))))):=by kernel_rfl
theorem YT (C:aN)(g:CV)(st:St)(Q:CV->St->Prop):aH P0 C (lvs 98) 98 [g] st Q=(cN (fun d q=>cf (fun a r n=>eG C (ak 3 a) [] r fun h e=>us (aB h 0 e) fun s=>us (aB h 1 e) fun t=>us (aB h 2 e) fun o=>upon (dd 231 [(I 0),(.bool false), .aa] e) fun f u=>upon (aT 3 f s u) fun _ b=>us (ai .neq (some .int) true o (I 0) b) fun i=>us (aS (ag false i) b (.ok t b)) fun w=>us (aS (ag false i) b (fA .not w b)) fun x=>us (aK i (.bool true) x b) fun y=>aD y (Q (.tuple [(ak 1 a),o]) b) (fl 2 f b fun z=>upon (cy 5 1 1 (ak 2 a) (dJ .slice 1 [(.int .u8 0)] z b) b) fun p j=>fl 1 f j fun A=>aD A (cd (upon (dW j.next 139 1 (cM 1 [.aa]) [(0,1,p)] (St.skip j)) fun B k=>upon (cy 139 1 24 (ak 1 a) (dJ .slice 1 [.aa] B k) k) fun D c=>us (al 0 f c) fun l=>us (aw l c) fun m=>us (cz (ak 0 a) c) fun E=>us (al 4 E c) fun F=>upon (aT 1 F m c) fun L G=>(((us (aw l k) fun v=>v=m)/\(us (aw l c) fun v=>v=m)/\True)/\True)/\((True)/\True)/\n [(ak 0 a),D, .aa,(ak 3 a)] G)) (n [(ak 0 a),(ak 1 a),p,(ak 3 a)] j))) [(ak 0 d),(ak 1 d),(ak 2 d),(ak 3 d)] q) fun H=>C 139 [g] st fun J K=>H [g, .aa, .aa,J] K):=by kernel_rfl
theorem Zv (C:aN)(i g d e:CV)(st:St)(Q:CV->St->Prop):aH P0 C (lvs 56) 56 [i,g,d,e] st Q=(us (ai .eql (some .ptr) true i .aC st) fun y=>aD y (Q (.tuple [.aC, .aa,(I 2)]) st) (C 47 [i] st fun r a=>us (ai .lss (none) true g (I 0) a) fun n=>us (aS (ag false n) a (.ok d a)) fun z=>us (aS (ag false n) a (ai .lss (none) true z (I 1) a)) fun A=>us (aK n (.bool true) A a) fun j=>us (aS (ag false j) a (.ok d a)) fun B=>us (aS (ag false j) a (.ok r a)) fun D=>us (aS (ag false j) a (ai .gtr (none) false B D a)) fun E=>us (aK j (.bool true) E a) fun f=>us (aS (ag false f) a (.ok g a)) fun F=>us (aS (ag false f) a (.ok r a)) fun G=>us (aS (ag false f) a (.ok d a)) fun H=>us (aS (ag false f) a (ai .sub (none) false G H a)) fun J=>us (aS (ag false f) a (ai .gtr (none) false F J a)) fun K=>us (aK f (.bool true) K a) fun o=>us (aS (ag false o) a (.ok e a)) fun L=>us (aS (ag false o) a (ai .lss (none) true L (I 0) a)) fun M=>us (aK o (.bool true) M a) fun p=>us (aS (ag false p) a (.ok e a)) fun N=>us (aS (ag false p) a (ai .gtr (none) true N (I 4611686018427387904) a)) fun O=>us (aK p (.bool true) O a) fun P=>aD P (Q (.tuple [.aC, .aa,(I 1)]) a) (us (bf [.aC,(I 0),(I 0),(I 0),(I 0),(I 0)] [(0,1,i),(1,1,g),(2,1,d),(3,1,e),(4,1,e),(5,1,e)] a) fun S=>upon (eO 229 S a) fun T U=>cN (fun k V=>cf (fun b l s=>us (ai .lss (none) false (ak 3 b) (ak 2 b) l) fun W=>aD W (us (ai .add (none) false (ak 0 b) (ak 3 b) l) fun X=>C 97 [(ak 1 b),X] l fun q m=>us (aB q 0 m) fun Y=>us (aB q 1 m) fun Z=>
 us (aB q 2 m) fun t=>upon (dd 231 [(I 0),(.bool false), .aa] m) fun u a0=>upon (aT 3 u Y a0) fun _ c=>us (ai .neq (some .int) true t (I 0) c) fun a1=>aD a1 (Q (.tuple [.aC, .aa,t]) c) (aD Z (cd (us (cz (ak 1 b) c) fun a2=>us (al 5 a2 c) fun a3=>us (aw a3 c) fun a4=>us (al 0 u c) fun a5=>us (aw a5 c) fun a6=>us (GG true a4 a6 c) fun a7=>us (cz (ak 1 b) c) fun a8=>us (al 5 a8 c) fun a9=>upon (aT 1 a9 a7 c) fun b5 v=>((True)/\(True)/\True)/\(True)/\us (ai .add (none) true (ak 3 b) (I 1) v) fun b0=>s [(ak 0 b),(ak 1 b),(ak 2 b),b0] v)) (us (ai .add (none) true (ak 3 b) (I 1) c) fun b1=>s [(ak 0 b),(ak 1 b),(ak 2 b),b1] c))) (C 98 [(ak 1 b)] l fun w h=>us (aB w 0 h) fun b2=>us (aB w 1 h) fun x=>us (ai .neq (some .int) true x (I 0) h) fun b3=>aD b3 (Q (.tuple [.aC, .aa,x]) h) (Q (.tuple [(ak 1 b),b2,(I 0)]) h))) [(ak 0 k),(ak 1 k),(ak 2 k),(ak 3 k)] V) fun b4=>b4 [g,T,d,(I 0)] U))):=by kernel_rfl
theorem Zq (C:aN)(a:CV)(st:St)(Q:CV->St->Prop):aH P0 C (lvs 61) 61 [a] st Q=(us (ai .eql (some .ptr) true a .aC st) fun b=>aD b (Q (I 0) st) (eN 5 a st fun c=>Q c st)):=by kernel_rfl
def le:Nat->Nat->List UInt8
 |0,_=>[]
 |k+1,n=>le k n++[UInt8.ofNat (n/256^k%256)]
theorem fg (k n:Nat):(le k n).length=k:=by induction k with|zero=>rfl|succ k ih=>simp[le,ih]
structure cp where
 n:Nat
 last:Bool
 data:List UInt8
def cp.bU (p:cp):ij:=le 8 p.n++[if p.last=true then 1 else 0,UInt8.ofNat (p.data.length%256),UInt8.ofNat (p.data.length/256%256)]++p.data++List.replicate (501-p.data.length) 0
theorem cp.rF (p:cp)(h:p.data.length<=501):p.bU.length=512:=by
 simp only[cp.bU,agq,fg,agT,ahV,agr];omega
theorem rT {n size b o j:Nat}(h:j<n)(st:St):cQ n size (.ptr b o) (I j) st= .ok (.ptr b (o+j*size)) st:=by
 have e:cQ n size (.ptr b o) (I j) st=bk (Nat.ble (Nat.succ j) n) (j9 (Nat.add o (Nat.mul j size)) fun o=> .ok (.ptr b o) st) .bad:=rfl;rw[e,aO,agl (by rw[agw];omega)];rfl
theorem Ar (n i:Nat)(hi:i<8)(d:Option gH)(c:Bool)(st:St):ai .shr d c (I n) (I ((8*i:Nat):Int)) st= .ok (I ((n/256^i:Nat):Int)) st:=by
 have e:ai .shr d c (I n) (I ((8*i:Nat):Int)) st=if ((8*i:Nat):Int)<0 then .bad else .ok (I ((n:Int).fdiv (2^(min ((8*i:Nat):Int).toNat 64)))) st:=rfl
 rw[e,agf (by omega),aia,agD (by omega),Int.fdiv_eq_ediv_of_nonneg _ (Int.le_of_lt (Int.pow_pos (by omega)))]
 congr 2
 have:(2:Nat)^(8*i)=256^i:=by rw[Nat.pow_mul]
 rw[<-this];simp
theorem C5 (n:Nat)(k:IntKind)(st:St):bQ (.toInt .u8) (.int k (n:Int)) st= .ok (bo (UInt8.ofNat (n%256))) st:=by
 rw[fY _ (by omega)];show OR.ok (.int .u8 (IntKind.u8.wrap n)) st=_;rw[CQ]
theorem o8 (A B:List CV)(x y:CV):bB (A++x::B) A.length [y]=A++y::B:=by
 unfold bB;simp
theorem pZ (P Z T:List CV):bB (P++Z) P.length T=P++(T++Z.drop T.length):=by
 unfold bB;simp[List.drop_append]
theorem mi (n:Nat):zr n=aj (List.replicate n 0):=by unfold zr aj;rw[List.map_replicate];rfl
section
variable {st st':St}
theorem Br {X:List Nat}{v:CV}{p:cp}(h:Sl st X v 1 (aj p.data))(hd:p.data.length<=501)(hn:p.n<9223372036854775808):R 165 [.agg [I p.n, .bool p.last,v]] st fun x st'=>x= .agg (aj p.bU)/\Kp [] st st':=by
 refine bp ?_;rw[RD];have hv:=h.jg;simp only[br,cn,bj];refine⟨rfl, ?_⟩;show cf _ _ _;simp only[aI,aJ];have wt:Kp [] st (St.new (St.new (St.new st (.cells [I p.n, .bool p.last,v] 231 false)) (.cells (zr 512) 290 false)) (.cells (zr 512) 290 false)):=(((Kp.refl [] st).new _).new _).new _
 refine bA (fun m vs s=>∃i,m+i=8/\vs=[.ptr st.next 0, .ptr (st.next+1) 0, .ptr (st.next+2) 0,I i]/\Kp [] st s/\s.next=st.next+3/\s.mem.get st.next=some (.cells [I p.n, .bool p.last,v] 231 false)/\s.mem.get (st.next+1)=some (.cells (zr 512) 290 false)/\
  s.mem.get (st.next+2)=some (.cells (aj (le i p.n++List.replicate (512-i) 0)) 290 false)) ?_ (n:=8) ⟨0,rfl,rfl,wt,rfl, ?_, ?_, ?_⟩
 ·rintro m vs s k ⟨i,hm,rfl,hk,hnx,g1,g2,g3⟩ next
  by_cases hi:i<8
  ·have gK:(i:Int)<8:=by omega
   have e1:IntKind.i64.wrap (8*(i:Int))=((8*i:Nat):Int):=by rw[bN (by omega)];omega
   have e2:IntKind.i64.wrap ((i:Int)+1)=((i+1:Nat):Int):=by rw[bN (by omega)];omega
   have e3:∀s,ai .lss none true (I i) (.int .i64 8) s= .ok (.bool true) s:=fun s=>by rw[aA,bK];simp only[gK,agW]
   have e4:∀s,ai .mul none true (.int .i64 8) (I i) s= .ok (I ((8*i:Nat):Int)) s:=fun s=>by rw[aA,jE,e1]
   have e5:∀s,ai .add none true (I i) (.int .i64 1) s= .ok (I ((i+1:Nat):Int)) s:=fun s=>by rw[aA,cR,e2]
   simp only[aI,aJ,e3,ae,ah,ags,fl,af,av,g1,ao,afZ,afX,au,e4,Ar _ _ hi,C5,rT (show i<512 by omega),aQ,g3,bg,e5];refine⟨⟨rfl,rfl,by simp[fg];omega⟩,next (m-1) _ _ (by omega) ⟨i+1,by omega,rfl,hk.set _ (.inr (by omega)) (by omega),hnx, ?_, ?_, ?_⟩⟩
   ·rw[aq _ _ _ _ (by omega)];exact g1
   ·rw[aq _ _ _ _ (by omega)];exact g2
   ·rw[az]
    congr 2
    have e6:List.replicate (512-i) (0:UInt8)=0::List.replicate (512-(i+1)) 0:=by
     rw[show 512-i=(512-(i+1))+1 by omega,agQ]
    rw[e6,bq,bq];have:=o8 (aj (le i p.n)) (aj (List.replicate (512-(i+1)) 0)) (bo 0) (bo (UInt8.ofNat (p.n/256^i%256)));rw[bJ,fg]at this;simp only[ahJ];show bB (aj (le i p.n)++bo 0::aj _) i [bo _]=_;rw[this];simp[le,aj]
  ·have gK:¬(i:Int)<8:=by omega
   have UL:i=8:=by omega
   subst UL
   have hb:aj (le 8 p.n++List.replicate (512-8) 0)=aj (le 8 p.n)++(bo 0::bo 0::bo 0::aj (List.replicate 501 0)):=by
    rw[bq];rfl
   have hA:(aj (le 8 p.n)).length=8:=by simp[fg]
   rw[hb]at g3;have e3:∀s,ai .lss none true (I ((8:Nat):Int)) (.int .i64 8) s= .ok (.bool false) s:=fun s=>rfl;simp only[aI,aJ,e3,ae,ah,afY,agn]
   refine pB (fun vs s=>vs=[.ptr st.next 0, .ptr (st.next+1) 0, .ptr (st.next+2) 0]/\Kp [] st s/\s.next=st.next+3/\s.mem.get st.next=some (.cells [I p.n, .bool p.last,v] 231 false)/\s.mem.get (st.next+1)=some (.cells (zr 512) 290 false)/\
    s.mem.get (st.next+2)=some (.cells (aj (le 8 p.n)++(bo (if p.last=true then 1 else 0)::bo 0::bo 0::aj (List.replicate 501 0))) 290 false)) ?_ ?_
   ·intro k' IV;have e8:∀s,cQ 512 1 (.ptr (st.next+2) 0) (.int .i64 8) s= .ok (.ptr (st.next+2) 8) s:=fun s=>rfl;simp only[fl,af,ae,av,g1,ao,afZ,agb,afX,au,ah]
    by_cases hl:p.last=true
    ·simp only[hl,ags,e8,ae,aQ,g3,bg];refine⟨⟨rfl,rfl,by simp[fg]⟩,IV _ _ ⟨rfl,hk.set _ (.inr (by omega)) (by omega),hnx, ?_, ?_, ?_⟩⟩
     ·rw[aq _ _ _ _ (by omega)];exact g1
     ·rw[aq _ _ _ _ (by omega)];exact g2
     ·rw[az];have:=o8 (aj (le 8 p.n)) (bo 0::bo 0::aj (List.replicate 501 0)) (bo 0) (bo 1);rw[hA]at this;rw[agl hl,<-this];rfl
    ·simp only[hl,afY,agn];exact IV _ _ ⟨rfl,hk,hnx,g1,g2,by rw[agf hl];exact g3⟩
   ·rintro _ s ⟨rfl,hk,hnx,g1,g2,g3⟩;have e9:∀s,cQ 512 1 (.ptr (st.next+2) 0) (.int .i64 9) s= .ok (.ptr (st.next+2) 9) s:=fun s=>rfl;have Jn:∀s,cQ 512 1 (.ptr (st.next+2) 0) (.int .i64 10) s= .ok (.ptr (st.next+2) 10) s:=fun s=>rfl;have QG:∀s,bM 512 1 (.ptr (st.next+2) 0) (some (.int .i64 11)) none s= .ok (.slice (st.next+2) 11 501 501 0) s:=fun s=>rfl;have hlen:=h.len p.data.length (by simp) (by omega);have eu1:∀s,bQ (.toInt .u8) (I p.data.length) s= .ok (bo (UInt8.ofNat (p.data.length%256))) s:=fun s=>C5 _ _ _
    have eu2:∀s,ai .shr none true (I p.data.length) (.int .u64 8) s= .ok (I ((p.data.length/256:Nat):Int)) s:=fun s=>by
     have e:ai .shr none true (I p.data.length) (.int .u64 8) s= .ok (I ((p.data.length:Int).fdiv 256)) s:=rfl;rw[e,Int.fdiv_eq_ediv_of_nonneg _ (by omega)];rfl
    have eu3:∀s,bQ (.toInt .u8) (I ((p.data.length/256:Nat):Int)) s= .ok (bo (UInt8.ofNat (p.data.length/256%256))) s:=fun s=>C5 _ _ _;generalize hfb:(if p.last=true then (1:UInt8)else 0)=fb at*;have en1:st.next≠st.next+2:=by omega
    simp only[aI,aJ,bG,af,ae,av,g1,g3,ao,bg,afZ,agb,afX,au,hlen,eu1,eu2,eu3,e9,Jn,QG,aQ,az,aq _ _ _ _ en1];have IK:∀b:UInt8,(bo b).bL=[bo b]:=fun _=>rfl;have kR:∀b:UInt8,bu [bo b]=true:=fun _=>rfl
    have wk:aj p.bU=aj (le 8 p.n)++(bo fb::bo (UInt8.ofNat (p.data.length%256))::bo (UInt8.ofNat (p.data.length/256%256))::(aj p.data++aj (List.replicate (501-p.data.length) 0))):=by
     simp[cp.bU,aj,hfb]
    generalize UInt8.ofNat (p.data.length%256)=b1 at*;generalize UInt8.ofNat (p.data.length/256%256)=b2 at*;have o1:=o8 (aj (le 8 p.n)++[bo fb]) (bo 0::aj (List.replicate 501 0)) (bo 0) (bo b1);have o2:=o8 (aj (le 8 p.n)++[bo fb,bo b1]) (aj (List.replicate 501 0)) (bo 0) (bo b2);have o3:=pZ (aj (le 8 p.n)++[bo fb,bo b1,bo b2]) (aj (List.replicate 501 0)) (aj p.data);simp only[agv,List.cons_append,agE,agq,hA,agT,ahV,Nat.reduceAdd]at o1 o2 o3;rw[IK,IK,o1,o2];have XM:(aj (le 8 p.n)++bo fb::bo 0::bo 0::aj (List.replicate 501 0)).length=512:=by simp[fg]
    have hl1:(aj (le 8 p.n)++bo fb::bo b1::bo 0::aj (List.replicate 501 0)).length=512:=by simp[fg]
    have hl2:(aj (le 8 p.n)++bo fb::bo b1::bo b2::aj (List.replicate 501 0)).length=512:=by simp[fg]
    refine⟨⟨rfl,rfl,by omega⟩,⟨rfl,rfl,by omega⟩,⟨trivial,⟨trivial,trivial⟩,trivial⟩,trivial, ?_⟩;simp only[nf]
    have lO:Sl (St.set s (st.next+2) (.cells (aj (le 8 p.n)++bo fb::bo b1::bo b2::aj (List.replicate 501 0)) 290 false)) [] v 1 (aj p.data):=by
     exact(h.oE (Y:=[]) (by simp)).mono (hk.set _ (.inr (by omega)) (by omega))
    obtain⟨s4,c1,c2,c3,c4⟩:=DK (n:=501) (cap:=501) (off:=11) lO (az _ _ _) (by simp;omega) (by rw[hl2];simp;omega) (bz _);rw[c1,bj]
    have N0:bB (aj (le 8 p.n)++bo fb::bo b1::bo b2::aj (List.replicate 501 0)) 11 (aj p.data)=aj p.bU:=by
     have e0:(aj (List.replicate 501 0)).drop (aj p.data).length=aj (List.replicate (501-p.data.length) 0):=by
      unfold aj;rw[<-List.map_drop,ahA,agM]
     rw[wk,o3,e0]
    rw[N0]at c3;have AU:(aj p.bU).length=512:=by simp[cp.rF p hd]
    have g4:s4.mem.get (st.next+1)=some (.cells (zr 512) 290 false):=by rw[c4 _ (by omega),aq _ _ _ _ (by omega)];exact g2
    have ht:List.take 512 (aj p.bU)=aj p.bU:=agk (by omega);have Xf:(zr 512).length=512:=agr;have nj:bB (zr 512) 0 (aj p.bU)=aj p.bU:=cW _ _ (by rw[Xf];exact AU);have XJ:=c2.trans hnx;simp only[jA,c3,g4,ao,bg,pa,agC,afZ,ht,ba,AU,bz,Xf,nj,az];refine⟨⟨trivial,trivial⟩,trivial,aga _,⟨trivial,trivial,aga _⟩,aga _,trivial, ?_⟩;have uQ:Kp [] st s4:=⟨by omega,fun q h1 h2=> ?_,fun hf q hq=> ?_⟩
    ·exact uQ.set _ (.inr (by omega)) (by omega)
    ·rw[c4 q (by omega),aq _ _ _ _ (by omega)];exact hk.keep q h1 h2
    ·rw[c4 q (by omega),aq _ _ _ _ (by omega)];exact hk.fresh hf q (by omega)
 ·rw[aU _ _ _ (by simp;omega),aU _ _ _ (by simp)];exact aG _ _
 ·rw[aU _ _ _ (by simp)];exact aG _ _
 ·have:(St.new (St.new st (.cells [I p.n, .bool p.last,v] 231 false)) (.cells (zr 512) 290 false)).next=st.next+2:=by simp
  rw[<-this];refine(aG _ _).trans ?_;rw[mi];rfl
end
theorem Kd {k n i:Nat}(h:i<k):(le k n)[i]?=some (UInt8.ofNat (n/256^i%256)):=by
 induction k with
 |zero=>omega
 |succ k ih=>
  simp only[le]
  by_cases hi:i<k
  ·rw[ahg (by rw[fg];exact hi)];exact ih hi
  ·have:i=k:=by omega
   subst this;rw[agN (by rw[fg];exact aga _),fg,Nat.sub_self];rfl
theorem zj {p:cp}{i:Nat}(h:i<8):(aj p.bU)[i]?=some (bo (UInt8.ofNat (p.n/256^i%256))):=by
 unfold cp.bU aj;rw[agB,agv,agv,ahg (by rw[fg];exact h),Kd h];rfl
theorem xm (p:cp):(aj p.bU)[8]?=some (bo (if p.last=true then 1 else 0)):=by
 unfold cp.bU aj;rw[agB,agv,agv,agN (by rw[fg];exact aga _),fg];rfl
theorem Dm (p:cp):(aj p.bU)[9]?=some (bo (UInt8.ofNat (p.data.length%256))):=by
 unfold cp.bU aj;rw[agB,agv,agv,agN (by rw[fg];omega),fg];rfl
theorem Bs (p:cp):(aj p.bU)[10]?=some (bo (UInt8.ofNat (p.data.length/256%256))):=by
 unfold cp.bU aj;rw[agB,agv,agv,agN (by rw[fg];omega),fg];rfl
theorem xl (p:cp):((aj p.bU).drop 11).take p.data.length=aj p.data:=by
 have e:aj p.bU=(aj (le 8 p.n)++aj [if p.last=true then 1 else 0,UInt8.ofNat (p.data.length%256),UInt8.ofNat (p.data.length/256%256)])++(aj p.data++aj (List.replicate (501-p.data.length) 0)):=by
  simp only[cp.bU,bq,agv]
 have hl:(aj (le 8 p.n)++aj [if p.last=true then (1:UInt8)else 0,UInt8.ofNat (p.data.length%256),UInt8.ofNat (p.data.length/256%256)]).length=11:=by rw[agq,bJ,bJ,fg];rfl
 rw[e,List.drop_append,agR (by omega),hl,Nat.sub_self,agC,agE,ahR,agk (by simp)];simp
theorem Gu:km=(cp.mk 0 false []).bU:=by decide+kernel
theorem Ah (k:Nat)(h:k<9223372036854775808):IntKind.i64.wrap (k:Int)=(k:Int):=bN (by omega)
theorem Is (a m:Nat)(k:Nat)(h:a<2^k)(hs:a+m*2^k<9223372036854775808):gD .or .i64 (a:Int) ((m*2^k:Nat):Int)=some ((a+m*2^k:Nat):Int):=by
 have e:gD .or .i64 (a:Int) ((m*2^k:Nat):Int)=some (IntKind.i64.wrap ((BitVec.ofInt 64 (a:Int)|||BitVec.ofInt 64 ((m*2^k:Nat):Int)).toNat:Int)):=rfl;rw[e,BitVec.ofInt_natCast,BitVec.ofInt_natCast,BitVec.toNat_or,BitVec.toNat_ofNat,BitVec.toNat_ofNat,ahv (by omega),ahv (by omega),Nat.or_comm,ahE m,<-Nat.two_pow_add_eq_or_of_lt h,Ah _ (by rw[ahE];omega),ahE,Nat.add_comm]
theorem DN (a m k:Nat)(h:a<2^k)(hs:a+m*2^k<9223372036854775808)(d:Option gH)(c:Bool)(st:St):ai .or d c (I a) (I ((m*2^k:Nat):Int)) st= .ok (I ((a+m*2^k:Nat):Int)) st:=by
 have e:ai .or d c (I a) (I ((m*2^k:Nat):Int)) st=(match gD .or .i64 (a:Int) ((m*2^k:Nat):Int)with|some r=> .ok (.int .i64 r) st|none=> .bad):=rfl;rw[e,Is a m k h hs]
theorem DM (a m k:Nat)(h:a<2^k)(hs:a+m*2^k<18446744073709551616)(d:Option gH)(c:Bool)(st:St):ai .or d c (.int .u64 a) (.int .u64 ((m*2^k:Nat):Int)) st= .ok (.int .u64 ((a+m*2^k:Nat):Int)) st:=by
 have e:ai .or d c (.int .u64 a) (.int .u64 ((m*2^k:Nat):Int)) st=(match gD .or .u64 (a:Int) ((m*2^k:Nat):Int)with|some r=> .ok (.int .u64 r) st|none=> .bad):=rfl;rw[e,No a m k h hs]
theorem BE (a k:Nat)(hk:k<=64)(hs:a*2^k<18446744073709551616)(d:Option gH)(c:Bool)(st:St):ai .shl d c (.int .u64 a) (I k) st= .ok (.int .u64 ((a*2^k:Nat):Int)) st:=by
 have e:ai .shl d c (.int .u64 a) (I k) st=if (k:Int)<0 then .bad else .ok (.int .u64 (IntKind.u64.wrap ((a:Int)*2^(min (k:Int).toNat 64)))) st:=rfl
 rw[e,agf (by omega),aia,agD hk];have e2:(a:Int)*2^k=((a*2^k:Nat):Int):=by simp
 rw[e2,lj _ hs]
theorem xa (n:Nat)(h:n<9223372036854775808)(k:IntKind)(st:St):bQ (.toInt .i64) (.int k (n:Int)) st= .ok (I n) st:=by
 show OR.ok (.int .i64 (IntKind.i64.wrap n)) st=_;rw[Ah n h]
theorem MY (n:Nat)(h:n<18446744073709551616)(k:IntKind)(st:St):bQ (.toInt .u64) (.int k (n:Int)) st= .ok (.int .u64 n) st:=by
 show OR.ok (.int .u64 (IntKind.u64.wrap n)) st=_;rw[lj n h]
theorem BF (a b:List UInt8)(n:Nat)(h1:a.length=n)(h2:b.length=n)(c:Bool)(st:St):ai .neq (some (.bytes n)) c (.agg (aj a)) (.agg (aj b)) st= .ok (.bool (!(a==b))) st:=by
 rw[vT];have e:jx (.bytes n) (.agg (aj a)) (.agg (aj b))=(match yN (aj a),yN (aj b)with|some a,some b=>bk (decide (a.length=n)&&decide (b.length=n)) (some (a==b)) none|_,_=>none):=rfl;have e1:yN (aj a)=some a:=vf a;have e2:yN (aj b)=some b:=vf b;rw[e,e1,e2];simp[h1,h2,aO]
section
variable {st st':St}
def cp.ok (p:cp):Prop:=p.n<=4611686018427387904/\p.data.length<=501/\(p.n=0->p.data=[]/\p.last=false)/\(p.n≠0->p.last=false->p.data.length=501)
def LV (p:cp)(st:St)(x:CV)(st':St):Prop:=∃v,x= .agg [I p.n, .bool p.last,v]/\Made 1 5 (aj p.data) st v st'
theorem zx {p:cp}(hf:dw st)(hp:p.ok):R 137 [.agg (aj p.bU)] st fun x st'=>∃y,x= .tuple [y, .bool (decide (p.n≠0))]/\LV p st y st':=by
 obtain⟨Qf,Er,Qe,Xv⟩:=hp;refine bp ?_;rw[RU];have hlen:=cp.rF p Er;have hbl:(aj p.bU).length=512:=by simp[hlen]
 have e9:∀s,cQ 512 1 (.ptr st.next 0) (.int .i64 9) s= .ok (.ptr st.next 9) s:=fun s=>rfl;have Jn:∀s,cQ 512 1 (.ptr st.next 0) (.int .i64 10) s= .ok (.ptr st.next 10) s:=fun s=>rfl
 have f9:∀s,bQ (.toInt .i64) (bo (UInt8.ofNat (p.data.length%256))) s= .ok (I ((p.data.length%256:Nat):Int)) s:=fun s=>by
  rw[fY _ (by omega),xa _ (by omega)]
 have f10:∀s,bQ (.toInt .i64) (bo (UInt8.ofNat (p.data.length/256%256))) s= .ok (I ((p.data.length/256%256:Nat):Int)) s:=fun s=>by
  rw[fY _ (by omega),xa _ (by omega)]
 have f11:∀s,ai .shl none true (I ((p.data.length/256%256:Nat):Int)) (.int .u64 8) s= .ok (I ((p.data.length/256%256*2^8:Nat):Int)) s:=fun s=>by
  have e:ai .shl none true (I ((p.data.length/256%256:Nat):Int)) (.int .u64 8) s= .ok (I (IntKind.i64.wrap (((p.data.length/256%256:Nat):Int)*2^8))) s:=rfl;rw[e,bN (by omega)];simp
 have f12:∀s,ai .or none false (I ((p.data.length%256:Nat):Int)) (I ((p.data.length/256%256*2^8:Nat):Int)) s= .ok (I p.data.length) s:=fun s=>by
  rw[DN _ _ _ (by omega) (by omega)];congr 3;omega
 have hx:(CV.agg (aj p.bU)).isAny=false:=rfl;have hk2:Kp [] st (St.new (St.new st (.cells (aj p.bU) 290 false)) (.cells [.int .i64 0, .bool false, .aa] 231 false)):=((Kp.refl [] st).new _).new _
 have g1:(St.new (St.new st (.cells (aj p.bU) 290 false)) (.cells [.int .i64 0, .bool false, .aa] 231 false)).mem.get st.next=some (.cells (aj p.bU) 290 false):=by
  rw[aU _ _ _ (by simp)];exact aG _ _
 have g2:(St.new (St.new st (.cells (aj p.bU) 290 false)) (.cells [.int .i64 0, .bool false, .aa] 231 false)).mem.get (st.next+1)=some (.cells [.int .i64 0, .bool false, .aa] 231 false):=aG (St.new st (.cells (aj p.bU) 290 false)) _;simp only[br,cn,bj,ba];refine⟨rfl, ?_⟩;simp only[bG,e9,Jn,ae,av,g1,ao,Dm,Bs,au,f9,f10,f11,f12];refine⟨⟨trivial,trivial,trivial⟩,trivial, ?_⟩;show cf _ _ _;simp only[aI,aJ,pf];refine bA (fun m vs s=>∃i,m+i=8/\vs=[.ptr st.next 0, .ptr (st.next+1) 0, .int .u64 ((p.n%256^i:Nat):Int),I p.data.length,I i]/\s=(St.new (St.new st (.cells (aj p.bU) 290 false)) (.cells [.int .i64 0, .bool false, .aa] 231 false))) ?_ (n:=8) ⟨0,rfl,by simp[Nat.mod_one],rfl⟩;rintro m vs s k ⟨i,hm,rfl,rfl⟩ next;generalize hS:(St.new (St.new st (.cells (aj p.bU) 290 false)) (.cells [.int .i64 0, .bool false, .aa] 231 false))=S at*;have X8:S.next=st.next+2:=by rw[<-hS];rfl
 by_cases hi:i<8
 ·have gK:(i:Int)<8:=by omega
  have a1:ai .lss none true (I i) (.int .i64 8) S= .ok (.bool true) S:=by rw[aA,bK];simp only[gK,agW]
  have a2:ai .mul none true (.int .i64 8) (I i) S= .ok (I ((8*i:Nat):Int)) S:=by rw[aA,jE,bN (by omega)];rfl
  have a3:ai .add none true (I i) (.int .i64 1) S= .ok (I ((i+1:Nat):Int)) S:=by rw[aA,cR,bN (by omega)];rfl
  have a4:bQ (.toInt .u64) (bo (UInt8.ofNat (p.n/256^i%256))) S= .ok (.int .u64 ((p.n/256^i%256:Nat):Int)) S:=by rw[fY _ (by omega),MY _ (by omega)]
  have Hv:(2:Nat)^(8*i)=256^i:=by rw[Nat.pow_mul]
  have abT:256^i<=256^7:=Nat.pow_le_pow_right (by omega) (by omega)
  have hb:p.n/256^i%256*256^i<=p.n:=by
   have h1:p.n/256^i%256<=p.n/256^i:=Nat.mod_le _ _;exact aha (agS _ h1) (Nat.div_mul_le_self _ _)
  have KF:p.n%256^i<256^i:=Nat.mod_lt _ (Nat.pow_pos (by omega))
  have ku:p.n%256^i+p.n/256^i%256*256^i=p.n%256^(i+1):=by
   rw[ahZ,Nat.mod_mul,ahE (256^i)]
  have a5:ai .shl none false (.int .u64 ((p.n/256^i%256:Nat):Int)) (I ((8*i:Nat):Int)) S= .ok (.int .u64 ((p.n/256^i%256*2^(8*i):Nat):Int)) S:=BE _ _ (by omega) (by rw[Hv];omega) _ _ _
  have a6:ai .or none false (.int .u64 ((p.n%256^i:Nat):Int)) (.int .u64 ((p.n/256^i%256*2^(8*i):Nat):Int)) S= .ok (.int .u64 ((p.n%256^(i+1):Nat):Int)) S:=by
   rw[DM _ _ _ (by rw[Hv];exact KF) (by rw[Hv,ku];have:=Nat.mod_le p.n (256^(i+1));omega),Hv,ku]
  simp only[aI,aJ,a1,ae,ah,ags,rT (show i<512 by omega),afZ,ahJ,av,g1,ao,zj hi,au,a4,a2,a5,a6,a3];exact next (m-1) _ _ (by omega) ⟨i+1,by omega,rfl,rfl⟩
 ·have UL:i=8:=by omega
  subst UL;have KD:p.n%256^8=p.n:=ahv (by omega);rw[KD];have a1:∀s,ai .lss none true (I ((8:Nat):Int)) (.int .i64 8) s= .ok (.bool false) s:=fun s=>rfl;simp only[aI,aJ,a1,ae,ah,afY,agn]
  by_cases h0:p.n=0
  ·obtain⟨d0,l0⟩:=Qe h0;have b1:∀s,ai .lss none true (.int .u64 ((p.n:Nat):Int)) (.int .u64 1) s= .ok (.bool true) s:=fun s=>by rw[h0];rfl
   have hpo:p=⟨0,false,[]⟩:=by cases p;simp_all
   simp only[b1,ae,aE,bT,aF,ags,agm,afY,agn,ah,eF,nq,aQ,g2,bg,ba,jA,az,ao,pa];refine⟨⟨rfl,rfl,by decide⟩,by decide, .agg [I p.n, .bool p.last, .aa], ?_, .aa,rfl,[],hk2.set _ (.inr (by omega)) (by omega), .inl ⟨rfl,by rw[d0];rfl,rfl⟩,by simp⟩;rw[h0,l0];rfl
  ·have b1:∀s,ai .lss none true (.int .u64 ((p.n:Nat):Int)) (.int .u64 1) s= .ok (.bool false) s:=fun s=>by
    rw[aA,bK,agc (by omega)]
   have b2:∀s,ai .gtr none true (.int .u64 ((p.n:Nat):Int)) (.int .u64 4611686018427387904) s= .ok (.bool false) s:=fun s=>by
    rw[aA,cC,agc (by omega)]
   have b3:∀s,ai .gtr none true (I p.data.length) (.int .i64 501) s= .ok (.bool false) s:=fun s=>by
    rw[aA,cC,agc (by omega)]
   have b4:∀s,bQ (.toInt .i64) (.int .u64 ((p.n:Nat):Int)) s= .ok (I p.n) s:=fun s=>xa _ (by omega) _ _;have e8:∀s,cQ 512 1 (.ptr st.next 0) (.int .i64 8) s= .ok (.ptr st.next 8) s:=fun s=>rfl;generalize Lh:St.new (St.skip S) (.cells [.int .i64 0, .bool false, .aa] 231 false)=S3;have O5:S3.next=st.next+4:=by rw[<-Lh];simp;omega
   have wt:Kp [] st S3:=by rw[<-Lh];exact hk2.skip.new _
   have nQ:S3.mem.get S.next=none:=by rw[<-Lh,aU _ _ _ (by simp)];exact hk2.fresh hf _ (aga _)
   have hpc:S3.mem.get (st.next+3)=some (.cells [.int .i64 0, .bool false, .aa] 231 false):=by
    have:st.next+3=(St.skip S).next:=by simp;omega
    rw[this,<-Lh];exact aG _ _
   have ME:S3.mem.get st.next=some (.cells (aj p.bU) 290 false):=by rw[<-Lh,aU _ _ _ (by simp;omega)];exact g1
   have VL:S3.mem.get (st.next+1)=some (.cells [.int .i64 0, .bool false, .aa] 231 false):=by rw[<-Lh,aU _ _ _ (by simp;omega)];exact g2
   have b8:∀s,ai .eql (some .int) true (bo (if p.last=true then 1 else 0)) (.int .u8 1) s= .ok (.bool p.last) s:=fun s=>by cases p.last<;>rfl
   have Ts:(St.skip S).next=st.next+3:=by simp;omega
   simp only[b1,ae,aE,aM,aF,agj,afY,agn,ah,b2,b3,b4,e8,av,ME,ao,xm,au,b8,X8,Ts];rw[X8]at nQ;have ye:eZ ([]:List nI) (cM 0 [CV.int .u8 0])=some []:=rfl;rw[mG nQ ye,bj]
   have c1:∀s,ai .add none true (.int .i64 11) (I p.data.length) s= .ok (I ((11+p.data.length:Nat):Int)) s:=fun s=>by
    rw[aA,cR,bN (by omega)];rfl
   have c2:∀s,bM 512 1 (.ptr st.next 0) (some (.int .i64 11)) (some (I ((11+p.data.length:Nat):Int))) s= .ok (.slice st.next 11 p.data.length 501 0) s:=fun s=>by
    have:=lE (n:=512) (b:=st.next) (l:=11) (h:=11+p.data.length) (by omega) (by omega) (by omega) s;rw[ahk]at this;exact this
   have uQ:Kp [] st (St.set S3 (st.next+2) (.cells [] 5 false)):=wt.set _ (.inr (by omega)) (by omega);have adh:(St.set S3 (st.next+2) (.cells [] 5 false)).next=st.next+4:=O5;have Lv:(St.set S3 (st.next+2) (.cells [] 5 false)).mem.get st.next=some (.cells (aj p.bU) 290 false):=by rw[aq _ _ _ _ (by omega)];exact ME
   have g24:(St.set S3 (st.next+2) (.cells [] 5 false)).mem.get (st.next+1)=some (.cells [.int .i64 0, .bool false, .aa] 231 false):=by rw[aq _ _ _ _ (by omega)];exact VL
   have Jk:(St.set S3 (st.next+2) (.cells [] 5 false)).mem.get (st.next+3)=some (.cells [.int .i64 0, .bool false, .aa] 231 false):=by rw[aq _ _ _ _ (by omega)];exact hpc
   have TY:Own (St.set S3 (st.next+2) (.cells [] 5 false)) (.slice (st.next+2) 0 0 0 0) 1 5 [] [st.next+2]:= .inr (.inl ⟨_,_,_,_,rfl,rfl,rfl,az _ _ _⟩);generalize St.set S3 (st.next+2) (.cells [] 5 false)=S4 at*;have lO:Sl S4 [] (.slice st.next 11 p.data.length 501 0) 1 (aj p.data):= .inr ⟨st.next,11,p.data.length,501,0,rfl,by simp,⟨Er, .inl rfl⟩, .inr ⟨by simp,by omega,_,_,_,Lv,by rw[hbl];omega,by rw[ahJ];exact xl p⟩⟩;have c3:=(lO.Fj (by omega) p.data.length (by simp)).1
   have c4:dJ .slice 1 [(.int .u8 0)] (.slice st.next 11 p.data.length 501 0) S4=some (p.data.length,aj p.data):=by
    have e:dJ .slice 1 [(.int .u8 0)] (.slice st.next 11 p.data.length 501 0) S4=(match cY 1 p.data.length (.slice st.next 11 p.data.length 501 0) S4 with|some s=>some (p.data.length,s)|none=>none):=rfl;rw[e,c3]
   obtain⟨v',S7,F',d1,d2,d3,d4⟩:=TY.append (n:=p.data.length) (bytes:=1) (T:=aj p.data) (by omega) (by simp) (bz _) (by simp;omega) (by simp;omega);rw[agE]at d2;obtain⟨o1,o2⟩:=d2.bW
   have oz:∀b∈F',st.next+2<=b/\b<S7.next/\b≠st.next+3:=fun b hb=>by
    obtain⟨h1,h2⟩:=d4 b hb;simp at h1;omega
   have o3:=(d2.sl (X:=[]) fun b hb=>⟨by simp,(oz b hb).2.1⟩).jg.1;have k7:∀b,b<st.next+4->b≠st.next+2->S7.mem.get b=S4.mem.get b:=fun b h1 h2=>d3.keep b (by omega) (by simpa using h2);have XI:st.next+4<=S7.next:=by have:=d3.next;omega
   have UG:=uQ.trans d3 (by simp);have MD:=(k7 st.next (by omega) (by omega)).trans Lv;have g27:=(k7 (st.next+1) (by omega) (by omega)).trans g24;have QE:=(k7 (st.next+3) (by omega) (by omega)).trans Jk
   have kx:bf [.int .i64 0, .bool false, .aa] [(0,1,I p.n),(1,1, .bool p.last),(2,1,v')] S7= .ok (.agg [I p.n, .bool p.last,v']) S7:=by
    rw[eF];simp[dG,bB,o2,o3]
   simp only[c1,ae,c2,c4,d1,bj,kx,jz QE,jz Jk,aQ,QE,bg,ba,Lv,MD,ao,xm,au];have nj:bB [.int .i64 0, .bool false, .aa] 0 [I p.n, .bool p.last,v']=[I p.n, .bool p.last,v']:=cW _ _ rfl;rw[nj];refine⟨⟨rfl,by simp[o1],by decide⟩,⟨⟨trivial,trivial,trivial⟩,⟨trivial,trivial,trivial⟩,trivial⟩,⟨trivial,trivial⟩, ?_⟩;have hk9:Kp [] st (St.set S7 (st.next+3) (.cells [I p.n, .bool p.last,v'] 231 false)):=UG.set _ (.inr (by omega)) (by omega);have Yp:(St.set S7 (st.next+3) (.cells [I p.n, .bool p.last,v'] 231 false)).mem.get st.next=some (.cells (aj p.bU) 290 false):=by rw[aq _ _ _ _ (by omega)];exact MD
   have g29:(St.set S7 (st.next+3) (.cells [I p.n, .bool p.last,v'] 231 false)).mem.get (st.next+1)=some (.cells [.int .i64 0, .bool false, .aa] 231 false):=by rw[aq _ _ _ _ (by omega)];exact g27
   have Yo:(St.set S7 (st.next+3) (.cells [I p.n, .bool p.last,v'] 231 false)).mem.get (st.next+3)=some (.cells [I p.n, .bool p.last,v'] 231 false):=az _ _ _;have d9:Own (St.set S7 (st.next+3) (.cells [I p.n, .bool p.last,v'] 231 false)) v' 1 5 (aj p.data) F':=d2.mono fun b hb=>aq _ _ _ _ (oz b hb).2.2;have hn9:(St.set S7 (st.next+3) (.cells [I p.n, .bool p.last,v'] 231 false)).next=S7.next:=rfl;generalize St.set S7 (st.next+3) (.cells [I p.n, .bool p.last,v'] 231 false)=S9 at*;have BY:∀s:St,s.mem.get (st.next+3)=some (.cells [I p.n, .bool p.last,v'] 231 false)->aP 3 (.ptr (st.next+3) 0) s= .ok (.agg [I p.n, .bool p.last,v']) s:=fun s hs=>aR hs rfl;have IU:∀s:St,s.mem.get st.next=some (.cells (aj p.bU) 290 false)->aP 512 (.ptr st.next 0) s= .ok (.agg (aj p.bU)) s:=fun s hs=>aR hs hbl;rw[BY S9 Yo,ae];refine(Br (p:=p) (d9.sl (X:=[]) fun b hb=>⟨by simp,by have:=(oz b hb).2.1;omega⟩) Er (by omega)).mono ?_;rintro x S10 ⟨rfl,sv⟩;have VQ:=(sv.keep st.next (by omega) (by simp)).trans Yp;have VM:=(sv.keep (st.next+1) (by omega) (by simp)).trans g29;have Po:=(sv.keep (st.next+3) (by omega) (by simp)).trans Yo
   have q1:ai .neq (some (.bytes 512)) false (.agg (aj p.bU)) (.agg (aj p.bU)) S10= .ok (.bool false) S10:=by
    rw[BF _ _ _ hlen hlen];simp
   have q2:ai .neq (some .int) true (I p.data.length) (.int .i64 501) S10= .ok (.bool (!decide (p.data.length=501))) S10:=by
    rw[aA,eR];congr 3;simp only[ahf];omega
   simp only[IU S10 VQ,IU S9 Yp,ae,q1,aE,aM,agj,afY,ags,agn,af,av,Po,ao,afZ,agb,afX,au,bt];have q3:(!p.last)=true->p.data.length=501:=fun h=>Xv h0 (by simpa using h)
   have q4:us (aS (some !p.last) S10 (.ok (I p.data.length) S10)) fun kF=>us (aS (some !p.last) S10 (ai .neq (some .int) true kF (.int .i64 501) S10)) fun tp=>us (aK (.bool !p.last) tp (.bool false) S10) fun tn=>tn= .bool false:=by
    cases hl:p.last with
    |true=>simp
    |false=>
     have:=q3 (by rw[hl];rfl);simp only[agj,aM,ae,q2,aF,ags];rw[this];rfl
   refine oK q4 fun _ h1=>oK h1 fun _ h2=>oK h2 fun _ h3=> ?_;subst h3;simp only[aF,afY,agn,ae,ah,BY S10 Po,VM,bg,ba,nj];refine⟨⟨trivial,⟨trivial,trivial⟩,trivial,trivial⟩,trivial,⟨rfl,by simp[o1],by decide⟩, ?_⟩;rw[aR (n:=3) (az S10 (st.next+1) (.cells [I p.n, .bool p.last,v'] 231 false)) rfl,ae];have OF:=hk9.trans sv (by simp);have acf:=sv.next;refine⟨.agg [I p.n, .bool p.last,v'],by rw[agi h0],v',rfl,F',OF.set _ (.inr (by omega)) (by omega),d9.mono fun b hb=> ?_,fun b hb=>⟨by have:=(oz b hb).1;omega,by have:=(oz b hb).2.1;simp;omega⟩⟩;obtain⟨h1,h2,h3⟩:=oz b hb;rw[aq _ _ _ _ (by omega)];exact sv.keep b (by omega) (by simp)
end
section
variable {st st':St}
structure RingM where
 first:Nat
 count:Nat
 base:Nat
 last:Nat
 top:Nat
def gj (st:St)(r a:Nat)(m:RingM):Prop:=r<st.next/\st.mem.get r=some (.cells [.ptr a 0,I m.first,I m.count,I m.base,I m.last,I m.top] 229 false)
theorem gj.keep {r a:Nat}{m:RingM}{X:List Nat}(h:gj st r a m)(hk:Kp X st st')(hx:r∉X):gj st' r a m:=⟨ago h.1 hk.next,by rw[hk.keep r h.1 hx];exact h.2⟩
def RingM.place (m:RingM)(n:Nat):Nat:=m.first+n%m.count
theorem xB {r a:Nat}{m:RingM}(h:gj st r a m)(h0:0<m.count)(hs:m.first+m.count<=1000000){n:Nat}(hn:n<=9000000000000000000):R 138 [.ptr r 0,I n] st fun v st'=>v=I (m.place n)/\st'=st:=by
 obtain⟨h1,h2⟩:=h;refine bp ?_;rw[RT];have e1:¬((m.count:Int)=0):=by omega
 have e2:IntKind.i64.wrap ((m.first:Int)+Int.tmod n m.count)=((m.place n:Nat):Int):=by
  have hm:n%m.count<m.count:=Nat.mod_lt _ h0;have:Int.tmod (n:Int) m.count=((n%m.count:Nat):Int):=by rw[Int.tmod_eq_emod_of_nonneg (by omega)];rfl
  rw[this];unfold RingM.place;rw[bN (by omega)];omega
 have e3:¬m.count=0:=by omega
 simp[h2,e2,e3]
theorem JI {r a:Nat}{m:RingM}(h:gj st r a m):R 61 [.ptr r 0] st fun v st'=>v=I m.top/\st'=st:=by
 obtain⟨h1,h2⟩:=h;refine bp ?_;rw[Zq];simp[eN,h2]
def RingM.room (m:RingM):Int:=if m.last<m.top then 0 else (m.count:Int)-((m.last:Int)-m.base)
def dD (n:Nat):Nat:=if n=0 then 1 else (n-1)/501+1
theorem xt {r a:Nat}{m:RingM}{F:List Nat}{D:aW}{p:cp}{at_:Nat}(hf:dw st)(h:gj st r a m)(hd:cV st a F D)(hr:r∉F)(wx:D.dead=false)(h0:0<m.count)(hs:m.first+m.count<=1000000)
 (hat:at_<D.ar.length) (hp:p.ok) (hc:D.cur at_=p.bU):R 97 [.ptr r 0,I at_] st fun x st'=>∃y,x= .tuple [y, .bool (decide (p.n≠0/\m.place p.n=at_)),I 0]/\LV p st y st':=by
 have h':=h;obtain⟨h1,h2⟩:=h;refine bp ?_;rw[YU];have mg:Kp [] st (St.new st (.cells [.int .i64 0, .bool false, .aa] 231 false)):=(Kp.refl [] st).new _;have g1:(St.new st (.cells [.int .i64 0, .bool false, .aa] 231 false)).mem.get st.next=some (.cells [.int .i64 0, .bool false, .aa] 231 false):=aG _ _;have g2:=(mg.keep r h1 (by simp)).trans h2;have OT:=hd.keep mg (by simp);have Qk:(St.new st (.cells [.int .i64 0, .bool false, .aa] 231 false)).next=st.next+1:=rfl;simp only[cn,bj];generalize St.new st (.cells [.int .i64 0, .bool false, .aa] 231 false)=S1 at*;simp[eN,g2];refine(rf OT at_).mono ?_;intro x S2 hx
 have er:D.read at_=(0,p.bU):=by
  simp[aW.read,wx,hc,Int.not_le.mpr (show(at_:Int)<D.ar.length by omega)]
 rw[er,agl rfl]at hx;obtain⟨hk2,hl,b,rfl,g3,b1,b2⟩:=hx;have adi:=hk2.next;have Eo:mF 512 (.slice b 0 512 512 1) S2= .ok (.ptr b 0) S2:=rfl;have Ev:(aj p.bU).length=512:=by simp[hl]
 simp only[ay,aL,ae,aA,eR,agW,agm,ah,afY,agn,Eo,aR g3 Ev];refine(zx (hk2.fresh (mg.fresh hf)) hp).mono ?_;rintro _ S3 ⟨_,rfl,v,rfl,Fv,wt,ho,Cb⟩;have UH:=(mg.trans hk2 (by simp)).trans wt (by simp)
 have ME:S3.mem.get st.next=some (.cells [.int .i64 0, .bool false, .aa] 231 false):=by
  rw[wt.keep _ (by omega) (by simp),hk2.keep _ (by omega) (by simp)];exact g1
 have O5:=wt.next;obtain⟨o1,o2⟩:=ho.bW;have nj:bB [.int .i64 0, .bool false, .aa] 0 [I p.n, .bool p.last,v]=[I p.n, .bool p.last,v]:=cW _ _ rfl;have nH:bB [I p.n, .bool p.last,v] 0 [I p.n, .bool p.last,v]=[I p.n, .bool p.last,v]:=cW _ _ rfl;simp only[ay,aL,ae,ME,bg,ba,nj];refine⟨⟨rfl,by simp[o1],by decide⟩, ?_⟩;have uQ:Kp [] st (St.set S3 st.next (.cells [I p.n, .bool p.last,v] 231 false)):=UH.set _ (.inr (aga _)) (by omega);have g4:(St.set S3 st.next (.cells [I p.n, .bool p.last,v] 231 false)).mem.get st.next=some (.cells [I p.n, .bool p.last,v] 231 false):=az _ _ _;have TY:Own (St.set S3 st.next (.cells [I p.n, .bool p.last,v] 231 false)) v 1 5 (aj p.data) Fv:=ho.mono fun q hq=>aq _ _ _ _ (by have:=(Cb q hq).1;omega);have XJ:(St.set S3 st.next (.cells [I p.n, .bool p.last,v] 231 false)).next=S3.next:=rfl;have Qc:=h'.keep uQ (by simp);generalize St.set S3 st.next (.cells [I p.n, .bool p.last,v] 231 false)=S4 at*;refine⟨by simp, ?_⟩;have ht3:List.take 3 [I p.n,CV.bool p.last,v]=[I p.n, .bool p.last,v]:=rfl
 have fin:∀bb:Bool,bb=(!decide (p.n=0)&&decide (m.place p.n=at_))->LV p st (.agg [I p.n, .bool p.last,v]) (St.set S4 st.next (.cells [I p.n, .bool p.last,v] 231 false)):=fun bb _=>
  ⟨v,rfl,Fv,uQ.set _ (.inr (aga _)) (by omega),TY.mono fun q hq=>aq _ _ _ _ (by have:=(Cb q hq).1;omega),fun q hq=>⟨by have:=(Cb q hq).1;omega,by have:=(Cb q hq).2;simp;omega⟩⟩
 by_cases Oc:p.n=0
 ·simp[Oc,g4,o1];have KB:bB [I 0,CV.bool p.last,v] 0 [I 0,CV.bool p.last,v]=[I 0,CV.bool p.last,v]:=cW _ _ rfl;rw[KB];have:=fin _ rfl;rw[Oc]at this;exact this
 ·simp only[Oc,ne_eq,not_false_eq_true,agW,aE,ags,aM,ae,av,g4,ao,afX,au,bF];have Qf:=hp.1;refine(xB Qc h0 hs (n:=p.n) (by omega)).same ?_;simp[g4,o1,nH];exact⟨_,⟨rfl,by omega⟩,fin _ rfl⟩
end
section
variable {st st':St}
structure mW (D:aW)(m:RingM)(P:Nat->cp):Prop where
 pos:0<m.count
 fits:m.first+m.count<=D.ar.length
 kq:D.ar.length<=65536
 base:m.base<=4611686018427387904
 cur:∀j,j<m.count->D.cur (m.first+j)=(P j).bU/\(P j).ok
def lW (st:St)(f:CV)(c q r n:Nat):Prop:=f= .func (.func 166) [] [.ptr c 0, .ptr q 0]/\c<st.next/\q<st.next/\c≠q/\st.mem.get c=some (.cells [I n] 3 false)/\st.mem.get q=some (.cells [.ptr r 0] 146 false)
theorem lW.keep {f:CV}{c q r n:Nat}{X:List Nat}(h:lW st f c q r n)(hk:Kp X st st')(h1:c∉X)(h2:q∉X):lW st' f c q r n:=by
 obtain⟨g1,g2,g3,g4,g5,g6⟩:=h;exact⟨g1,ago g2 hk.next,ago g3 hk.next,g4,by rw[hk.keep c g2 h1];exact g5,by rw[hk.keep q g3 h2];exact g6⟩
theorem zw {r a:Nat}{m:RingM}(h:gj st r a m):R 139 [.ptr r 0] st fun f st'=>Kp [] st st'/\∃c q,lW st' f c q r m.base/\st.next<=c/\st.next<=q:=by
 obtain⟨h1,h2⟩:=h;refine bp ?_;rw[RS];have g2:(St.new st (.cells [.ptr r 0] 146 false)).mem.get r=st.mem.get r:=aU _ _ _ h1;have Tv:CV.bL (.ptr r 0)=[.ptr r 0]:=rfl;have Lg:CV.isAny (.ptr r 0)=false:=rfl;simp only[br,Tv,Lg,av,aG,ao,afX,au,eN,aV,af,ae,g2,h2,afZ,agb,cn,bj,aQ,bg,oX];have nj:bB [.int .i64 0] 0 [I m.base]=[I m.base]:=cW _ _ rfl;refine⟨trivial,⟨rfl,rfl,by decide⟩, ?_,(St.new st (.cells [.ptr r 0] 146 false)).next,st.next,⟨rfl, ?_, ?_, ?_, ?_, ?_⟩, ?_,aga _⟩
 ·exact(((Kp.refl [] st).new _).new _).set _ (.inr (by simp)) (by simp)
 ·simp
 ·simp;omega
 ·simp
 ·rw[az];exact congrArg some (congrArg (fun l=>mc.cells l 3 false) nj)
 ·rw[aq _ _ _ _ (by simp),aU _ _ _ (by simp)];exact aG _ _
 ·simp
def RingM.is (m:RingM)(P:Nat->cp)(n:Nat):Prop:=(P (n%m.count)).n=n
instance (m:RingM) (P:Nat->cp) (n:Nat):Decidable (m.is P n):=by unfold RingM.is;infer_instance
theorem DV {f:CV}{c q r a n:Nat}{m:RingM}{D:aW}{P:Nat->cp}(h:gj st r a m)(hp:mW D m P)(hn:lW st f c q r n)(he:n=m.base+m.count):eG R f [] st fun x st'=>x= .tuple [.agg [.int .i64 0, .bool false, .aa], .bool false,I 0]/\Kp [] st st':=by
 obtain⟨h1,h2⟩:=h;obtain⟨rfl,g2,g3,g4,g5,g6⟩:=hn;rw[dR];refine bp ?_;simp only[agE];rw[MP];have k1:∀b,b<st.next->(St.new st (.cells [.int .i64 0, .bool false, .aa] 231 false)).mem.get b=st.mem.get b:=fun b hb=>aU _ _ _ hb;have e1:IntKind.i64.wrap ((n:Int)-m.base)=(m.count:Int):=by have:=hp.base;have:=hp.fits;have:=hp.kq;rw[bN (by omega)];omega
 simp only[cn,bj,bG,av,k1 c g2,g5,k1 q g3,g6,ao,afX,au,aV,af,ae,k1 r h1,h2,afZ,agb,aA,fF,e1,eT,agW,ah,ags,eF,nq,aQ,aG,bg,ba];have nj:bB [.int .i64 0, .bool false, .aa] 0 [.int .i64 0, .bool false, .aa]=[.int .i64 0, .bool false, .aa]:=cW _ _ rfl;refine⟨⟨trivial,trivial,trivial,trivial,trivial,trivial⟩,trivial,⟨rfl,rfl,by decide⟩, ?_⟩;rw[aR (n:=3) (az _ _ _) rfl,ae,nj];exact⟨rfl,((Kp.refl [] st).new _).set _ (.inr (aga _)) (by simp)⟩
def Jv (p:cp)(X:List Nat)(st:St)(y:CV)(st':St):Prop:=∃v Fv,y= .agg [I p.n, .bool p.last,v]/\Kp X st st'/\Own st' v 1 5 (aj p.data) Fv/\∀b∈Fv,st.next<=b/\b<st'.next
theorem G0 {f:CV}{c q r a n:Nat}{m:RingM}{F:List Nat}{D:aW}{P:Nat->cp}(hf:dw st)(h:gj st r a m)(hd:cV st a F D)(hr:r∉F)(wx:D.dead=false)(hp:mW D m P)(hn:lW st f c q r n)(he:n≠m.base+m.count)(hb:m.base<=n)(hl:n<m.base+m.count)(N8:r≠c)(Tz:r≠q)(Qw:c∉F):
 eG R f [] st fun x st'=>∃y,x= .tuple [y, .bool (decide (m.is P (n+1))),I 0]/\Jv (P ((n+1)%m.count)) [c] st y st'/\lW st' f c q r (n+1):=by
 have h':=h;obtain⟨h1,h2⟩:=h;have Ud:=hn;obtain⟨rfl,g2,g3,g4,g5,g6⟩:=hn;rw[dR];refine bp ?_;simp only[agE];rw[MP];have k1:∀b,b<st.next->(St.new st (.cells [.int .i64 0, .bool false, .aa] 231 false)).mem.get b=st.mem.get b:=fun b hb=>aU _ _ _ hb;have q1:=hp.base;have q2:=hp.fits;have q3:=hp.kq;have e1:IntKind.i64.wrap ((n:Int)-m.base)=(n:Int)-m.base:=bN (by omega);have e2:¬((n:Int)-m.base=m.count):=by omega
 have e3:IntKind.i64.wrap ((n:Int)+1)=((n+1:Nat):Int):=by rw[bN (by omega)];rfl
 simp only[cn,bj,bG,av,k1 c g2,g5,k1 q g3,g6,ao,afX,au,aV,af,ae,k1 r h1,h2,afZ,agb,aA,fF,e1,eT,e2,ahP,ah,afY,agn,cR,e3,aQ,bg];refine⟨⟨trivial,trivial,trivial,trivial,trivial,trivial⟩,trivial,⟨rfl,rfl,by simp⟩, ?_⟩;have nj:bB [I n] 0 (CV.bL (I ((n+1:Nat):Int)))=[I ((n+1:Nat):Int)]:=cW _ _ rfl;have Oe:bB [I n] 0 (CV.bL (.int .i64 ((n+1:Nat):Int)))=[I ((n+1:Nat):Int)]:=nj;rw[Oe];have Ua:(St.set (St.new st (.cells [.int .i64 0, .bool false, .aa] 231 false)) c (.cells [I ((n+1:Nat):Int)] 3 false)).next=st.next+1:=rfl;have uQ:Kp [c] st (St.new (St.set (St.new st (.cells [.int .i64 0, .bool false, .aa] 231 false)) c (.cells [I ((n+1:Nat):Int)] 3 false)) (.cells [.int .i64 0, .bool false, .aa] 231 false)):=(((Kp.refl _ st).new _).set _ (.inl (by simp)) (by simp;omega)).new _
 have c4:(St.new (St.set (St.new st (.cells [.int .i64 0, .bool false, .aa] 231 false)) c (.cells [I ((n+1:Nat):Int)] 3 false)) (.cells [.int .i64 0, .bool false, .aa] 231 false)).mem.get c=some (.cells [I ((n+1:Nat):Int)] 3 false):=by
  rw[aU _ _ _ (by simp;omega),az]
 have x4:(St.new (St.set (St.new st (.cells [.int .i64 0, .bool false, .aa] 231 false)) c (.cells [I ((n+1:Nat):Int)] 3 false)) (.cells [.int .i64 0, .bool false, .aa] 231 false)).mem.get st.next=some (.cells [.int .i64 0, .bool false, .aa] 231 false):=by
  rw[aU _ _ _ (by simp),aq _ _ _ _ (by omega)];exact aG _ _
 have y4:(St.new (St.set (St.new st (.cells [.int .i64 0, .bool false, .aa] 231 false)) c (.cells [I ((n+1:Nat):Int)] 3 false)) (.cells [.int .i64 0, .bool false, .aa] 231 false)).mem.get (st.next+1)=some (.cells [.int .i64 0, .bool false, .aa] 231 false):=by
  have:=aG (St.set (St.new st (.cells [.int .i64 0, .bool false, .aa] 231 false)) c (.cells [I ((n+1:Nat):Int)] 3 false)) (.cells [.int .i64 0, .bool false, .aa] 231 false);exact this
 have XJ:(St.new (St.set (St.new st (.cells [.int .i64 0, .bool false, .aa] 231 false)) c (.cells [I ((n+1:Nat):Int)] 3 false)) (.cells [.int .i64 0, .bool false, .aa] 231 false)).next=st.next+2:=rfl;rw[Ua];generalize St.new (St.set (St.new st (.cells [.int .i64 0, .bool false, .aa] 231 false)) c (.cells [I ((n+1:Nat):Int)] 3 false)) (.cells [.int .i64 0, .bool false, .aa] 231 false)=S4 at*;have q4:=(uQ.keep q g3 (by simp;exact agZ g4)).trans g6;have r4:=h'.keep uQ (by simpa using N8);have d4:=hd.keep uQ (fun b hb=>by simp;exact fun e=>Qw (e▸hb));have CB:m.place (n+1)=m.first+(n+1)%m.count:=rfl;have KF:(n+1)%m.count<m.count:=Nat.mod_lt _ hp.pos;obtain⟨u1,u2⟩:=hp.cur _ KF;simp only[q4,c4,ao,afX,au];refine(xB r4 hp.pos (by omega) (n:=n+1) (by omega)).same ?_;refine(xt (uQ.fresh hf) r4 d4 hr wx hp.pos (by omega) (at_:=m.place (n+1)) (by omega) u2 u1).mono ?_;rintro _ S5 ⟨_,rfl,v,rfl,Fv,CI,ho,Cb⟩;have Mr:=CI.next;have c5:=(CI.keep c (by omega) (by simp)).trans c4;have q5:=(CI.keep q (by omega) (by simp)).trans q4;have x5:=(CI.keep st.next (by omega) (by simp)).trans x4;have y5:=(CI.keep (st.next+1) (by omega) (by simp)).trans y4;obtain⟨o1,o2⟩:=ho.bW;generalize hP:P ((n+1)%m.count)=p at*;have nH:bB [.int .i64 0, .bool false, .aa] 0 [I p.n, .bool p.last,v]=[I p.n, .bool p.last,v]:=cW _ _ rfl;simp only[ay,aL,ae,jz y5,jz y4,bj,aQ,y5,bg,ba,nH,q4,ao,afX,au];refine⟨⟨rfl,by simp[o1],by decide⟩,⟨⟨trivial,trivial⟩,trivial,trivial,⟨trivial,trivial,trivial⟩,trivial⟩,trivial, ?_⟩;have CH:Kp [c] st (St.set S5 (st.next+1) (.cells [I p.n, .bool p.last,v] 231 false)):=(uQ.trans CI (by simp)).set _ (.inr (by omega)) (by omega);have c6:(St.set S5 (st.next+1) (.cells [I p.n, .bool p.last,v] 231 false)).mem.get c=some (.cells [I ((n+1:Nat):Int)] 3 false):=by rw[aq _ _ _ _ (by omega)];exact c5
 have q6:(St.set S5 (st.next+1) (.cells [I p.n, .bool p.last,v] 231 false)).mem.get q=some (.cells [.ptr r 0] 146 false):=by rw[aq _ _ _ _ (by omega)];exact q5
 have x6:(St.set S5 (st.next+1) (.cells [I p.n, .bool p.last,v] 231 false)).mem.get st.next=some (.cells [.int .i64 0, .bool false, .aa] 231 false):=by rw[aq _ _ _ _ (by omega)];exact x5
 have y6:(St.set S5 (st.next+1) (.cells [I p.n, .bool p.last,v] 231 false)).mem.get (st.next+1)=some (.cells [I p.n, .bool p.last,v] 231 false):=az _ _ _;have o6:Own (St.set S5 (st.next+1) (.cells [I p.n, .bool p.last,v] 231 false)) v 1 5 (aj p.data) Fv:=ho.mono fun b hb=>aq _ _ _ _ (by have:=(Cb b hb).1;omega);have T8:(St.set S5 (st.next+1) (.cells [I p.n, .bool p.last,v] 231 false)).next=S5.next:=rfl;generalize St.set S5 (st.next+1) (.cells [I p.n, .bool p.last,v] 231 false)=S6 at*;have Ms:∀bb:Bool,True:=fun _=>trivial
 have BZ:decide (m.is P (n+1))=(decide (p.n≠0/\m.place p.n=m.place (n+1))&&decide (p.n=n+1)):=by
  have UK:m.is P (n+1)↔p.n=n+1:=by unfold RingM.is;rw[hP]
  rw[show decide (m.is P (n+1))=decide (p.n=n+1)from decide_eq_decide.2 UK]
  by_cases e:p.n=n+1
  ·simp[e]
  ·simp[e]
 have fin:∀S7:St,S7=St.set S6 st.next (.cells [I p.n, .bool p.last,v] 231 false)->Jv p [c] st (.agg [I p.n, .bool p.last,v]) S7/\lW S7 (.func (.func 166) [] [.ptr c 0, .ptr q 0]) c q r (n+1):=by
  rintro _ rfl;refine⟨⟨v,Fv,rfl,CH.set _ (.inr (aga _)) (by omega),o6.mono fun b hb=>aq _ _ _ _ (by have:=(Cb b hb).1;omega),fun b hb=>⟨by have:=(Cb b hb).1;omega,by have:=(Cb b hb).2;simp;omega⟩⟩,rfl,by simp;omega,by simp;omega,g4, ?_, ?_⟩
  ·rw[aq _ _ _ _ (by omega)];exact c6
  ·rw[aq _ _ _ _ (by omega)];exact q6
 rw[aR (n:=3) y6 rfl,ae]
 by_cases yR:p.n≠0/\m.place p.n=m.place (n+1)
 ·rw[agi yR]at BZ⊢
  have qe:ai .eql (some .int) false (I p.n) (I ((n+1:Nat):Int)) S6= .ok (.bool (decide (p.n=n+1))) S6:=by
   rw[aA,eT];congr 2;simp only[ahf];omega
  simp only[aE,ags,aM,af,ae,av,y6,c6,ao,afZ,afX,au,qe,aF,x6,bg,ba,nH];rw[Bool.true_and]at BZ;have y7:(St.set S6 st.next (.cells [I p.n, .bool p.last,v] 231 false)).mem.get (st.next+1)=some (.cells [I p.n, .bool p.last,v] 231 false):=by rw[aq _ _ _ _ (by omega)];exact y6
  have c7:(St.set S6 st.next (.cells [I p.n, .bool p.last,v] 231 false)).mem.get c=some (.cells [I ((n+1:Nat):Int)] 3 false):=by rw[aq _ _ _ _ (by omega)];exact c6
  have x7:(St.set S6 st.next (.cells [I p.n, .bool p.last,v] 231 false)).mem.get st.next=some (.cells [I p.n, .bool p.last,v] 231 false):=az _ _ _;obtain⟨f1,f2⟩:=fin _ rfl;simp only[y7,c7,ao,afX,au];rw[aR (n:=3) x7 rfl,ae,BZ];exact⟨⟨rfl,by simp[o1],by decide⟩,⟨trivial,⟨trivial,trivial⟩,⟨trivial,trivial⟩,trivial⟩,trivial,_,rfl,f1,f2⟩
 ·rw[agc yR]at BZ⊢;simp only[aE,ags,bT,afY,agn,ae,aF,x6,bg,ba,nH];rw[Bool.false_and]at BZ;have x7:(St.set S6 st.next (.cells [I p.n, .bool p.last,v] 231 false)).mem.get st.next=some (.cells [I p.n, .bool p.last,v] 231 false):=az _ _ _;obtain⟨f1,f2⟩:=fin _ rfl;rw[aR (n:=3) x7 rfl,ae,BZ];exact⟨⟨rfl,by simp[o1],by decide⟩,⟨trivial,⟨trivial,trivial⟩,⟨trivial,trivial⟩,trivial⟩,trivial,_,rfl,f1,f2⟩
end
section
variable {st st':St}
theorem mT {f:CV}{args:List CV}{Q Q':CV->St->Prop}(h:eG R f args st Q)(hq:∀v s,Q v s->Q' v s):eG R f args st Q':=by
 unfold eG at*
 split at h
 ·exact R.mono h hq
 ·exact h.elim
def jr (st:St)(G:List Nat):List CV->List (List UInt8)->Prop
 |[],[]=>True
 |v::vs,l::ls=>ky st G v 1 (aj l)/\jr st G vs ls
 |_,_=>False
theorem jr.keep {G X:List Nat}{vs:List CV}{L:List (List UInt8)}(h:jr st G vs L)(hk:Kp X st st')(hx:∀b∈G,b∉X):jr st' G vs L:=by
 induction vs generalizing L with
 |nil=>cases L with|nil=>trivial|cons l L=>exact h
 |cons v vs ih=>cases L with|nil=>exact h|cons l L=>exact⟨h.1.keep hk hx,ih h.2⟩
theorem jr.mono {G H:List Nat}{vs:List CV}{L:List (List UInt8)}(h:jr st G vs L)(hg:∀b∈G,b∈H):jr st H vs L:=by
 induction vs generalizing L with
 |nil=>cases L with|nil=>trivial|cons l L=>exact h
 |cons v vs ih=>cases L with|nil=>exact h|cons l L=>exact⟨h.1.mono hg,ih h.2⟩
theorem jr.snoc {G:List Nat}{vs:List CV}{L:List (List UInt8)}{v:CV}{l:List UInt8}(h:jr st G vs L)(hv:ky st G v 1 (aj l)):jr st G (vs++[v]) (L++[l]):=by
 induction vs generalizing L with
 |nil=>cases L with|nil=>exact⟨hv,trivial⟩|cons l L=>exact h.elim
 |cons v vs ih=>cases L with|nil=>exact h.elim|cons l L=>exact⟨h.1,ih h.2⟩
theorem jr.len {G:List Nat}{vs:List CV}{L:List (List UInt8)}(h:jr st G vs L):vs.length=L.length:=by
 induction vs generalizing L with
 |nil=>cases L with|nil=>rfl|cons l L=>exact h.elim
 |cons v vs ih=>cases L with|nil=>exact h.elim|cons l L=>simp[ih h.2]
def hQ (P:Nat->cp)(count:Nat):Nat->Nat->List UInt8->List (List UInt8)->Nat->List (List UInt8)×Nat
 |0,_,_,out,last=>(out,last)
 |f+1,n,now,out,last=>if (P ((n+1)%count)).n=n+1 then
   (if (P ((n+1)%count)).last=true then hQ P count f (n+1) [] (out++[now++(P ((n+1)%count)).data]) (n+1)else hQ P count f (n+1) (now++(P ((n+1)%count)).data) out last)
  else (out,last)
def kz (st:St)(x:CV)(L:List (List UInt8))(Fo G:List Nat):Prop:=∃vs,Own st x 1 139 vs Fo/\jr st G vs L/\(∀b∈Fo,b<st.next)/\(∀b∈G,b<st.next)/\∀b∈Fo,b∉G
structure LS (mw:St)(r a c q:Nat)(F:List Nat)(D:aW)(P:Nat->cp)(m:RingM)(f:CV)(fuel:Nat)(vs:List CV)(s:St)(n:Nat)(now:List UInt8)(out:List (List UInt8))(last:Nat)(xo xn:CV)(Fo Fn G:List Nat):Prop where
 vs:vs=[.ptr r 0,xo,xn,f]
 fu:n+fuel=m.base+m.count
 lo:m.base<=n
 kp:Kp [r] mw s
 ring:gj s r a {m with last:=last}
 aex:cV s a F D
 nx:lW s f c q r n
 Gz:kz s xo out Fo G
 own:Own s xn 1 5 (aj now) Fn
 ltn:∀b∈Fn,b<s.next
 ge:∀b,b∈Fo\/b∈Fn\/b∈G->mw.next<=b/\b≠c/\b≠q
 dis:∀b∈Fn,b∉Fo/\b∉G
 szn:now.length<=501*n
 szo:out.length<=n
 tgt:hQ P m.count fuel n now out last=hQ P m.count m.count m.base [] [] m.last
theorem zp {r a:Nat}{m:RingM}{F:List Nat}{D:aW}{P:Nat->cp}(hf:dw st)(h:gj st r a m)(hd:cV st a F D)(hr:r∉F)(wx:D.dead=false)(hp:mW D m P)(hb:m.base<=1000000000):
 R 98 [.ptr r 0] st fun x st'=>∃xo Fo G,x= .tuple [xo,I 0]/\Kp [r] st st'/\gj st' r a {m with last:=(hQ P m.count m.count m.base [] [] m.last).2}/\kz st' xo (hQ P m.count m.count m.base [] [] m.last).1 Fo G/\∀b,b∈Fo\/b∈G->st.next<=b:=by
 refine bp ?_;rw[YT];show R 139 [.ptr r 0] st _;refine(zw h).mono ?_;rintro f s1 ⟨k1,c,q,hnx,hc,hq⟩;simp only[aI,aJ];refine bA (fun fuel vs s=>∃n now out last xo xn Fo Fn G,LS st r a c q F D P m f fuel vs s n now out last xo xn Fo Fn G) ?_ (n:=m.count) ⟨m.base,[],[],m.last, .aa, .aa,[],[],[],rfl,rfl,aga _,k1.mono (by simp),h.keep k1 (by simp),hd.keep k1 (by simp),hnx,⟨[], .inl ⟨rfl,rfl,rfl⟩,trivial,by simp,by simp,by simp⟩, .inl ⟨rfl,rfl,rfl⟩,by simp,by simp,by simp,by simp,by simp,rfl⟩;rintro fuel vs s k ⟨n,now,out,last,xo,xn,Fo,Fn,G,I⟩ next;obtain⟨rfl,i1,i2,i3,i4,i5,i6,i7,i8,i9,uN,S0,i12,i13,Eg⟩:=I;have Lh:∀s:St,True:=fun _=>trivial;have sw:=i3.next;have TA:=h.1;have Xx:mW D {m with last:=last} P:=⟨hp.pos,hp.fits,hp.kq,hp.base,hp.cur⟩;simp only[aI,aJ];obtain⟨PQ,j1,j2,j3,j4,j5⟩:=i7;have KO:∀(s':St),Kp [c] s s'->Kp [r] st s':=fun s' hk=>i3.trans hk (by simp;right;exact hc)
 by_cases UZ:fuel=0
 ·subst UZ;refine mT (DV i4 Xx i6 (by simpa using i1)) ?_;rintro _ s3 ⟨rfl,k3⟩;have g4:(St.new s3 (.cells [.int .i64 0, .bool false, .aa] 231 false)).mem.get s3.next=some (.cells [.int .i64 0, .bool false, .aa] 231 false):=aG _ _;have kk:∀blk,Kp [] s (St.set (St.new s3 (.cells [.int .i64 0, .bool false, .aa] 231 false)) s3.next blk):=fun blk=>(k3.new _).set _ (.inr k3.next) (by simp);simp only[ay,aL,ae,cn,bj,aQ,g4,bg,ba,aA,eR,agW,agm,aE,afY,agn,agj,aM,bt,aF,ah,ags];refine⟨⟨rfl,rfl,by decide⟩,xo,Fo,G,rfl,i3.trans (kk _) (by simp), ?_, ?_,fun b hb=>(uN b (by rcases hb with h|h<;>simp[h])).1⟩
  ·rw[<-Eg];exact i4.keep (kk _) (by simp)
  ·rw[<-Eg];exact⟨PQ,j1.keep (kk _) fun b hb=>⟨j3 b hb,by simp⟩,j2.keep (kk _) (by simp),fun b hb=>ago (j3 b hb) (kk (.map [] 0)).next,fun b hb=>ago (j4 b hb) (kk (.map [] 0)).next,j5⟩
 ·obtain⟨fu,rfl⟩:∃fu,fuel=fu+1:=⟨fuel-1,by omega⟩;have N8:r≠c:=by omega
  have Tz:r≠q:=by omega
  have Qw:c∉F:=fun h=>by have:=hd.lt c h;omega
  refine mT (G0 (i3.fresh hf) i4 i5 hr wx Xx i6 (by simp;omega) (by simpa using i2) (by simp;omega) N8 Tz Qw) ?_;rintro _ s3 ⟨_,rfl,⟨v,Fv,rfl,k3,ho,Cb⟩,hnx3⟩;have e0:RingM.is {m with last:=last} P (n+1)↔(P ((n+1)%m.count)).n=n+1:=Iff.rfl;rw[show decide (RingM.is {m with last:=last} P (n+1))=decide ((P ((n+1)%m.count)).n=n+1)from decide_eq_decide.2 e0];simp only[hQ]at Eg;generalize hP:P ((n+1)%m.count)=p at*;have g4:(St.new s3 (.cells [.int .i64 0, .bool false, .aa] 231 false)).mem.get s3.next=some (.cells [.int .i64 0, .bool false, .aa] 231 false):=aG _ _;have nH:bB [.int .i64 0, .bool false, .aa] 0 [I p.n, .bool p.last,v]=[I p.n, .bool p.last,v]:=cW _ _ rfl;obtain⟨o1,o2⟩:=ho.bW;have k5:Kp [c] s (St.set (St.new s3 (.cells [.int .i64 0, .bool false, .aa] 231 false)) s3.next (.cells [I p.n, .bool p.last,v] 231 false)):=(k3.new _).set _ (.inr k3.next) (by simp);have WW:Kp [] s3 (St.set (St.new s3 (.cells [.int .i64 0, .bool false, .aa] 231 false)) s3.next (.cells [I p.n, .bool p.last,v] 231 false)):=((Kp.refl _ s3).new _).set _ (.inr (aga _)) (by simp);have g5:(St.set (St.new s3 (.cells [.int .i64 0, .bool false, .aa] 231 false)) s3.next (.cells [I p.n, .bool p.last,v] 231 false)).mem.get s3.next=some (.cells [I p.n, .bool p.last,v] 231 false):=az _ _ _;have Mr:(St.set (St.new s3 (.cells [.int .i64 0, .bool false, .aa] 231 false)) s3.next (.cells [I p.n, .bool p.last,v] 231 false)).next=s3.next+1:=rfl;simp only[ay,aL,ae,cn,bj,aQ,g4,bg,ba,nH,aA,eR,agW,agm,aE,afY,agn,agj,aM,bt,aF,ah];refine⟨⟨rfl,by simp[o1],by decide⟩, ?_⟩;generalize St.set (St.new s3 (.cells [.int .i64 0, .bool false, .aa] 231 false)) s3.next (.cells [I p.n, .bool p.last,v] 231 false)=s5 at*;have Ua:=k3.next;have nc:∀b,b∈Fo\/b∈Fn\/b∈G->b∉[c]:=fun b hb=>by simpa using (uN b hb).2.1
  have Qb:=i4.keep k5 (by simpa using N8);have KY:=i5.keep k5 (fun b hb=>by simp;exact fun e=>Qw (e▸hb));have hx5:=hnx3.keep WW (by simp) (by simp);have Xd:=j1.keep k5 fun b hb=>⟨j3 b hb,nc b (.inl hb)⟩;have Xb:=j2.keep k5 fun b hb=>nc b (.inr (.inr hb));have ow5:=i8.keep k5 fun b hb=>⟨i9 b hb,nc b (.inr (.inl hb))⟩;have ov5:=ho.keep WW fun b hb=>⟨(Cb b hb).2,by simp⟩
  by_cases Ms:p.n=n+1
  ·rw[agi Ms,agm,agf (by decide)];rw[agl Ms]at Eg
   have XW:p.data.length<=501:=by
    obtain⟨_,u⟩:=hp.cur _ (Nat.mod_lt (n+1) hp.pos);rw[hP]at u;exact u.2.1
   have hvF:∀b∈Fv,s.next<=b/\b<s5.next/\b≠s3.next:=fun b hb=>by have:=Cb b hb;omega
   have hsv:Sl s5 [] v 1 (aj p.data):=ov5.sl fun b hb=>⟨by simp,(hvF b hb).2.1⟩;obtain⟨nn,KD,zP⟩:=hsv.src [(.int .u8 0)];simp at KD;subst KD;have q1:=hp.fits;have q2:=hp.kq;obtain⟨CO,s6,MI,a1,a2,a3,a4⟩:=ow5.append (n:=p.data.length) (bytes:=1) (T:=aj p.data) (by omega) (by simp) (bz _) (fun b hb=>by have:=i9 b hb;omega) (by simp;omega);have T8:=a3.next;have ns3:s3.next∉Fn:=fun h=>by have:=i9 _ h;omega
   have g6:=(a3.keep s3.next (by omega) ns3).trans g5;simp only[fl,af,ae,av,g5,ao,afZ,agb,afX,au,zP,a1,bj,g6,ah];have yk:∀b∈MI,(b∈Fn\/s5.next<=b)/\b<s6.next:=fun b hb=>⟨(a4 b hb).1.imp id fun h=>by omega,(a4 b hb).2⟩;have nF:∀b,b∈Fo\/b∈G->b∉Fn:=fun b hb h=>(hb.elim (S0 b h).1 (S0 b h).2);have lF:∀b,b∈Fo\/b∈G->b<s5.next:=fun b hb=>by rcases hb with h|h;have:=j3 b h;omega;have:=j4 b h;omega
   have nr:r∉Fn:=fun h=>by have:=(uN r (.inr (.inl h))).1;omega
   have nc':c∉Fn:=fun h=>(uN c (.inr (.inl h))).2.1 rfl;have nq':q∉Fn:=fun h=>(uN q (.inr (.inl h))).2.2 rfl;have TD:=Qb.keep a3 nr;have wU:=KY.keep a3 (fun b hb h=>by have:=(uN b (.inr (.inl h))).1;have:=hd.lt b hb;omega);have Xh:=hx5.keep a3 nc' nq';have Xc:=Xd.keep a3 fun b hb=>⟨lF b (.inl hb),nF b (.inl hb)⟩;have Xa:=Xb.keep a3 fun b hb=>nF b (.inr hb);have CH:=(KO s5 k5).trans a3 fun b hb=> .inr (uN b (.inr (.inl hb))).1
   have KQ:∀b,b∈Fo\/b∈MI\/b∈G->st.next<=b/\b≠c/\b≠q:=fun b hb=>by
    rcases hb with hb|hb|hb
    ·exact uN b (.inl hb)
    ·rcases(yk b hb).1 with h|h
     ·exact uN b (.inr (.inl h))
     ·have:=i6.2.1;have:=i6.2.2.1;omega
    ·exact uN b (.inr (.inr hb))
   have EF:∀b∈MI,b∉Fo/\b∉G:=fun b hb=>by
    rcases(yk b hb).1 with h|h
    ·exact S0 b h
    ·exact⟨fun h2=>by have:=lF b (.inl h2);omega,fun h2=>by have:=lF b (.inr h2);omega⟩
   by_cases hl:p.last=true
   ·rw[agl hl];rw[agl hl]at Eg;have HD:=CH.fresh hf;obtain⟨b1,b2⟩:=a2.bW;have b3:=(a2.sl (X:=[]) fun b hb=>⟨by simp,(yk b hb).2⟩).jg.1
    have ye:eZ [(0,1,CO)] (cM 1 [CV.aa])=some [CO]:=by
     rw[dG,agl ⟨⟨by rw[b2];rfl,b3⟩,by rw[b2];exact aga _⟩,nq,b2];rfl
    have iX:(St.skip s6).mem.get s6.next=none:=HD _ (aga _);rw[bG,mG iX ye,bj];have k7:Kp [] s6 (St.set (St.skip s6) s6.next (.cells [CO] 139 false)):=((Kp.refl _ s6).skip).set _ (.inr (aga _)) (by simp);have g77:(St.set (St.skip s6) s6.next (.cells [CO] 139 false)).mem.get s6.next=some (.cells [CO] 139 false):=az _ _ _;have XI:(St.set (St.skip s6) s6.next (.cells [CO] 139 false)).next=s6.next+1:=rfl;generalize St.set (St.skip s6) s6.next (.cells [CO] 139 false)=s7 at*;have jo7:=Xc.keep k7 fun b hb=>⟨by have:=lF b (.inl hb);omega,by simp⟩;have W9:=Xa.keep k7 (by simp)
    have sn7:ky s7 MI CO 1 (aj (now++p.data)):=by
     have:=a2.keep k7 fun b hb=>⟨(yk b hb).2,by simp⟩;rw[bq];exact this.M6 fun b hb=>by have:=(yk b hb).2;omega
    have Th:=W9.len;rw[Ax (k:=1) (n:=1) g77 (by omega) rfl];obtain⟨YG,s8,YE,c1,c2,c3,c4⟩:=jo7.append (n:=1) (bytes:=24) (T:=[CO]) (by omega) rfl (by rw[tR,b1];rfl) (fun b hb=>by have:=lF b (.inl hb);omega) (by simp;omega);have hn8:=c3.next;have SO:s3.next∉Fo:=fun h=>by have:=j3 _ h;omega
    have nro:r∉Fo:=fun h=>by have:=(uN r (.inl h)).1;omega
    have nco:c∉Fo:=fun h=>(uN c (.inl h)).2.1 rfl;have nqo:q∉Fo:=fun h=>(uN q (.inl h)).2.2 rfl;have g7:=(k7.keep s3.next (by omega) (by simp)).trans g6;have g8:=(c3.keep s3.next (by omega) SO).trans g7;have P9:=(TD.keep k7 (by simp)).keep c3 nro;have TB:=P9.2;have KX:=(wU.keep k7 (by simp)).keep c3 (fun b hb h=>by have:=(uN b (.inl h)).1;have:=hd.lt b hb;omega);have hx8:=(Xh.keep k7 (by simp) (by simp)).keep c3 nco nqo;have hk8:=(CH.trans k7 (by simp)).trans c3 fun b hb=> .inr (uN b (.inl hb)).1;have js8:=W9.keep c3 fun b hb h=>j5 b h hb;have sn8:=sn7.keep c3 fun b hb h=>(EF b hb).1 h;have EP:∀b∈YE,(b∈Fo\/s7.next<=b)/\b<s8.next:=fun b hb=>⟨(c4 b hb).1.imp id fun h=>by omega,(c4 b hb).2⟩;have KA:bB [CV.ptr a 0,I m.first,I m.count,I m.base,I last,I m.top] 4 [I p.n]=[CV.ptr a 0,I m.first,I m.count,I m.base,I p.n,I m.top]:=rfl;simp only[c1,bj,af,ae,g7,g8,ao,afZ,afX,au,aV,aQ,TB,bg,mz,KA];refine⟨⟨rfl,rfl,by simp⟩,⟨⟨trivial,trivial,trivial⟩,trivial⟩,⟨trivial,trivial⟩, ?_⟩;have N9:=P9.1;have iA:∀b,b≠r->(St.set s8 r (.cells [.ptr a 0,I m.first,I m.count,I m.base,I p.n,I m.top] 229 false)).mem.get b=s8.mem.get b:=fun b hb=>aq _ _ _ _ hb;have k9:Kp [r] s8 (St.set s8 r (.cells [.ptr a 0,I m.first,I m.count,I m.base,I p.n,I m.top] 229 false)):=(Kp.refl _ s8).set _ (.inl (by simp)) N9;have SP:∀b,st.next<=b->b∉[r]:=fun b hb=>by simp;omega
    refine next fu _ _ (by omega) ⟨n+1,[],out++[now++p.data],n+1,YG, .aa,YE,[],MI++G,rfl,by omega,by omega,hk8.trans k9 (by simp),⟨N9,by rw[az,Ms]⟩,KX.keep k9 (fun b hb=>by simp;exact fun e=>hr (e▸hb)),hx8.keep k9 (by simpa using agZ N8) (by simpa using agZ Tz),⟨PQ++[CO],c2.keep k9 fun b hb=>⟨(EP b hb).2,SP b ?_⟩, ?_,fun b hb=>(EP b hb).2, ?_, ?_⟩, .inl ⟨rfl,rfl,rfl⟩,by simp, ?_,by simp,by simp,by simp;omega,Eg⟩
    ·rcases(EP b hb).1 with h|h
     ·exact(uN b (.inl h)).1
     ·have:=CH.next;omega
    ·refine jr.snoc ((js8.keep k9 fun b hb=>SP b (uN b (.inr (.inr hb))).1).mono fun b hb=>by simp[hb]) ((sn8.keep k9 fun b hb=>SP b ?_).mono fun b hb=>by simp[hb]);exact(KQ b (.inr (.inl hb))).1
    ·intro b hb;show b<s8.next;rcases agz.1 hb with h|h
     ·have:=(yk b h).2;omega
     ·have:=lF b (.inr h);omega
    ·intro b hb h2;rcases(EP b hb).1 with h|h
     ·rcases agz.1 h2 with h3|h3
      ·exact(EF b h3).1 h
      ·exact j5 b h h3
     ·rcases agz.1 h2 with h3|h3
      ·have:=(yk b h3).2;omega
      ·have:=lF b (.inr h3);omega
    ·intro b hb;rcases hb with hb|hb|hb
     ·rcases(EP b hb).1 with h|h
      ·exact uN b (.inl h)
      ·have:=CH.next;have:=i6.2.1;have:=i6.2.2.1;omega
     ·simp at hb
     ·rcases agz.1 hb with h|h
      ·exact KQ b (.inr (.inl h))
      ·exact uN b (.inr (.inr h))
   ·rw[agf hl];rw[agf hl]at Eg;refine next fu _ _ (by omega) ⟨n+1,now++p.data,out,last,xo,CO,Fo,MI,G,rfl,by omega,by omega,CH,TD,wU,Xh,⟨PQ,Xc,Xa,fun b hb=>by have:=j3 b hb;omega,fun b hb=>by have:=j4 b hb;omega,j5⟩,by rw[bq];exact a2,fun b hb=>(yk b hb).2,KQ,EF,by simp;omega,by omega,Eg⟩
  ·rw[agc Ms,agj,agl rfl];rw[agf Ms]at Eg;refine⟨xo,Fo,G,rfl,KO s5 k5, ?_, ?_,fun b hb=>(uN b (by rcases hb with h|h<;>simp[h])).1⟩
   ·rw[<-Eg];exact Qb
   ·rw[<-Eg];exact⟨PQ,Xd,Xb,fun b hb=>by have:=j3 b hb;omega,fun b hb=>by have:=j4 b hb;omega,j5⟩
end
