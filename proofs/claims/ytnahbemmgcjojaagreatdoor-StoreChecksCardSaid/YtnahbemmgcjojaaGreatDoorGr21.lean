import Derived.Test.YtnahbemmgcjojaaGreatDoorGr20
import Derived.Test.YtnahbemmgcjojaaGreatDoorGr18
import Derived.Test.YtnahbemmgcjojaaGreatDoorGr05
import Derived.Test.YtnahbemmgcjojaaGreatDoorGr19
namespace Lim
open Go
noncomputable section
set_option maxRecDepth 100000
section
variable {st st':St}
theorem gW (i:Nat)(h:i<=4000000000000000000)(s:St)(d:Option gH):ai .add d true (I i) (.int .i64 1) s= .ok (I ((i+1:Nat):Int)) s:=by rw[aA,cR,bN (by omega)];rfl
theorem Bn (i:Nat)(h:i<=4000000000000000000)(h0:0<i)(s:St)(d:Option gH):ai .sub d true (I i) (.int .i64 1) s= .ok (I ((i-1:Nat):Int)) s:=by rw[aA,fF,bN (by omega)];congr 2;omega
theorem de (i n:Nat)(s:St)(d:Option gH)(c:Bool):ai .lss d c (I i) (I n) s= .ok (.bool (decide (i<n))) s:=by rw[aA,bK];congr 2;simp only[ahf];omega
theorem Hj {X:List Nat}{v:CV}{l:List Nat}(hs:Sl st X v 1 (fX l))(hl:l.length<=1000000)(hk:∀k∈l,k<=tS):R 124 [v, .func (.func 210) [] []] st fun x st'=>x= .bool false/\Kp [] st st':=by
 refine bp ?_;rw[MR]
 have key:R 158 [v, .func (.func 210) [] []] st fun x st'=>x= .int .i64 (-1)/\Kp [] st st':=by
  refine bp ?_;rw[MQ];have hlen:=hs.len l.length (by simp) (by omega) st;simp only[bP,aI,aJ,hlen,ae];refine bA (fun fu vs s=>∃i,fu+i=l.length/\vs=[v, .func (.func 210) [] [],I l.length,I i]/\Kp [] st s) ?_ (n:=l.length) ⟨0,rfl,rfl,Kp.refl _ _⟩;rintro fu vs s k ⟨i,hi,rfl,mg⟩ next;simp only[aI,aJ,de,ae,ah]
  by_cases hc:i<l.length
  ·rw[agi hc,agl rfl];have hs1:=(hs.oE (Y:=[]) (by simp)).mono mg;refine hs1.idx (i:=i) (by simpa using hc) _ ?_;have e:(fX l)[i]'(by simpa using hc)=I l[i]:=by simp[fX]
   rw[e,dR];simp only[agE,ahc];refine bp ?_;rw[Rk];refine(sJ (n:=l[i]) (least:=0)).same ?_;have e2:decide (0<=l[i]/\l[i]<=tS)=true:=agi ⟨by omega,hk _ (agx hc)⟩;simp only[e2,bt,ae,agm,ah,afY,agn,gW i (by omega)];exact next (fu-1) _ _ (by omega) ⟨i+1,by omega,rfl,mg⟩
  ·rw[agc hc,agf (by decide)];exact⟨trivial,mg⟩
 refine key.mono ?_;rintro _ s ⟨rfl,h⟩;simp[h]
theorem Fi {v:CV}{n:ek}(h:IsNode st [] v n)(hn:n.ok)(hl:n.cells.length<=100000):R 200 [v] st fun x st'=>x= .bool true/\Kp [] st st':=by
 obtain⟨vc,vk,rfl,h1,h2⟩:=h;refine bp ?_;rw[Rq];rw[br,ba];refine⟨rfl, ?_⟩;have k1:Kp [] st (St.new st (.cells [.bool n.leaf,vc,vk] 303 false)):=(Kp.refl [] st).new _;have g1:(St.new st (.cells [.bool n.leaf,vc,vk] 303 false)).mem.get st.next=some (.cells [.bool n.leaf,vc,vk] 303 false):=aG _ _;have n1:(St.new st (.cells [.bool n.leaf,vc,vk] 303 false)).next=st.next+1:=rfl;generalize St.new st (.cells [.bool n.leaf,vc,vk] 303 false)=s1 at*;have hlen:=(h1.mono k1).len n.cells.length (gQ _) (by omega) s1;simp only[bP,aI,aJ,fl,af,ae,av,g1,ao,afZ,agb,afX,au,hlen];refine bA (fun fu vs s=>∃i,fu+i=n.cells.length/\vs=[.ptr st.next 0,vc,I n.cells.length,I i]/\Kp [] s1 s) ?_ (n:=n.cells.length) ⟨0,rfl,rfl,Kp.refl _ _⟩;rintro fu vs s k ⟨i,hi,rfl,hk⟩ next;have g2:=(hk.keep st.next (by omega) (by simp)).trans g1;have CE:=k1.trans hk (by simp);simp only[aI,aJ,de,ae,ah]
 by_cases hc:i<n.cells.length
 ·rw[agi hc,agl rfl];refine(h1.mono CE).jh (L:=n.cells.map cr) (by omega) (pH _) (by simpa using hc) _ ?_;have e:(n.cells.map cr)[i]'(by simpa using hc)=cr n.cells[i]:=by simp
  rw[e];refine mL rfl rfl (jG _) ?_;have k3:Kp [] s (St.new s (.cells (cr n.cells[i]) 307 false)):=(Kp.refl _ s).new _;have g3:(St.new s (.cells (cr n.cells[i]) 307 false)).mem.get s.next=some (.cells [.str n.cells[i].key, .str n.cells[i].value,I n.cells[i].ej,I n.cells[i].size] 307 false):=aG _ _;have n3:(St.new s (.cells (cr n.cells[i]) 307 false)).next=s.next+1:=rfl;generalize St.new s (.cells (cr n.cells[i]) 307 false)=s3 at*;have g2':=(k3.keep st.next (by have:=CE.next;have:=hk.next;omega) (by simp)).trans g2;rw[bG,aR (n:=4) g3 rfl];simp only[ae,af,av,g2',ao,afZ,afX,au];refine(J3 (hn.cell _ (agx hc))).mono ?_;rintro _ s6 ⟨rfl,k6⟩;have CH:=(hk.trans k3 (by simp)).trans k6 (by simp);have UD:=k1.trans CH (by simp);have HQ:=(k6.keep s.next (by omega) (by simp)).trans g3;have g6:=(CH.keep st.next (by omega) (by simp)).trans g1;have e1:ai .gtr none true (I i) (.int .i64 0) s6= .ok (.bool (decide (0<i))) s6:=by rw[aA,cC];congr 2;simp only[ahf];omega
  simp only[bt,ae,agm,aE,afY,agn,agj,aM,e1]
  by_cases h0:0<i
  ·rw[agi h0];obtain⟨b,p,cl,ct,cg,q1,q2,_,_,q3⟩:=((h1.mono UD)).cellAt (L:=n.cells.map cr) (by omega) (pH _) (i:=i-1) (by simp;omega);have q4:=q3 0 (.str n.cells[i-1].key) (by simp[cr]);rw[ahC]at q4;simp only[ags,aM,af,ae,av,g6,ao,ahC,agb,afX,au,Bn i (by omega) h0,q1,q2,q4];have hlt:jq n.cells[i-1].key n.cells[i].key:=List.pairwise_iff_getElem.1 hn.sorted _ _ _ _ (by omega);have e9:¬nE n.cells[i].key n.cells[i-1].key:=fun h=>h hlt;simp only[HQ,ao,afX,au,fV,rQ,e9,ahP,ae,aF,ags,afY,agn,ah,gW i (by omega)];refine⟨⟨trivial,trivial,trivial,trivial,trivial,trivial⟩,trivial, ?_⟩;exact next (fu-1) _ _ (by omega) ⟨i+1,by omega,rfl,CH⟩
  ·rw[agc h0];simp only[afY,agn,ags,bT,ae,aF,ah,gW i (by omega)];refine⟨⟨trivial,trivial,trivial,trivial,trivial,trivial⟩,trivial, ?_⟩;exact next (fu-1) _ _ (by omega) ⟨i+1,by omega,rfl,CH⟩
 ·rw[agc hc,agf (by decide)];have Oz:=(h1.mono CE).len n.cells.length (gQ _) (by omega) s;have Ou:=(h2.mono CE).len n.kids.length (by simp) (by omega) s;have wq:=hn.Eb;simp only[af,ae,av,g2,ao,afZ,agb,afX,au,Oz,gW n.cells.length (by omega),ah];have UF:n.kids.length<=1000000:=by rw[wq];split<;>omega
  have fin:∀m:Nat,n.kids.length=m->
   us (bO .slice vk s) (fun jc=>us (ai BinOp.eql (some gH.int) false jc (CV.int IntKind.i64 m) s) fun iC=>
    eu (ag true iC) 2 (CV.ptr st.next 0) s fun je=>cb (ag true iC) s (fun k=>R 124 [je,CV.func (Fn.func 210) [] []] s k) fun kg s8=>us (aS (ag true iC) s8 (fA UnOp.not kg s8)) fun kG=>us (aK iC kG (CV.bool false) s8) fun kD=>kD=CV.bool true/\Kp [] st s8):=by
   intro m hm;have e5:ai .eql (some .int) false (I n.kids.length) (.int .i64 m) s= .ok (.bool true) s:=by rw[aA,eT,agi (by omega)]
   simp only[Ou,ae,e5,aE,ags,eu,aM,bF,af,av,g2,ao,afZ,agb,afX,au];refine(Hj (h2.mono CE) UF hn.WU).mono ?_;rintro _ s8 ⟨rfl,k8⟩;simp only[bt,ae,aF,ags,agj];exact⟨trivial,CE.trans k8 (by simp)⟩
  cases pv:n.leaf with
  |true=>rw[agl rfl];rw[pv,agl rfl]at wq;exact fin 0 wq
  |false=>rw[agf (by decide)];rw[pv,agf (by decide)]at wq;exact fin _ wq
end
structure SetM where
 bH:Int
 sO:Int
 pG:Int
 dZ:Int
 eI:Int
 j0:Int
 iD:Int
 entries:Int
 bytes:Int
 dI:Int
 ja:Int
 Au:Int
 tries:Int
def eL (s:SetM):List CV:=[I s.bH,I s.sO,I s.pG,I s.dZ,I s.eI,I s.j0,I s.iD,I s.entries,I s.bytes,I s.dI,I s.ja,I s.Au,I s.tries]
def nG (n a b:Int):Bool:=decide (a<=n)&&decide (n<=b)
theorem fP {n a b:Int}:nG n a b=true↔a<=n/\n<=b:=by unfold nG;simp
def jJ (s:SetM):Bool:=
 (((((((((nG s.bH 1 5&&nG s.sO 0 3)&&nG s.pG 1 3)&&nG s.dZ 1 4)&&nG s.eI 2000 65536)&&((((nG s.j0 1 1000&&nG s.iD 1 4)&&nG s.dI 8 1000)&&nG s.ja 1 (Int.tdiv s.dI 4))))&&nG s.entries 0 1000)&&nG s.bytes 0 100000)&&nG s.Au 1 1000)&&nG s.tries 0 1000)
theorem Kn (n a b:Int)(st:St):R 23 [I n,I a,I b] st fun y s=>y= .bool (nG n a b)/\s=st:=by
 refine bp ?_;rw[ZZ,aA,gJ,ae]
 by_cases h:a<=n
 ·rw[agi h,aE];simp only[ags,aM,ae];rw[aA,il,ae,aF,agl rfl,ae];exact⟨by unfold nG;rw[agi h,Bool.true_and],trivial⟩
 ·rw[agc h,aE];simp only[ags,bT,ae];rw[aF,agf (by decide),ae];exact⟨by unfold nG;rw[agc h,Bool.false_and],trivial⟩
section
variable {s:St} {B:Nat} {L:List CV} {t:TypeId} {g:Bool}
theorem ki (hB:s.mem.get B=some (.cells L t g)){o:Nat}{n a c:Int}(b:Bool)(ho:L[o]?=some (I n)){K:CV->St->Prop}(hK:K (.bool (b&&nG n a c)) s):
 eu (ag true (.bool b)) o (.ptr B 0) s fun x4=>cb (ag true (.bool b)) s (fun k=>R 23 [x4,I a,I c] s k) fun x5 s3=>us (aK (.bool b) x5 (.bool false) s3) fun y=>K y s3:=by
 unfold eu;cases b with
 |false=>
  simp only[aE,afY,ags,agn,bT,ae,kc,aF];exact hK
 |true=>
  simp only[aE,ags,aM];rw[af,ae,av,hB,ao,afZ,ho,au,bF];refine(Kn n a c s).same ?_;rw[aF,agl rfl,ae];exact hK
theorem A6 (hB:s.mem.get B=some (.cells L t g)){o:Nat}{n a c:Int}(ho:L[o]?=some (I n)){K:CV->St->Prop}(hK:K (.bool (nG n a c)) s):
 fl o (.ptr B 0) s fun x4=>R 23 [x4,I a,I c] s K:=by
 unfold fl;rw[af,ae,av,hB,ao,afZ,ho,au];exact(Kn n a c s).same hK
end
theorem Ny (p:SetM)(st:St):R 11 [.agg (eL p)] st fun y s=>y= .bool (jJ p)/\Kp [] st s:=by
 refine bp ?_;rw[w11,br];refine⟨rfl, ?_⟩;rw[ba];generalize hs1:St.new st (.cells (eL p) 23 false)=s1;obtain⟨k1,g1,n1⟩:=da hs1;refine A6 g1 rfl ?_;refine ki g1 _ rfl ?_;refine ki g1 _ rfl ?_;refine ki g1 _ rfl ?_;refine ki g1 _ rfl ?_;refine A6 g1 rfl ?_;refine ki g1 _ rfl ?_;refine ki g1 _ rfl ?_;generalize hb:((nG p.j0 1 1000&&nG p.iD 1 4)&&nG p.dI 8 1000)=b
 have kx:∀K:CV->St->Prop,K (.bool (b&&nG p.ja 1 (Int.tdiv p.dI 4))) s1->
  eu (ag true (.bool b)) 10 (.ptr st.next 0) s1 fun fp=>eu (ag true (.bool b)) 9 (.ptr st.next 0) s1 fun ew=>us (aS (ag true (.bool b)) s1 (ai .quo none true ew (.int .i64 4) s1)) fun fk=>
  cb (ag true (.bool b)) s1 (fun k=>R 23 [fp,(.int .i64 1),fk] s1 k) fun fM cw=>us (aK (.bool b) fM (.bool false) cw) fun fD=>K fD cw:=fun K hK=>by
  unfold eu;cases b with
  |false=>
   simp only[aE,afY,ags,agn,bT,ae,kc,aF];exact hK
  |true=>
   simp only[aE,ags,aM];have he:8<=p.dI/\p.dI<=1000:=fP.1 ((Bool.and_eq_true_iff.1 hb).2);have h9:(eL p)[9]?=some (I p.dI):=rfl;have HN:(eL p)[10]?=some (I p.ja):=rfl
   have eq:ai .quo none true (I p.dI) (.int .i64 4) s1= .ok (I (Int.tdiv p.dI 4)) s1:=by
    have e1:ai .quo none true (I p.dI) (.int .i64 4) s1= .ok (I (IntKind.i64.wrap (Int.tdiv p.dI 4))) s1:=rfl;have h2:Int.tdiv p.dI 4=p.dI/4:=Int.tdiv_eq_ediv_of_nonneg (by omega);rw[e1,bN (by rw[h2];omega)]
   simp only[af,ae,av,g1,ao,afZ,h9,HN,au,eq,bF];refine(Kn p.ja 1 (Int.tdiv p.dI 4) s1).same ?_;rw[aF,agl rfl,ae];exact hK
 refine kx _ ?_;subst hb;generalize hn:((((nG p.bH 1 5&&nG p.sO 0 3)&&nG p.pG 1 3)&&nG p.dZ 1 4)&&nG p.eI 2000 65536)=b
 have hp:∀(c:Bool) (K:CV->Prop),K (.bool (b&&c))->us (aS (ag true (.bool b)) s1 (.ok (.bool c) s1)) fun gq=>us (aK (.bool b) gq (.bool false) s1) K:=fun c K hK=>by
  cases b with
  |false=>exact hK
  |true=>exact hK
 refine hp _ _ ?_;refine ki g1 _ rfl ?_;refine ki g1 _ rfl ?_;refine ki g1 _ rfl ?_;refine ki g1 _ rfl ?_;subst hn;exact⟨rfl,k1⟩
theorem sM (p:SetM)(st:St):R 4 [.agg (eL p)] st fun y s=>y= .bool (jJ p)/\Kp [] st s:=by
 refine bp ?_;rw[w4,br];refine⟨rfl, ?_⟩;rw[ba];generalize hs1:St.new st (.cells (eL p) 23 false)=s1;obtain⟨k1,g1,n1⟩:=da hs1;rw[aR (n:=13) g1 rfl,ae];refine(Ny p s1).mono ?_;rintro _ s2 ⟨rfl,k2⟩;exact⟨rfl,k1.trans k2⟩
structure FL (p:SetM):Prop where
 bH:1<=p.bH/\p.bH<=5
 dZ:1<=p.dZ/\p.dZ<=4
 eI:2000<=p.eI/\p.eI<=65536
 j0:1<=p.j0/\p.j0<=1000
 iD:1<=p.iD/\p.iD<=4
 dI:8<=p.dI/\p.dI<=1000
 ja:1<=p.ja/\p.ja<=1000
theorem p8 {p:SetM}(h:jJ p=true):FL p:=by
 unfold jJ at h;simp only[agp]at h;obtain⟨⟨⟨⟨⟨⟨⟨⟨⟨h1,_⟩,_⟩,h4⟩,h5⟩,⟨⟨h6,h7⟩,h8⟩,h9⟩,_⟩,_⟩,_⟩,_⟩:=h;have e8:=fP.1 h8;have e9:=fP.1 h9;have h2:Int.tdiv p.dI 4=p.dI/4:=Int.tdiv_eq_ediv_of_nonneg (by omega);rw[h2]at e9;exact⟨fP.1 h1,fP.1 h4,fP.1 h5,fP.1 h6,fP.1 h7,e8,e9.1,by omega⟩
theorem R5 (C:aN)(a0:CV)(st:St)(Q:CV->St->Prop):aH P0 C (lvs 119) 119 [a0] st Q=
 (us (ai .eql (some .ptr) true a0 .aC st) fun x1=>
 aD x1 (
 Q (.str []) st) (
 cd (
 us (cz a0 st) fun x2=>
 us (al 0 x2 st) fun x3=>
 us (aw x3 st) fun x4=>
 us (bO .slice x4 st) fun x5=>
 C 154 [.aa,x5] st fun x6 s1=>
 us (cz a0 s1) fun x7=>
 us (al 1 x7 s1) fun x8=>
 us (aw x8 s1) fun x9=>
 us (bO .slice x9 s1) fun cA=>
 C 154 [x6,cA] s1 fun cF s2=>
 ((True)/\((us (aw x8 st) fun v=>v=x9)/\True)/\True)/\(True)/\
 cN (fun v11 s3=>
 cf (fun kY s4 yO=>
 us (ai .lss (none) false (ak 4 kY) (ak 3 kY) s4) fun cX=>
 aD cX (
 jh 3 3 (ak 2 kY) (ak 4 kY) s4 fun dp=>
 upon (dd 67 [(.int .i64 0),(.int .i64 0),(.int .i64 0)] s4) fun db s5=>
 upon (aT 3 db dp s5) fun _ s6=>
 cd (
 us (al 0 db s6) fun dm=>
 us (aw dm s6) fun dB=>
 C 154 [(ak 1 kY),dB] s6 fun dV s7=>
 us (al 1 db s7) fun dU=>
 us (aw dU s7) fun dQ=>
 C 154 [dV,dQ] s7 fun fp s8=>
 us (al 2 db s8) fun ew=>
 us (aw ew s8) fun fk=>
 C 154 [fp,fk] s8 fun fM s9=>
 ((True)/\((us (aw dU s6) fun v=>v=dQ)/\True)/\((us (aw ew s6) fun v=>v=fk)/\(us (aw ew s7) fun v=>v=fk)/\True)/\True)/\(True)/\
 us (ai .add (none) true (ak 4 kY) (.int .i64 1) s9) fun fD=>
 yO [(ak 0 kY),fM,(ak 2 kY),(ak 3 kY),fD] s9)) (
 cN (fun v28 cw=>
 cf (fun v30 cB k31=>
 us (ai .lss (none) false (ak 3 v30) (ak 2 v30) cB) fun gX=>
 aD gX (
 idx 1 (ak 1 v30) (ak 3 v30) cB fun gz=>
 C 155 [(ak 0 v30),gz] cB fun iy eJ=>
 us (ai .add (none) true (ak 3 v30) (.int .i64 1) eJ) fun jc=>
 k31 [iy,(ak 1 v30),(ak 2 v30),jc] eJ) (
 us (bQ .strOf (ak 0 v30) cB) fun iC=>
 Q iC cB)) [(ak 0 v28),(ak 1 v28),(ak 2 v28),(ak 3 v28)] cw) fun k29=>
 eN 1 (ak 0 kY) s4 fun je=>
 us (bO .slice je s4) fun kg=>
 k29 [(ak 1 kY),je,kg,(.int .i64 0)] s4)) [(ak 0 v11),(ak 1 v11),(ak 2 v11),(ak 3 v11),(ak 4 v11)] s3) fun xX=>
 eN 0 a0 s2 fun kG=>
 us (bO .slice kG s2) fun kD=>
 xX [a0,cF,kG,kD,(.int .i64 0)] s2))):=by kernel_rfl
theorem R4 (C:aN)(a0:CV)(st:St)(Q:CV->St->Prop):aH P0 C (lvs 121) 121 [a0] st Q=
 (upon (eO 67 a0 st) fun x1 s1=>
 fl 1 x1 s1 fun x2=>
 us (ai .eql (some .int) true x2 (.int .i64 0) s1) fun x3=>
 aD x3 (
 fl 0 x1 s1 fun x4=>
 us (ai .eql (some .int) true x4 (.int .i64 0) s1) fun x5=>
 eu (ag true x5) 2 x1 s1 fun x6=>
 us (aS (ag true x5) s1 (ai .eql (some .int) true x6 (.int .i64 0) s1)) fun x7=>
 us (aK x5 x7 (.bool false) s1) fun x8=>
 Q x8 s1) (
 fl 0 x1 s1 fun x9=>
 us (ai .eql (some .int) true x9 (.int .i64 0) s1) fun cA=>
 aD cA (
 Q (.bool false) s1) (
 fl 2 x1 s1 fun cF=>
 fl 1 x1 s1 fun cO=>
 us (ai .neq (some .int) false cF cO s1) fun cI=>
 Q cI s1))):=by kernel_rfl
theorem Zd (C:aN)(a0:CV)(st:St)(Q:CV->St->Prop):aH P0 C (lvs 78) 78 [a0] st Q=
 (upon (bQ (.bytesOf 5) a0 st) fun x1 s1=>
 C 64 [x1] s1 fun x2 s2=>
 C 65 [x2,(.int .i64 4)] s2 fun x3 s3=>
 C 65 [x2,(.int .i64 5)] s3 fun x4 s4=>
 C 118 [x3,x4] s4 fun x5 s5=>
 us (aB x5 0 s5) fun x6=>
 us (aB x5 1 s5) fun x7=>
 us (ai .neq (some .int) true x7 (.int .i64 0) s5) fun x8=>
 aD x8 (
 Q (.tuple [.aC,(.int .i64 4)]) s5) (
 cN (fun v8 s6=>
 cf (fun v10 s7 pN=>
 us (ai .lss (none) false (ak 4 v10) (ak 3 v10) s7) fun cI=>
 aD cI (
 cd (
 us (cz (ak 1 v10) s7) fun dq=>
 us (al 0 dq s7) fun dx=>
 us (aw dx s7) fun cX=>
 C 65 [(ak 0 v10),(.int .i64 2147483647)] s7 fun dp s8=>
 us (cz (ak 1 v10) s8) fun db=>
 us (al 1 db s8) fun dm=>
 us (aw dm s8) fun dB=>
 us (bO .slice dB s8) fun dV=>
 C 65 [(ak 0 v10),dV] s8 fun dU s9=>
 us (cz (ak 1 v10) s9) fun dQ=>
 us (al 1 dQ s9) fun fp=>
 us (aw fp s9) fun ew=>
 us (bO .slice ew s9) fun fk=>
 C 65 [(ak 0 v10),fk] s9 fun fM cw=>
 us (bf [(.int .i64 0),(.int .i64 0),(.int .i64 0)] [(0,1,dp),(1,1,dU),(2,1,fM)] cw) fun fD=>
 us (cm 3 cX (ak 4 v10) cw) fun gq=>
 upon (aT 3 gq fD cw) fun fE cB=>
 (((us (aw dx s8) fun v=>v=cX)/\(us (aw dx s9) fun v=>v=cX)/\(us (aw dx cw) fun v=>v=cX)/\True)/\((us (aw dm s7) fun v=>v=dB)/\True)/\((us (aw fp s7) fun v=>v=ew)/\(us (aw fp s8) fun v=>v=ew)/\True)/\True)/\(True)/\
 us (aS (ag true (ak 2 v10)) cB (.ok (ak 1 v10) cB)) fun gI=>
 fB (ag true (ak 2 v10)) 0 gI cB fun iu=>
 us (aS (ag true (ak 2 v10)) cB (.ok (ak 4 v10) cB)) fun gX=>
 us (aS (ag true (ak 2 v10)) cB (cm 3 iu gX cB)) fun gz=>
 us (aS (ag true (ak 2 v10)) cB (aP 3 gz cB)) fun iy=>
 cb (ag true (ak 2 v10)) cB (fun k=>C 121 [iy] cB k) fun jc eJ=>
 us (aK (ak 2 v10) jc (.bool false) eJ) fun iC=>
 us (ai .add (none) true (ak 4 v10) (.int .i64 1) eJ) fun je=>
 pN [(ak 0 v10),(ak 1 v10),iC,(ak 3 v10),je] eJ)) (
 cN (fun l4 eD=>
 cf (fun tx ep SV=>
 us (ai .lss (none) false (ak 4 tx) (ak 3 tx) ep) fun m7=>
 aD m7 (
 cd (
 us (cz (ak 1 tx) ep) fun oF=>
 us (al 1 oF ep) fun qp=>
 us (aw qp ep) fun m6=>
 C 66 [(ak 0 tx)] ep fun nD jl=>
 us (cm 1 m6 (ak 4 tx) jl) fun qo=>
 upon (aT 1 qo nD jl) fun oJ iw=>
 (((us (aw qp jl) fun v=>v=m6)/\True)/\True)/\(True)/\
 us (ai .add (none) true (ak 4 tx) (.int .i64 1) iw) fun qn=>
 SV [(ak 0 tx),(ak 1 tx),(ak 2 tx),(ak 3 tx),qn] iw)) (
 us (fA .not (ak 2 tx) ep) fun kF=>
 us (aS (ag false kF) ep (.ok (ak 0 tx) ep)) fun tp=>
 cb (ag false kF) ep (fun k=>C 68 [tp] ep k) fun tn jS=>
 us (aS (ag false kF) jS (fA .not tn jS)) fun qZ=>
 us (aK kF (.bool true) qZ jS) fun tm=>
 aD tm (
 Q (.tuple [.aC,(.int .i64 4)]) jS) (
 Q (.tuple [(ak 1 tx),(.int .i64 0)]) jS))) [(ak 0 l4),(ak 1 l4),(ak 2 l4),(ak 3 l4),(ak 4 l4)] eD) fun SW=>
 eN 1 (ak 1 v10) s7 fun qm=>
 us (bO .slice qm s7) fun me=>
 SW [(ak 0 v10),(ak 1 v10),(ak 2 v10),me,(.int .i64 0)] s7)) [(ak 0 v8),(ak 1 v8),(ak 2 v8),(ak 3 v8),(ak 4 v8)] s6) fun k9=>
 eN 0 x6 s5 fun nJ=>
 us (bO .slice nJ s5) fun mj=>
 k9 [x2,x6,(.bool true),mj,(.int .i64 0)] s5)):=by kernel_rfl
theorem Zc (C:aN)(a0:CV)(st:St)(Q:CV->St->Prop):aH P0 C (lvs 79) 79 [a0] st Q=
 (us (ai .eql (some .ptr) true a0 .aC st) fun x1=>
 aD x1 (
 Q (.int .i64 0) st) (
 eN 1 a0 st fun x2=>
 us (bO .slice x2 st) fun x3=>
 Q x3 st)):=by kernel_rfl
theorem Z0 (C:aN)(a0:CV)(st:St)(Q:CV->St->Prop):aH P0 C (lvs 22) 22 [a0] st Q=
 (us (ai .eql (some .ptr) true a0 .aC st) fun x1=>
 aD x1 (
 Q .aa st) (
 eN 0 a0 st fun x2=>
 C 36 [x2] st fun x3 s1=>
 Q x3 s1)):=by kernel_rfl
theorem ZP (C:aN)(a0:CV)(st:St)(Q:CV->St->Prop):aH P0 C (lvs 36) 36 [a0] st Q=
 (us (ai .eql (some .slice) true a0 .aa st) fun x1=>
 aD x1 (
 Q .aa st) (
 upon (bI 67 0 (cM 0 [(.int .i64 0),(.int .i64 0),(.int .i64 0)]) [] st) fun x2 s1=>
 upon (cy 67 3 24 x2 (dJ .slice 3 [(.int .i64 0),(.int .i64 0),(.int .i64 0)] a0 s1) s1) fun x3 s2=>
 Q x3 s2)):=by kernel_rfl
theorem ZQ (C:aN)(a0:CV)(st:St)(Q:CV->St->Prop):aH P0 C (lvs 35) 35 [a0] st Q=
 (us (ai .eql (some .ptr) true a0 .aC st) fun x1=>
 aD x1 (
 Q .aC st) (
 cd (
 us (cz a0 st) fun x2=>
 us (al 0 x2 st) fun x3=>
 us (aw x3 st) fun x4=>
 C 36 [x4] st fun x5 s1=>
 us (cz a0 s1) fun x6=>
 us (al 1 x6 s1) fun x7=>
 us (aw x7 s1) fun x8=>
 C 72 [x8] s1 fun x9 s2=>
 us (bf [.aa, .aa] [(0,1,x5),(1,1,x9)] s2) fun cA=>
 upon (eO 115 cA s2) fun cF s3=>
 ((True)/\((us (aw x7 st) fun v=>v=x8)/\True)/\True)/\(True)/\
 Q cF s3))):=by kernel_rfl
section
variable {st st' s:St} {c a b:Nat}
structure gN (st:St)(c p d a b:Nat):Prop where
 box:st.mem.get c=some (.cells [.slice p 0 a a 0, .slice d 0 b b 0] 115 false)
 pl:st.mem.get p=some (.cells (List.replicate (3*a) (I 0)) 67 false)
 dn:st.mem.get d=some (.cells (List.replicate b (.bool false)) 4 false)
 lt:c<st.next/\p<st.next/\d<st.next
 ne:c≠p/\c≠d/\p≠d
theorem gN.keep {X:List Nat}{p d:Nat}(h:gN st c p d a b)(hk:Kp X st st')(hx:c∉X/\p∉X/\d∉X):gN st' c p d a b:=by
 have n:=hk.next;have l:=h.lt;exact⟨(hk.keep c l.1 hx.1).trans h.box,(hk.keep p l.2.1 hx.2.1).trans h.pl,(hk.keep d l.2.2 hx.2.2).trans h.dn,⟨by omega,by omega,by omega⟩,h.ne⟩
theorem DX (ha:1<=a/\a<=4)(hb:1<=b/\b<=5):R 118 [I a,I b] st fun y s=>∃c p d,y= .tuple [.ptr c 0,I 0]/\Kp [] st s/\gN s c p d a b/\st.next<=c/\st.next<=p/\st.next<=d:=by
 refine Ij (v:= .tuple [.ptr (st.next+2) 0, .int .i64 0]) (st':=Co a b st) ?_ ⟨st.next+2,st.next,st.next+1,rfl, ?_, ?_,by omega,by omega,by omega⟩
 ·show(if _ then _ else _)=_;rw[agl ⟨ha,hb⟩]
 ·exact(((Kp.refl [] st).new _).new _).new _
 ·have g:∀q,(Co a b st).mem.get q=if q=st.next+2 then some (.cells [.slice st.next 0 a a 0, .slice (st.next+1) 0 b b 0] 115 false)else if q=st.next+1 then some (.cells (List.replicate b (.bool false)) 4 false)else if q=st.next then some (.cells (List.replicate (3*a) (.int .i64 0)) 67 false)else st.mem.get q:=fun q=>rfl
  have n:(Co a b st).next=st.next+3:=rfl;refine⟨by rw[g,agl rfl],by rw[g,agf (by omega),agf (by omega),agl rfl],by rw[g,agf (by omega),agl rfl],by omega,by omega⟩
def eM (a b:Nat):List UInt8:=uv a++(uv b++(List.replicate (3*a) 0++List.replicate b 0))
theorem L6:uv 0=[0]:=by unfold uv;rfl
theorem Lx {p d:Nat}(h:gN st c p d a b)(ha:1<=a/\a<=4)(hb:1<=b/\b<=5):R 119 [.ptr c 0] st fun y s=>y= .str (eM a b)/\Kp [] st s:=by
 refine bp ?_;rw[R5,bD,ae,ah,agf (by decide),bG];simp only[aV,ae,af,av,h.box,ao,afZ,afX,au,dE];have u1:(uv a).length<=5:=(lq _ (by omega)).2;have u2:(uv b).length<=5:=(lq _ (by omega)).2;refine(jN (X:=[]) (b:=[]) (n:=a) (.inl ⟨rfl,rfl⟩) (by simp) (by omega)).mono ?_;intro x6 s1 m1;have Cw:=m1.sl [] (by simp);obtain⟨_,k1,_⟩:=m1;have h1:=h.keep k1 (by simp);simp only[ae,aV,af,av,h1.box,h.box,ao,afZ,agb,afX,au,dE];refine(jN (n:=b) Cw (by simp;omega) (by omega)).mono ?_;intro cF s2 m2;have JM:=m2.sl [] (by simp);obtain⟨_,k2,_⟩:=m2;have K2:=k1.trans k2;have h2:=h.keep K2 (by simp);refine⟨⟨trivial,⟨trivial,trivial⟩,trivial⟩,trivial, ?_⟩;unfold eN;simp only[ae,aV,af,av,h2.box,ao,afZ,afX,au,dE];rw[bP];simp only[aI,aJ];refine bA (fun fu vs s=>∃i x,fu+i=a/\vs=[.ptr c 0,x, .slice p 0 a a 0,I a,I i]/\Kp [] st s/\Sl s [] x 1 (aj (uv a++(uv b++List.replicate (3*i) 0)))) ?_ (n:=a) ⟨0,_,rfl,rfl,K2,by simpa using JM⟩;rintro fu vs s K ⟨i,x,hi,rfl,k,sl⟩ next;simp only[aI,aJ];have hs:=h.keep k (by simp);rw[de,ae,ah]
 by_cases hc:i<a
 ·rw[agi hc,agl rfl]
  have ld:∀K:CV->Prop,K (.agg [I 0,I 0,I 0])->jh 3 3 (.slice p 0 a a 0) (I i) s K:=fun K hK=>by
   unfold jh;rw[du hc (.inl rfl),ae,jA,hs.pl,ao]
   have e:fG (List.replicate (3*a) (I 0)) (0+i*3) 3=some [I 0,I 0,I 0]:=by
    unfold fG;rw[agl (by rw[agr];omega),ahA,List.take_replicate,agD (by omega)]
    rfl
   rw[e,rW];exact hK
  refine ld _ ?_;refine mL rfl rfl rfl ?_;generalize sn:St.new s (.cells [I 0,I 0,I 0] 67 false)=s7;obtain⟨k7,g7,n7⟩:=da sn;have ul:(uv a++(uv b++List.replicate (3*i) (0:UInt8))).length<=100:=by simp;omega
  rw[bG];simp only[ae,af,av,g7,ao,afZ,afX,au];refine(jN (n:=0) (sl.mono k7) (by omega) (by omega)).mono ?_;intro dV s8 m8;have sl8:=m8.sl [] (by simp);obtain⟨_,k8,_⟩:=m8;have g8:=(k8.keep s.next (by omega) (by simp)).trans g7;simp only[ae,af,av,g7,g8,ao,afZ,afX,agb,au];refine(jN (n:=0) sl8 (by rw[agq,L6];simp;omega) (by omega)).mono ?_;intro fp s9 m9;have sl9:=m9.sl [] (by simp);obtain⟨_,k9,_⟩:=m9;have n8:=k8.next;have g9:=(k9.keep s.next (by omega) (by simp)).trans g8;simp only[ae,af,av,g7,g8,g9,ao,afZ,afX,agb,au];refine(jN (n:=0) sl9 (by rw[agq,agq,L6];simp;omega) (by omega)).mono ?_;intro fM cw WS;have M8:=WS.sl [] (by simp);obtain⟨_,kZ,_⟩:=WS;refine⟨⟨trivial,⟨trivial,trivial⟩,⟨trivial,trivial,trivial⟩,trivial⟩,trivial, ?_⟩;rw[gW i (by omega),ae]
  have e:(uv a++(uv b++List.replicate (3*i) (0:UInt8))++uv 0++uv 0++uv 0)=uv a++(uv b++List.replicate (3*(i+1)) 0):=by
   rw[L6,show 3*(i+1)=3*i+1+1+1 from by omega,List.replicate_succ',List.replicate_succ',List.replicate_succ'];simp
  rw[e]at M8;exact next (fu-1) _ _ (by omega) ⟨i+1,fM,by omega,rfl,(((k.trans k7).trans k8).trans k9).trans kZ,M8⟩
 ·rw[agc hc,agf (by decide)];rw[bP];simp only[ae,aV,af,av,hs.box,ao,afZ,agb,afX,au,dE,aI,aJ];obtain rfl:i=a:=by omega
  refine bA (fun fu vs s=>∃j x,fu+j=b/\vs=[x, .slice d 0 b b 0,I b,I j]/\Kp [] st s/\Sl s [] x 1 (aj (uv i++(uv b++(List.replicate (3*i) 0++List.replicate j 0))))) ?_ (n:=b) ⟨0,x,rfl,rfl,k,by simpa using sl⟩;rintro Jm vs2 s2 K' ⟨j,y,hj,rfl,k2,JM⟩ xO;simp only[aI,aJ];have ya:=h.keep k2 (by simp);rw[de,ae,ah]
  by_cases wV:j<b
  ·rw[agi wV,agl rfl]
   have ld:∀K:CV->Prop,K (.bool false)->idx 1 (.slice d 0 b b 0) (I j) s2 K:=fun K hK=>by
    unfold idx;rw[du wV (.inl rfl),ae,av,ya.dn,ao,List.getElem?_replicate,agl (by omega),au];exact hK
   refine ld _ ?_;have ul:(uv i++(uv b++(List.replicate (3*i) (0:UInt8)++List.replicate j 0))).length<=100:=by simp;omega
   refine(EW (f:=false) JM (by omega)).mono ?_;intro iy eJ WQ;have M7:=WQ.sl [] (by simp);obtain⟨_,xX,_⟩:=WQ;rw[gW j (by omega),ae]
   have e:(uv i++(uv b++(List.replicate (3*i) (0:UInt8)++List.replicate j 0))++uv (if false=true then 1 else 0))=uv i++(uv b++(List.replicate (3*i) 0++List.replicate (j+1) 0)):=by
    rw[agf (by decide),L6,List.replicate_succ' (n:=j)];simp only[agv]
   rw[e]at M7;exact xO (Jm-1) _ _ (by omega) ⟨j+1,iy,by omega,rfl,k2.trans xX,M7⟩
  ·rw[agc wV,agf (by decide)];obtain rfl:j=b:=by omega
   rw[JM.str,ae];exact⟨rfl,k2⟩
end
section
variable {st st' s:St} {c a b p d:Nat}
theorem xM (n o m:Nat)(x:CV)(h:o+m<=n):bB (List.replicate n x) o (List.replicate m x)=List.replicate n x:=by
 unfold bB;rw[List.take_replicate,ahA,agr,ahN,ahN]
 congr 1;omega
theorem gN.Sp (h:gN s c p d a b):gN (St.set s p (.cells (List.replicate (3*a) (I 0)) 67 false)) c p d a b:=by
 obtain⟨e1,e2,e3⟩:=h.ne;exact⟨(aq _ _ _ _ e1).trans h.box,az _ _ _,(aq _ _ _ _ fun e=>e3 e.symm).trans h.dn,h.lt,h.ne⟩
theorem gN.Sq (h:gN s c p d a b):gN (St.set s d (.cells (List.replicate b (.bool false)) 4 false)) c p d a b:=by
 obtain⟨e1,e2,e3⟩:=h.ne;exact⟨(aq _ _ _ _ e2).trans h.box,(aq _ _ _ _ e3).trans h.pl,az _ _ _,h.lt,h.ne⟩
theorem J5 (st:St):R 121 [.agg [I 0,I 0,I 0]] st fun y s=>y= .bool true/\Kp [] st s:=by
 refine bp ?_;rw[R4,br];refine⟨rfl, ?_⟩;rw[ba];generalize hs1:St.new st (.cells [I 0,I 0,I 0] 67 false)=s1;obtain⟨k1,g1,n1⟩:=da hs1;have e0:∀s,ai .eql (some .int) true (I 0) (.int .i64 0) s= .ok (.bool true) s:=fun s=>rfl;unfold fl eu;simp only[af,ae,av,g1,ao,afZ,afX,agb,au,e0,ah,ags,aE,aM,aF];exact⟨trivial,k1⟩
theorem Pq (ha:1<=a/\a<=4)(hb:1<=b/\b<=5):R 78 [.str (eM a b)] st fun y s=>∃c p d,y= .tuple [.ptr c 0,I 0]/\Kp [] st s/\gN s c p d a b/\st.next<=c/\st.next<=p/\st.next<=d:=by
 refine bp ?_;rw[Zd];have Mn:=lq a (by omega);have Ko:=lq b (by omega);have hL:(eM a b).length<=100:=by unfold eM;simp;omega
 have hL0:0<(eM a b).length:=by unfold eM;simp;omega
 have hcv:bQ (.bytesOf 5) (.str (eM a b)) st= .ok (.slice st.next 0 (eM a b).length (eM a b).length 1) (St.new st (.cells (aj (eM a b)) 5 true)):=rfl;rw[hcv,bj];generalize hs1:St.new st (.cells (aj (eM a b)) 5 true)=s1;obtain⟨k1,g1,n1⟩:=da hs1;have own:Own s1 (.slice st.next 0 (eM a b).length (eM a b).length 1) 1 5 (aj (eM a b)) [st.next]:= .inr (.inr ⟨st.next,_,rfl,hL0,by simp,rfl,g1⟩);refine(lK (own.sl (X:=[]) (by simp;omega)) (by omega)).mono ?_;rintro _ s2 ⟨r,F,rfl,k2,hr,hF⟩;have n2:=k2.next;unfold eM at hr;refine(eE (m:=4) hr (by omega) (by omega)).mono ?_;rintro _ s3 ⟨rfl,k3,n3,hr3⟩;refine(eE (m:=5) hr3 (by omega) (by omega)).mono ?_;rintro _ s4 ⟨rfl,k4,n4,Qc⟩;refine(DX ha hb).mono ?_;rintro _ s5 ⟨c,p,d,rfl,k5,hC,hc,hp,hd⟩;have n5:=k5.next;have ER:∀b∈F,b<s4.next:=fun b hb=>by obtain⟨_,_,_,_,_,h,_⟩:=Qc;exact h b hb
 have Qb:=Qc.keep k5 (by simp);have K5:Kp [] st s5:=(((k1.trans k2).trans k3 fun q hq=> .inr (by have:=hF q hq;omega)).trans k4 fun q hq=> .inr (by have:=hF q hq;omega)).trans k5;have en:ai .neq (some .int) true (I 0) (.int .i64 0) s5= .ok (.bool false) s5:=rfl;have CC:c∉F/\p∉F/\d∉F:=⟨fun h=>by have:=ER _ h;omega,fun h=>by have:=ER _ h;omega,fun h=>by have:=ER _ h;omega⟩;have kQ:∀q∈F,st.next<=q:=fun q hq=>by have:=hF q hq;omega
 rw[ay,ae,aL,ay,ae,en,ae,ah,agf (by decide)];unfold eN fB;rw[bP];simp only[ae,aV,af,av,hC.box,ao,afZ,afX,au,dE,aI,aJ]
 have VU:∀K,(List.replicate (3*(K+1)) (0:UInt8))=uv 0++(uv 0++(uv 0++List.replicate (3*K) 0)):=fun K=>by
  rw[L6,show 3*(K+1)=3*K+1+1+1 from by omega,agQ,agQ,agQ];rfl
 refine bA (fun fu vs s=>∃i,fu+i=a/\vs=[.ptr r 0, .ptr c 0, .bool true,I a,I i]/\Kp [] st s/\jb s r F (List.replicate (3*fu) 0++List.replicate b 0)/\gN s c p d a b) ?_ (n:=a) ⟨0,rfl,rfl,K5,Qb,hC⟩;rintro fu vs s K ⟨i,hi,rfl,k,hR,Pf⟩ next;simp only[aI,aJ];rw[de,ae,ah]
 by_cases yQ:i<a
 ·rw[agi yQ,agl rfl,bG];obtain⟨f,rfl⟩:∃f,fu=f+1:=⟨fu-1,by omega⟩;rw[VU,agv,agv,agv]at hR;simp only[ae,aV,af,av,Pf.box,ao,afZ,afX,au];refine(eE (m:=2147483647) hR (by omega) (by omega)).mono ?_;rintro _ s8 ⟨rfl,k8,n8,P9⟩;have c8:=Pf.keep k8 CC;simp only[ae,aV,af,av,c8.box,ao,afZ,afX,agb,au,dE];refine(eE (m:=b) P9 (by omega) (by omega)).mono ?_;rintro _ s9 ⟨rfl,k9,n9,hr9⟩;have c9:=c8.keep k9 CC;simp only[ae,aV,af,av,c9.box,ao,afZ,afX,agb,au,dE];refine(eE (m:=b) hr9 (by omega) (by omega)).mono ?_;rintro _ cw ⟨rfl,kZ,DY,TH⟩;have LH:=c9.keep kZ CC;have kx:bf [.int .i64 0, .int .i64 0, .int .i64 0] [(0,1,I ((0:Nat):Int)),(1,1,I ((0:Nat):Int)),(2,1,I ((0:Nat):Int))] cw= .ok (.agg [I 0,I 0,I 0]) cw:=rfl;rw[kx,ae,du yQ (.inl rfl),ae,aQ,LH.pl,bg,ba];have eo:bB (List.replicate (3*a) (I 0)) (0+i*3) [I 0,I 0,I 0]=List.replicate (3*a) (I 0):=xM (3*a) (0+i*3) 3 (I 0) (by omega);rw[eo];refine⟨⟨rfl,rfl,by rw[agr];omega⟩, ?_⟩;have VZ:=LH.Sp;have pN:Kp [p] cw (St.set cw p (.cells (List.replicate (3*a) (I 0)) 67 false)):=(Kp.refl [p] cw).set _ (by simp) LH.lt.2.1;have TG:=TH.keep pN (fun q hq hh=>by simp at hh;subst hh;exact CC.2.1 hq);generalize St.set cw p (.cells (List.replicate (3*a) (I 0)) 67 false)=cB at*;simp only[c8.box,c9.box,LH.box,Pf.box,af,av,ao,afZ,afX,agb,au];refine⟨⟨⟨trivial,trivial,trivial,trivial⟩,⟨trivial,trivial⟩,⟨trivial,trivial,trivial⟩,trivial⟩,trivial, ?_⟩
  have e3:fG (List.replicate (3*a) (I 0)) (0+i*3) 3=some [I 0,I 0,I 0]:=by
   unfold fG;rw[agl (by rw[agr];omega),ahA,List.take_replicate,agD (by omega)]
   rfl
  simp only[aE,ags,aM,ae,aV,af,av,VZ.box,ao,afZ,afX,au];rw[du yQ (.inl rfl),ae,jA,VZ.pl,ao,e3,rW,bF];refine(J5 cB).mono ?_;rintro _ eJ ⟨rfl,xX⟩;rw[aF,agl rfl,ae,gW i (by omega),ae]
  have hK:Kp [] st eJ:=((((k.trans k8 fun q hq=> .inr (kQ q hq)).trans k9 fun q hq=> .inr (kQ q hq)).trans kZ fun q hq=> .inr (kQ q hq)).trans pN fun q hq=> .inr (by
   have TL:st.next<=p:=by omega
   simp at hq;omega)).trans xX
  exact next f _ _ (by omega) ⟨i+1,by omega,rfl,hK,TG.keep xX (by simp),VZ.keep xX (by simp)⟩
 ·rw[agc yQ,agf (by decide)];obtain rfl:fu=0:=by omega
  rw[show 3*0=0 from rfl,List.replicate_zero,agE]at hR;rw[bP];simp only[ae,aV,af,av,Pf.box,ao,afZ,agb,afX,au,dE,aI,aJ];refine bA (fun fu vs s=>∃j,fu+j=b/\vs=[.ptr r 0, .ptr c 0, .bool true,I b,I j]/\Kp [] st s/\jb s r F (List.replicate fu 0)/\gN s c p d a b) ?_ (n:=b) ⟨0,rfl,rfl,k,hR,Pf⟩;rintro Jm vs2 s2' K' ⟨j,hj,rfl,WZ,hR2,Jh⟩ xO;simp only[aI,aJ];rw[de,ae,ah]
  by_cases wV:j<b
  ·rw[agi wV,agl rfl,bG];obtain⟨f,rfl⟩:∃f,Jm=f+1:=⟨Jm-1,by omega⟩
   have hR3:jb s2' r F (uv (if false=true then 1 else 0)++List.replicate f 0):=by
    rw[agf (by decide),L6];rw[agQ]at hR2;exact hR2
   simp only[ae,aV,af,av,Jh.box,ao,afZ,afX,agb,au];refine(xv hR3).mono ?_;rintro _ jl ⟨rfl,oq,WM,TF⟩;have QH:=Jh.keep oq CC;rw[du wV (.inl rfl),ae,aQ,QH.dn,bg];have eo:bB (List.replicate b (.bool false)) (0+j*1) (CV.bool false).bL=List.replicate b (.bool false):=xM b (0+j*1) 1 (.bool false) (by omega);rw[eo];refine⟨⟨rfl,rfl,by rw[agr];omega⟩, ?_⟩;have c16:=QH.Sq;have xW:Kp [d] jl (St.set jl d (.cells (List.replicate b (.bool false)) 4 false)):=(Kp.refl [d] jl).set _ (by simp) QH.lt.2.2;have TE:=TF.keep xW (fun q hq hh=>by simp at hh;subst hh;exact CC.2.2 hq);generalize St.set jl d (.cells (List.replicate b (.bool false)) 4 false)=iw at*;simp only[QH.box,Jh.box,af,av,ao,afZ,afX,agb,au];refine⟨⟨⟨trivial,trivial⟩,trivial⟩,trivial, ?_⟩;rw[gW j (by omega),ae];exact xO f _ _ (by omega) ⟨j+1,by omega,rfl,(WZ.trans oq fun q hq=> .inr (kQ q hq)).trans xW fun q hq=> .inr (by simp at hq;omega),TE,c16⟩
  ·rw[agc wV,agf (by decide),bt,ae,aE];obtain rfl:Jm=0:=by omega
   simp only[agm,afY,agn,agj,aM,ae,bF];refine(A8 hR2).same ?_;rw[bt,ae,aF,agf (by decide),ae,ah,List.replicate_zero,agi rfl,agm,agf (by decide)];exact⟨c,p,d,rfl,WZ,Jh,by omega,by omega,by omega⟩
end
section
variable {st st' s:St} {c a b p d:Nat} {X:List Nat} {v:CV} {L:List CV}
theorem Be (h:Sl st X v 3 L)(ho:bu L=true)(hl:L.length<=1000):R 36 [v] st (mZ 3 67 v L st):=by
 refine bp ?_;rw[ZP];exact wD 24 h (by omega) ho (by omega)
theorem HZ (h:Sl st X v 1 L)(ho:bu L=true)(hl:L.length<=1000):R 72 [v] st (mZ 1 4 v L st):=by
 refine bp ?_;rw[Zi];exact wD 1 h (by omega) ho (by omega)
theorem ug (n:Nat):bu (List.replicate n (I 0))=true:=by
 simp only[bu,List.all_eq_true];intro x hx;rw[List.eq_of_mem_replicate hx];rfl
theorem zX (n:Nat):bu (List.replicate n (.bool false))=true:=by
 simp only[bu,List.all_eq_true];intro x hx;rw[List.eq_of_mem_replicate hx];rfl
def ud (st:St)(c a b:Nat):Prop:=c<st.next/\∃v w,st.mem.get c=some (.cells [v,w] 115 false)/\Sl st [] v 3 (List.replicate (3*a) (I 0))/\Sl st [] w 1 (List.replicate b (.bool false))
theorem gN.slP (h:gN st c p d a b):Sl st [] (.slice p 0 a a 0) 3 (List.replicate (3*a) (I 0)):=
 .inr ⟨p,0,a,a,0,rfl,by rw[agr];omega,⟨aga _, .inl rfl⟩, .inr ⟨by simp,h.lt.2.1,_,_,_,h.pl,by rw[agr];omega,by rw[agC,agk (by rw[agr];omega)]⟩⟩
theorem gN.slD (h:gN st c p d a b):Sl st [] (.slice d 0 b b 0) 1 (List.replicate b (.bool false)):=
 .inr ⟨d,0,b,b,0,rfl,by rw[agr];omega,⟨aga _, .inl rfl⟩, .inr ⟨by simp,h.lt.2.2,_,_,_,h.dn,by rw[agr];omega,by rw[agC,agk (by rw[agr];omega)]⟩⟩
theorem gN.Sm (h:gN st c p d a b):ud st c a b:=⟨h.lt.1,_,_,h.box,h.slP,h.slD⟩
theorem ud.still (h:ud st c a b)(hk:Kp [] st st'):ud st' c a b:=by
 obtain⟨l,v,w,h1,h2,h3⟩:=h;exact⟨ago l hk.next,v,w,(hk.keep c l (by simp)).trans h1,h2.mono hk,h3.mono hk⟩
theorem Da (h:ud st c a b)(hb:b<=1000):R 79 [.ptr c 0] st fun y s=>y=I b/\s=st:=by
 obtain⟨l,v,w,h1,h2,h3⟩:=h;refine bp ?_;rw[Zc,bD,ae,ah,agf (by decide)];unfold eN;rw[aV,ae,af,ae,av,h1,ao];show us _ _;rw[h3.len b (by rw[agr];omega) (by omega),ae];exact⟨rfl,rfl⟩
theorem xA (h:ud st c a b)(ha:a<=100):R 22 [.ptr c 0] st fun y s=>Kp [] st s/\Sl s [] y 3 (List.replicate (3*a) (I 0)):=by
 obtain⟨l,v,w,h1,h2,h3⟩:=h;refine bp ?_;rw[Z0,bD,ae,ah,agf (by decide)];unfold eN;rw[aV,ae,af,ae,av,h1,ao];show R 36 _ _ _;refine(Be h2 (ug _) (by rw[agr];omega)).mono ?_;intro x s1 m;have m':=m.made;obtain⟨_,k,_⟩:=m;exact⟨k,m'.sl [] (by simp)⟩
theorem LB (h:ud st c a b)(ha:a<=100)(hb:b<=100):R 35 [.ptr c 0] st fun y s=>∃c',y= .ptr c' 0/\Kp [] st s/\ud s c' a b:=by
 have h0:=h;obtain⟨l,v,w,h1,h2,h3⟩:=h;refine bp ?_;rw[ZQ,bD,ae,ah,agf (by decide),bG];simp only[ae,aV,af,av,h1,ao,afZ,afX,au];refine(Be h2 (ug _) (by rw[agr];omega)).mono ?_;intro x s1 m;have m':=m.made;obtain⟨_,k,_⟩:=m;have Cw:=m'.sl [] (by simp);have g1:=(k.keep c l (by simp)).trans h1;simp only[ae,aV,af,av,g1,h1,ao,afZ,agb,afX,au];refine(HZ (h3.mono k) (zX _) (by rw[agr];omega)).mono ?_;intro y s2 m2;have m2':=m2.made;obtain⟨_,k2,_⟩:=m2;have JM:=m2'.sl [] (by simp);obtain⟨y1,o1,z1⟩:=Cw.jg;obtain⟨y2,o2,z2⟩:=JM.jg
 have kx:bf [.aa, .aa] [(0,1,x),(1,1,y)] s2= .ok (.agg [x,y]) s2:=by
  rw[eF];simp[dG,bB,y1,z1,y2,z2]
 rw[kx,ae,br];refine⟨rfl, ?_⟩;rw[ba];generalize Em:St.new s2 (.cells [x,y] 115 false)=s3;obtain⟨k3,g3,n3⟩:=da Em;refine⟨⟨trivial,⟨trivial,trivial⟩,trivial⟩,trivial, ?_⟩;exact⟨s2.next,rfl,(k.trans k2).trans k3,by omega,x,y,g3,(Cw.mono k2).mono k3,JM.mono k3⟩
end
theorem ZO (C:aN)(a0 a1:CV)(st:St)(Q:CV->St->Prop):aH P0 C (lvs 37) 37 [a0,a1] st Q=
 (upon (eO 23 a1 st) fun x1 s1=>
 cN (fun v1 s2=>
 cf (fun v3 s3 k4=>
 us (ai .lss (none) false (ak 2 v3) (ak 1 v3) s3) fun x6=>
 aD x6 (
 jh 3 3 (ak 0 v3) (ak 2 v3) s3 fun x7=>
 upon (dd 180 [(.int .i64 0),(.int .i64 0),(.int .i64 0)] s3) fun x8 s4=>
 upon (aT 3 x8 x7 s4) fun _ s5=>
 us (cQ 3 1 x8 (.int .i64 0) s5) fun x9=>
 us (aw x9 s5) fun cA=>
 us (cQ 3 1 x8 (.int .i64 1) s5) fun cF=>
 us (aw cF s5) fun cO=>
 us (ai .lss (none) false cA cO s5) fun cI=>
 us (aS (ag false cI) s5 (cQ 3 1 x8 (.int .i64 0) s5)) fun dq=>
 us (aS (ag false cI) s5 (aw dq s5)) fun dx=>
 us (aS (ag false cI) s5 (cQ 3 1 x8 (.int .i64 2) s5)) fun cX=>
 us (aS (ag false cI) s5 (aw cX s5)) fun dp=>
 us (aS (ag false cI) s5 (ai .gtr (none) false dx dp s5)) fun db=>
 us (aK cI (.bool true) db s5) fun dm=>
 aD dm (
 Q (.bool false) s5) (
 us (ai .add (none) true (ak 2 v3) (.int .i64 1) s5) fun dB=>
 k4 [(ak 0 v3),(ak 1 v3),dB] s5)) (
 Q (.bool true) s3)) [(ak 0 v1),(ak 1 v1),(ak 2 v1)] s2) fun k2=>
 fl 0 x1 s1 fun dV=>
 us (bf [(.int .i64 0),(.int .i64 0),(.int .i64 0)] [(0,1,dV),(1,1,(.int .i64 1)),(2,1,(.int .i64 5))] s1) fun dU=>
 fl 3 x1 s1 fun dQ=>
 us (bf [(.int .i64 0),(.int .i64 0),(.int .i64 0)] [(0,1,dQ),(1,1,(.int .i64 1)),(2,1,(.int .i64 4))] s1) fun fp=>
 fl 9 x1 s1 fun ew=>
 us (bf [(.int .i64 0),(.int .i64 0),(.int .i64 0)] [(0,1,ew),(1,1,(.int .i64 1)),(2,1,(.int .i64 1000))] s1) fun fk=>
 fl 10 x1 s1 fun fM=>
 us (bf [(.int .i64 0),(.int .i64 0),(.int .i64 0)] [(0,1,fM),(1,1,(.int .i64 1)),(2,1,(.int .i64 1000))] s1) fun fD=>
 fl 0 x1 s1 fun gq=>
 us (bf [(.int .i64 0),(.int .i64 0),(.int .i64 0)] [(0,1,a0),(1,1,(.int .i64 1)),(2,1,gq)] s1) fun fE=>
 upon (bI 180 5 (cM 5 [(.int .i64 0),(.int .i64 0),(.int .i64 0)]) [(0,3,dU),(3,3,fp),(6,3,fk),(9,3,fD),(12,3,fE)] s1) fun gI s6=>
 us (bO .slice gI s6) fun iu=>
 k2 [gI,iu,(.int .i64 0)] s6):=by kernel_rfl
theorem Ze (C:aN)(a0:CV)(st:St)(Q:CV->St->Prop):aH P0 C (lvs 76) 76 [a0] st Q=
 (upon (dd 121 [(.int .i64 0),(.int .i64 0),(.int .i64 0),(.int .i64 0),(.int .i64 0),(.int .i64 0),(.int .i64 0),(.int .i64 0), .aa,(.str []), .aa] st) fun x1 s1=>
 cd (
 us (cz a0 s1) fun x2=>
 us (al 1 x2 s1) fun x3=>
 us (al 3 x3 s1) fun x4=>
 us (aw x4 s1) fun x5=>
 us (cz a0 s1) fun x6=>
 us (al 1 x6 s1) fun x7=>
 us (al 0 x7 s1) fun x8=>
 us (aw x8 s1) fun x9=>
 C 118 [x5,x9] s1 fun cA s2=>
 us (aB cA 0 s2) fun cF=>
 us (aB cA 1 s2) fun cO=>
 ((True)/\(True)/\True)/\(True)/\
 cd (
 us (cz a0 (St.new s2 (.cells [(.int .i64 0),(.int .i64 0),(.int .i64 0),(.int .i64 0),(.int .i64 0),(.int .i64 0),(.int .i64 0),(.int .i64 0), .aa,(.str []), .aa] 121 false))) fun cI=>
 us (al 14 cI (St.new s2 (.cells [(.int .i64 0),(.int .i64 0),(.int .i64 0),(.int .i64 0),(.int .i64 0),(.int .i64 0),(.int .i64 0),(.int .i64 0), .aa,(.str []), .aa] 121 false))) fun dq=>
 us (aw dq (St.new s2 (.cells [(.int .i64 0),(.int .i64 0),(.int .i64 0),(.int .i64 0),(.int .i64 0),(.int .i64 0),(.int .i64 0),(.int .i64 0), .aa,(.str []), .aa] 121 false))) fun dx=>
 us (cz a0 (St.new s2 (.cells [(.int .i64 0),(.int .i64 0),(.int .i64 0),(.int .i64 0),(.int .i64 0),(.int .i64 0),(.int .i64 0),(.int .i64 0), .aa,(.str []), .aa] 121 false))) fun cX=>
 us (al 1 cX (St.new s2 (.cells [(.int .i64 0),(.int .i64 0),(.int .i64 0),(.int .i64 0),(.int .i64 0),(.int .i64 0),(.int .i64 0),(.int .i64 0), .aa,(.str []), .aa] 121 false))) fun dp=>
 us (al 0 dp (St.new s2 (.cells [(.int .i64 0),(.int .i64 0),(.int .i64 0),(.int .i64 0),(.int .i64 0),(.int .i64 0),(.int .i64 0),(.int .i64 0), .aa,(.str []), .aa] 121 false))) fun db=>
 us (aw db (St.new s2 (.cells [(.int .i64 0),(.int .i64 0),(.int .i64 0),(.int .i64 0),(.int .i64 0),(.int .i64 0),(.int .i64 0),(.int .i64 0), .aa,(.str []), .aa] 121 false))) fun dm=>
 us (cz a0 (St.new s2 (.cells [(.int .i64 0),(.int .i64 0),(.int .i64 0),(.int .i64 0),(.int .i64 0),(.int .i64 0),(.int .i64 0),(.int .i64 0), .aa,(.str []), .aa] 121 false))) fun dB=>
 us (al 1 dB (St.new s2 (.cells [(.int .i64 0),(.int .i64 0),(.int .i64 0),(.int .i64 0),(.int .i64 0),(.int .i64 0),(.int .i64 0),(.int .i64 0), .aa,(.str []), .aa] 121 false))) fun dV=>
 us (al 9 dV (St.new s2 (.cells [(.int .i64 0),(.int .i64 0),(.int .i64 0),(.int .i64 0),(.int .i64 0),(.int .i64 0),(.int .i64 0),(.int .i64 0), .aa,(.str []), .aa] 121 false))) fun dU=>
 us (aw dU (St.new s2 (.cells [(.int .i64 0),(.int .i64 0),(.int .i64 0),(.int .i64 0),(.int .i64 0),(.int .i64 0),(.int .i64 0),(.int .i64 0), .aa,(.str []), .aa] 121 false))) fun dQ=>
 us (cz a0 (St.new s2 (.cells [(.int .i64 0),(.int .i64 0),(.int .i64 0),(.int .i64 0),(.int .i64 0),(.int .i64 0),(.int .i64 0),(.int .i64 0), .aa,(.str []), .aa] 121 false))) fun fp=>
 us (al 1 fp (St.new s2 (.cells [(.int .i64 0),(.int .i64 0),(.int .i64 0),(.int .i64 0),(.int .i64 0),(.int .i64 0),(.int .i64 0),(.int .i64 0), .aa,(.str []), .aa] 121 false))) fun ew=>
 us (al 10 ew (St.new s2 (.cells [(.int .i64 0),(.int .i64 0),(.int .i64 0),(.int .i64 0),(.int .i64 0),(.int .i64 0),(.int .i64 0),(.int .i64 0), .aa,(.str []), .aa] 121 false))) fun fk=>
 us (aw fk (St.new s2 (.cells [(.int .i64 0),(.int .i64 0),(.int .i64 0),(.int .i64 0),(.int .i64 0),(.int .i64 0),(.int .i64 0),(.int .i64 0), .aa,(.str []), .aa] 121 false))) fun fM=>
 C 119 [cF] (St.new s2 (.cells [(.int .i64 0),(.int .i64 0),(.int .i64 0),(.int .i64 0),(.int .i64 0),(.int .i64 0),(.int .i64 0),(.int .i64 0), .aa,(.str []), .aa] 121 false)) fun fD s3=>
 us (bf [(.int .i64 0),(.int .i64 0),(.int .i64 0),(.int .i64 0),(.int .i64 0),(.int .i64 0),(.int .i64 0),(.int .i64 0), .aa,(.str []), .aa] [(0,1,dx),(1,1,dm),(2,1,dQ),(3,1,fM),(9,1,fD)] s3) fun gq=>
 upon (gO s2.next [(.int .i64 0),(.int .i64 0),(.int .i64 0),(.int .i64 0),(.int .i64 0),(.int .i64 0),(.int .i64 0),(.int .i64 0), .aa,(.str []), .aa] 121 s3) fun fE s4=>
 upon (aT 11 fE gq s4) fun gI s5=>
 (((us (aw dq s4) fun v=>v=dx)/\True)/\((us (aw db s4) fun v=>v=dm)/\True)/\((us (aw dU s4) fun v=>v=dQ)/\True)/\((us (aw fk s4) fun v=>v=fM)/\True)/\((upon (gO s2.next [(.int .i64 0),(.int .i64 0),(.int .i64 0),(.int .i64 0),(.int .i64 0),(.int .i64 0),(.int .i64 0),(.int .i64 0), .aa,(.str []), .aa] 121 (St.new s2 (.cells [(.int .i64 0),(.int .i64 0),(.int .i64 0),(.int .i64 0),(.int .i64 0),(.int .i64 0),(.int .i64 0),(.int .i64 0), .aa,(.str []), .aa] 121 false))) fun v _=>v=fE)/\True)/\True)/\(True)/\
 cN (fun PR s6=>
 cf (fun v33 s7 k34=>
 us (ai .lss (none) false (ak 3 v33) (ak 2 v33) s7) fun jc=>
 aD jc (
 fl 8 (ak 1 v33) s7 fun iC=>
 us (ai .add (none) true (ak 3 v33) (.int .i64 1) s7) fun je=>
 upon (bI 3 1 (cM 1 [(.int .i64 0)]) [(0,1,je)] s7) fun kg s8=>
 upon (cy 3 1 8 iC (dJ .slice 1 [(.int .i64 0)] kg s8) s8) fun kG s9=>
 fst 1 8 (ak 1 v33) kG s9 fun cw=>
 us (ai .add (none) true (ak 3 v33) (.int .i64 1) cw) fun kD=>
 k34 [(ak 0 v33),(ak 1 v33),(ak 2 v33),kD] cw) (
 us (aP 11 (ak 1 v33) s7) fun kf=>
 upon (aT 11 (ak 0 v33) kf s7) fun _ cB=>
 us (aP 11 (ak 0 v33) cB) fun m7=>Q m7 cB)) [(ak 0 PR),(ak 1 PR),(ak 2 PR),(ak 3 PR)] s6) fun k32=>
 yn 1 0 a0 s5 fun oF=>
 k32 [x1,fE,oF,(.int .i64 0)] s5))):=by kernel_rfl
theorem ZM (C:aN)(a0 a1:CV)(st:St)(Q:CV->St->Prop):aH P0 C (lvs 39) 39 [a0,a1] st Q=
 (upon (dd 121 [(.int .i64 0),(.int .i64 0),(.int .i64 0),(.int .i64 0),(.int .i64 0),(.int .i64 0),(.int .i64 0),(.int .i64 0), .aa,(.str []), .aa] st) fun x1 s1=>
 C 76 [a0] s1 fun x2 s2=>
 upon (dd 121 [(.int .i64 0),(.int .i64 0),(.int .i64 0),(.int .i64 0),(.int .i64 0),(.int .i64 0),(.int .i64 0),(.int .i64 0), .aa,(.str []), .aa] s2) fun x3 s3=>
 upon (aT 11 x3 x2 s3) fun _ s4=>
 us (bO .slice a1 s4) fun x4=>
 us (ai .eql (some .int) true x4 (.int .i64 0) s4) fun x5=>
 upon (fU none s4) fun x6 s5=>
 cN (fun v6 s6=>
 cf (fun v8 s7 k9=>
 us (ai .lss (none) false (ak 8 v8) (ak 7 v8) s7) fun cF=>
 aD cF (
 jh 2 2 (ak 6 v8) (ak 8 v8) s7 fun cO=>
 upon (dd 96 [(.str []),(.str [])] s7) fun cI s8=>
 upon (aT 2 cI cO s8) fun _ s9=>
 fl 1 cI s9 fun dq=>
 upon (bQ (.bytesOf 5) dq s9) fun dx cw=>
 C 64 [dx] cw fun cX cB=>
 fl 0 cI cB fun dp=>
 us (ai .eql (some .str) true dp (.str [104]) cB) fun db=>
 aD db (
 C 65 [cX,(.int .i64 5)] cB fun dm eJ=>
 C 65 [cX,(.int .i64 2147483647)] eJ fun dB eD=>
 C 65 [cX,(.int .i64 5)] eD fun dV ep=>
 C 65 [cX,(.int .i64 2147483647)] ep fun dU jl=>
 fst 1 4 (ak 2 v8) dB jl fun iw=>
 fst 1 5 (ak 2 v8) dV iw fun jS=>
 C 68 [cX] jS fun dQ iv=>
 us (aS (ag true dQ) iv (.ok dm iv)) fun fp=>
 us (aS (ag true dQ) iv (.ok (ak 0 v8) iv)) fun ew=>
 fB (ag true dQ) 14 ew iv fun fk=>
 us (aS (ag true dQ) iv (ai .eql (some .int) false fp fk iv)) fun fM=>
 us (aK dQ fM (.bool false) iv) fun fD=>
 us (fA .not fD iv) fun gq=>
 aD gq (
 us (aP 11 (ak 2 v8) iv) fun fE=>
 upon (aT 11 (ak 1 v8) fE iv) fun _ qP=>
 us (aP 11 (ak 1 v8) qP) fun gI=>Q (.tuple [gI,(.bool false)]) qP) (
 us (ai .add (none) true (ak 8 v8) (.int .i64 1) iv) fun iu=>
 k9 [(ak 0 v8),(ak 1 v8),(ak 2 v8),dU,fD,(ak 5 v8),(ak 6 v8),(ak 7 v8),iu] iv)) (
 fl 0 cI cB fun gX=>
 us (ai .eql (some .str) true gX (.str [98]) cB) fun gz=>
 aD gz (
 C 65 [cX,(.int .i64 2147483647)] cB fun iy Dq=>
 C 65 [cX,(.int .i64 2147483647)] Dq fun jc Dp=>
 fst 1 6 (ak 2 v8) iy Dp fun Ng=>
 fst 1 7 (ak 2 v8) jc Ng fun Cx=>
 fst 1 8 (ak 2 v8) .aa Cx fun Ss=>
 cN (fun v36 Nf=>
 cf (fun l4 FT SW=>
 us (ai .lss (none) false (ak 11 l4) (ak 10 l4) FT) fun kD=>
 aD kD (
 cd (
 us (al 8 (ak 2 l4) (St.skip FT)) fun kf=>
 us (aw kf (St.skip FT)) fun m7=>
 C 65 [(ak 6 l4),(.int .i64 5)] (St.skip FT) fun oF PU=>
 upon (dW FT.next 3 1 (cM 1 [(.int .i64 0)]) [(0,1,oF)] PU) fun qp Nd=>
 upon (cy 3 1 8 m7 (dJ .slice 1 [(.int .i64 0)] qp Nd) Nd) fun m6 Wx=>
 us (al 8 (ak 2 l4) Wx) fun nD=>
 upon (aT 1 nD m6 Wx) fun qo Ww=>
 (((us (aw kf (St.skip FT)) fun v=>v=m7)/\(us (aw kf Nd) fun v=>v=m7)/\True)/\True)/\((True)/\True)/\
 us (ai .add (none) true (ak 11 l4) (.int .i64 1) Ww) fun oJ=>
 SW [(ak 0 l4),(ak 1 l4),(ak 2 l4),(ak 3 l4),(ak 4 l4),(ak 5 l4),(ak 6 l4),(ak 7 l4),(ak 8 l4),(ak 9 l4),(ak 10 l4),oJ] Ww)) (
 C 67 [(ak 6 l4),(.int .i64 8192)] FT fun qn s31=>
 fst 1 9 (ak 2 l4) qn s31 fun s32=>
 C 68 [(ak 6 l4)] s32 fun kF Nc=>
 us (fA .not kF Nc) fun tp=>
 aD tp (
 us (aP 11 (ak 2 l4) Nc) fun tn=>
 upon (aT 11 (ak 1 l4) tn Nc) fun _ Wv=>
 us (aP 11 (ak 1 l4) Wv) fun qZ=>Q (.tuple [qZ,(.bool false)]) Wv) (
 us (ai .add (none) true (ak 9 l4) (.int .i64 1) Nc) fun tm=>
 k9 [(ak 0 l4),(ak 1 l4),(ak 2 l4),(ak 3 l4),(ak 4 l4),(ak 5 l4),(ak 7 l4),(ak 8 l4),tm] Nc))) [(ak 0 v36),(ak 1 v36),(ak 2 v36),(ak 3 v36),(ak 4 v36),(ak 5 v36),(ak 6 v36),(ak 7 v36),(ak 8 v36),(ak 9 v36),(ak 10 v36),(ak 11 v36)] Nf) fun k37=>
 C 65 [cX,(.int .i64 5)] Ss fun qm s35=>
 k37 [(ak 0 v8),(ak 1 v8),(ak 2 v8),(ak 3 v8),(ak 4 v8),(ak 5 v8),cX,(ak 6 v8),(ak 7 v8),(ak 8 v8),qm,(.int .i64 0)] s35) (
 fl 0 cI cB fun me=>
 us (bO .str me cB) fun nJ=>
 us (ai .eql (some .int) true nJ (.int .i64 5) cB) fun mj=>
 eu (ag true mj) 0 cI cB fun qY=>
 us (aS (ag true mj) cB (jv qY (.int .i64 0) cB)) fun ve=>
 us (aS (ag true mj) cB (ai .eql (some .int) true ve (.int .u8 101) cB)) fun ru=>
 us (aK mj ru (.bool false) cB) fun wO=>
 aD wO (
 fl 1 cI cB fun kE=>
 upon (bQ (.bytesOf 5) kE cB) fun qX s36=>
 C 77 [qX] s36 fun vd Sr=>
 us (aB vd 0 Sr) fun wX=>
 us (aB vd 1 Sr) fun yV=>
 upon (dd 192 [(.int .i64 0),(.int .u8 0),(.str []), .aa] Sr) fun tl s38=>
 upon (aT 4 tl wX s38) fun _ L9=>
 us (ai .neq (some .int) true yV (.int .i64 0) L9) fun Ag=>
 aD Ag (
 us (aP 11 (ak 2 v8) L9) fun yU=>
 upon (aT 11 (ak 1 v8) yU L9) fun _ Wu=>
 us (aP 11 (ak 1 v8) Wu) fun CP=>Q (.tuple [CP,(.bool false)]) Wu) (
 cN (fun Ai s41=>
 cf (fun jV Gv k75=>
 us (ai .lss (none) false (ak 13 jV) (ak 12 jV) Gv) fun JC=>
 aD JC (
 idx 1 (ak 11 jV) (ak 13 jV) Gv fun Io=>
 us (ai .shl (none) true (ak 7 jV) (.int .u64 8) Gv) fun ML=>
 us (bQ (.toInt .i64) Io Gv) fun QR=>
 us (ai .or (none) false ML QR Gv) fun QQ=>
 us (ai .add (none) true (ak 13 jV) (.int .i64 1) Gv) fun QP=>
 k75 [(ak 0 jV),(ak 1 jV),(ak 2 jV),(ak 3 jV),(ak 4 jV),(ak 5 jV),(ak 6 jV),QQ,(ak 8 jV),(ak 9 jV),(ak 10 jV),(ak 11 jV),(ak 12 jV),QP] Gv) (
 us (aP 4 (ak 6 jV) Gv) fun QO=>
 upon (ef .int (ak 5 jV) (ak 7 jV) QO Gv) fun _ Bt=>
 eN 18 (ak 0 jV) Bt fun QN=>
 us (ai .eql (some .int) true QN (.int .i64 0) Bt) fun JB=>
 us (aS (ag false JB) Bt (.ok (ak 7 jV) Bt)) fun QM=>
 us (aS (ag false JB) Bt (.ok (ak 0 jV) Bt)) fun YR=>
 fB (ag false JB) 18 YR Bt fun YQ=>
 us (aS (ag false JB) Bt (ai .lss (none) false QM YQ Bt)) fun YP=>
 us (aK JB (.bool true) YP Bt) fun YO=>
 aD YO (
 kh 1 18 (ak 0 jV) (ak 7 jV) Bt fun Wt=>
 us (ai .add (none) true (ak 10 jV) (.int .i64 1) Wt) fun YN=>
 k9 [(ak 0 jV),(ak 1 jV),(ak 2 jV),(ak 3 jV),(ak 4 jV),(ak 5 jV),(ak 8 jV),(ak 9 jV),YN] Wt) (
 us (ai .add (none) true (ak 10 jV) (.int .i64 1) Bt) fun YM=>
 k9 [(ak 0 jV),(ak 1 jV),(ak 2 jV),(ak 3 jV),(ak 4 jV),(ak 5 jV),(ak 8 jV),(ak 9 jV),YM] Bt))) [(ak 0 Ai),(ak 1 Ai),(ak 2 Ai),(ak 3 Ai),(ak 4 Ai),(ak 5 Ai),(ak 6 Ai),(ak 7 Ai),(ak 8 Ai),(ak 9 Ai),(ak 10 Ai),(ak 11 Ai),(ak 12 Ai),(ak 13 Ai)] s41) fun k73=>
 fl 0 cI L9 fun YL=>
 us (fK YL (some (.int .i64 1)) none L9) fun YK=>
 upon (bQ (.bytesOf 5) YK L9) fun Wg Ws=>
 us (bO .slice Wg Ws) fun YJ=>
 k73 [(ak 0 v8),(ak 1 v8),(ak 2 v8),(ak 3 v8),(ak 4 v8),(ak 5 v8),tl,(.int .i64 0),(ak 6 v8),(ak 7 v8),(ak 8 v8),Wg,YJ,(.int .i64 0)] Ws)) (
 us (aP 11 (ak 2 v8) cB) fun YI=>
 upon (aT 11 (ak 1 v8) YI cB) fun _ Wr=>
 us (aP 11 (ak 1 v8) Wr) fun YH=>Q (.tuple [YH,(.bool false)]) Wr)))) (
 cN (fun L3 s47=>
 cf (fun lp JO SY=>
 us (ai .leq (none) false (ak 5 lp) (ak 2 lp) JO) fun Rh=>
 aD Rh (
 us (fO .int (.agg [(.int .i64 0),(.int .u8 0),(.str []), .aa]) true (ak 4 lp) (ak 5 lp) JO) fun MO=>
 us (aB MO 0 JO) fun Rg=>
 us (aB MO 1 JO) fun Rf=>
 upon (dd 192 [(.int .i64 0),(.int .u8 0),(.str []), .aa] JO) fun MN s49=>
 upon (aT 4 MN Rg s49) fun _ L8=>
 us (fA .not Rf L8) fun Re=>
 aD Re (
 us (aP 11 (ak 1 lp) L8) fun Rc=>
 upon (aT 11 (ak 0 lp) Rc L8) fun _ Wq=>
 us (aP 11 (ak 0 lp) Wq) fun Rb=>Q (.tuple [Rb,(.bool false)]) Wq) (
 fl 10 (ak 1 lp) L8 fun Ra=>
 us (aP 4 MN L8) fun Q0=>
 upon (bI 192 1 (cM 1 [(.int .i64 0),(.int .u8 0),(.str []), .aa]) [(0,4,Q0)] L8) fun QZ Wp=>
 upon (cy 192 4 56 Ra (dJ .slice 4 [(.int .i64 0),(.int .u8 0),(.str []), .aa] QZ Wp) Wp) fun QY s53=>
 fst 1 10 (ak 1 lp) QY s53 fun Wo=>
 us (ai .add (none) true (ak 5 lp) (.int .i64 1) Wo) fun QX=>
 SY [(ak 0 lp),(ak 1 lp),(ak 2 lp),(ak 3 lp),(ak 4 lp),QX] Wo)) (
 us (aP 11 (ak 1 lp) JO) fun QW=>
 upon (aT 11 (ak 0 lp) QW JO) fun _ Wn=>
 us (aP 11 (ak 0 lp) Wn) fun QV=>Q (.tuple [QV,(ak 3 lp)]) Wn)) [(ak 0 L3),(ak 1 L3),(ak 2 L3),(ak 3 L3),(ak 4 L3),(ak 5 L3)] s47) fun k99=>
 fl 6 (ak 2 v8) s7 fun QU=>
 us (ai .add (none) true QU (.int .i64 1) s7) fun QT=>
 k99 [(ak 1 v8),(ak 2 v8),(ak 3 v8),(ak 4 v8),(ak 5 v8),QT] s7)) [(ak 0 v6),(ak 1 v6),(ak 2 v6),(ak 3 v6),(ak 4 v6),(ak 5 v6),(ak 6 v6),(ak 7 v6),(ak 8 v6)] s6) fun k7=>
 us (bO .slice a1 s5) fun QS=>
 k7 [a0,x1,x3,(.int .i64 0),x5,x6,a1,QS,(.int .i64 0)] s5):=by kernel_rfl
theorem ZL (C:aN)(a0 a1:CV)(st:St)(Q:CV->St->Prop):aH P0 C (lvs 40) 40 [a0,a1] st Q=
 (C 78 [a1] st fun x1 s1=>
 us (aB x1 0 s1) fun x2=>
 us (aB x1 1 s1) fun x3=>
 cd (
 us (ai .eql (some .int) true x3 (.int .i64 0) s1) fun x4=>
 us (aS (ag true x4) s1 (.ok x2 s1)) fun x5=>
 cb (ag true x4) s1 (fun k=>C 22 [x5] s1 k) fun x6 s2=>
 us (aS (ag true x4) s2 (bO .slice x6 s2)) fun x7=>
 us (aS (ag true x4) s2 (.ok a0 s2)) fun x8=>
 us (aS (ag true x4) s2 (cz x8 s2)) fun x9=>
 us (aS (ag true x4) s2 (al 1 x9 s2)) fun cA=>
 us (aS (ag true x4) s2 (al 3 cA s2)) fun cF=>
 us (aS (ag true x4) s2 (aw cF s2)) fun cO=>
 us (aS (ag true x4) s2 (ai .eql (some .int) false x7 cO s2)) fun cI=>
 us (aK x4 cI (.bool false) s2) fun dq=>
 us (aS (ag true dq) s2 (.ok x2 s2)) fun dx=>
 cb (ag true dq) s2 (fun k=>C 79 [dx] s2 k) fun cX s3=>
 us (aS (ag true dq) s3 (.ok a0 s3)) fun dp=>
 us (aS (ag true dq) s3 (cz dp s3)) fun db=>
 us (aS (ag true dq) s3 (al 1 db s3)) fun dm=>
 us (aS (ag true dq) s3 (al 0 dm s3)) fun dB=>
 us (aS (ag true dq) s3 (aw dB s3)) fun dV=>
 us (aS (ag true dq) s3 (ai .eql (some .int) false cX dV s3)) fun dU=>
 us (aK dq dU (.bool false) s3) fun dQ=>
 (((us (aS (ag true x4) s1 (aw cF s1)) fun v=>v=cO)/\True)/\((us (aS (ag true dq) s2 (aw dB s2)) fun v=>v=dV)/\True)/\True)/\(True)/\
 Q (.tuple [x2,dQ]) s3)):=by kernel_rfl
theorem ZY (C:aN)(a0 a1 a2:CV)(st:St)(Q:CV->St->Prop):aH P0 C (lvs 24) 24 [a0,a1,a2] st Q=
 (upon (eO 23 a2 st) fun x1 s1=>
 us (ai .eql (some .ptr) true a0 .aC s1) fun x2=>
 aD x2 (
 Q (.tuple [.aC,(.int .i64 2)]) s1) (
 us (aP 13 x1 s1) fun x3=>
 C 37 [a1,x3] s1 fun x4 s2=>
 us (fA .not x4 s2) fun x5=>
 aD x5 (
 Q (.tuple [.aC,(.int .i64 1)]) s2) (
 C 38 [a0,(.int .i64 1),(.str []),(.str [])] s2 fun x6 s3=>
 us (aB x6 0 s3) fun x7=>
 us (aB x6 1 s3) fun x8=>
 us (ai .neq (some .int) true x8 (.int .i64 0) s3) fun x9=>
 aD x9 (
 Q (.tuple [.aC,x8]) s3) (
 us (aP 13 x1 s3) fun cA=>
 us (bf ([.aC]++List.replicate 14 (.int .i64 0)++[.aC, .aC,(.int .i64 0),(.int .i64 0),(.bool false)]) [(0,1,a0),(1,13,cA),(14,1,a1)] s3) fun cF=>
 upon (eO 112 cF s3) fun cO s4=>
 C 39 [cO,x7] s4 fun cI s5=>
 us (aB cI 0 s5) fun dq=>
 us (aB cI 1 s5) fun dx=>
 upon (dd 121 [(.int .i64 0),(.int .i64 0),(.int .i64 0),(.int .i64 0),(.int .i64 0),(.int .i64 0),(.int .i64 0),(.int .i64 0), .aa,(.str []), .aa] s5) fun cX s6=>
 upon (aT 11 cX dq s6) fun _ s7=>
 fl 9 cX s7 fun dp=>
 C 40 [cO,dp] s7 fun db s8=>
 us (aB db 0 s8) fun dm=>
 us (aB db 1 s8) fun dB=>
 us (fA .not dx s8) fun dV=>
 us (aS (ag false dV) s8 (.ok dB s8)) fun dU=>
 us (aS (ag false dV) s8 (fA .not dU s8)) fun dQ=>
 us (aK dV (.bool true) dQ s8) fun fp=>
 aD fp (
 Q (.tuple [.aC,(.int .i64 4)]) s8) (
 us (aP 11 cX s8) fun ew=>
 C 41 [ew] s8 fun fk s9=>
 us (aB fk 0 s9) fun fM=>
 us (aB fk 1 s9) fun fD=>
 us (ai .neq (some .int) true fD (.int .i64 0) s9) fun gq=>
 aD gq (
 Q (.tuple [.aC,(.int .i64 4)]) s9) (
 cd (
 us (al 6 cX s9) fun fE=>
 us (aw fE s9) fun gI=>
 us (cz cO s9) fun iu=>
 us (al 15 iu s9) fun gX=>
 upon (aT 1 gX fM s9) fun gz cw=>
 us (cz cO cw) fun iy=>
 us (al 16 iy cw) fun jc=>
 upon (aT 1 jc dm cw) fun iC cB=>
 us (cz cO cB) fun je=>
 us (al 17 je cB) fun kg=>
 upon (aT 1 kg gI cB) fun kG eJ=>
 (((us (aw fE cw) fun v=>v=gI)/\(us (aw fE cB) fun v=>v=gI)/\True)/\True)/\(True)/\
 Q (.tuple [cO,(.int .i64 0)]) eJ))))))):=by kernel_rfl
section
variable {st st' s:St} {a b κ k:Nat} {p:SetM} {id:Int}
abbrev zS:List CV:=[.int .i64 0, .int .i64 0, .int .i64 0, .int .i64 0, .int .i64 0, .int .i64 0, .int .i64 0, .int .i64 0, .aa, .str [], .aa]
def ck (p:SetM)(id:Int)(v:CV)(e:List UInt8):List CV:=[I id,I p.bH,I p.dI,I p.ja,I 0,I 0,I 0,I 0,v, .str e, .aa]
def fH (κ:Nat)(p:SetM)(id:Int)(m c:CV):List CV:= .ptr κ 0::(eL p++[I id,m,c,I 0,I 0, .bool false])
def cP (i:Nat):List CV:=(List.range i).map fun j=>I ((j+1:Nat):Int)
theorem dt (i:Nat):(cP i).length=i:=by unfold cP;simp
theorem Nx (hg:FL p)(hi:1<=id/\id<=p.bH):R 37 [I id, .agg (eL p)] st fun y s=>y= .bool true/\Kp [] st s:=by
 refine bp ?_;rw[ZO,br];refine⟨rfl, ?_⟩;rw[ba];generalize hs1:St.new st (.cells (eL p) 23 false)=s1;obtain⟨k1,g1,n1⟩:=da hs1
 have f:∀(o:Nat) (x:CV),(eL p)[o]?=some x->∀K:CV->Prop,K x->fl o (.ptr st.next 0) s1 K:=fun o x hx K hK=>by
  unfold fl;rw[af,ae,av,g1,ao,afZ,hx,au];exact hK
 have HH:∀(x y z:Int) s,bf [.int .i64 0, .int .i64 0, .int .i64 0] [(0,1,I x),(1,1,I y),(2,1,I z)] s= .ok (.agg [I x,I y,I z]) s:=fun x y z s=>rfl;rw[bP];refine f 0 _ rfl _ ?_;rw[show bf [.int .i64 0, .int .i64 0, .int .i64 0] [(0,1,I p.bH),(1,1, .int .i64 1),(2,1, .int .i64 5)] s1=_ from HH _ _ _ s1,ae];refine f 3 _ rfl _ ?_;rw[show bf [.int .i64 0, .int .i64 0, .int .i64 0] [(0,1,I p.dZ),(1,1, .int .i64 1),(2,1, .int .i64 4)] s1=_ from HH _ _ _ s1,ae];refine f 9 _ rfl _ ?_;rw[show bf [.int .i64 0, .int .i64 0, .int .i64 0] [(0,1,I p.dI),(1,1, .int .i64 1),(2,1, .int .i64 1000)] s1=_ from HH _ _ _ s1,ae];refine f 10 _ rfl _ ?_;rw[show bf [.int .i64 0, .int .i64 0, .int .i64 0] [(0,1,I p.ja),(1,1, .int .i64 1),(2,1, .int .i64 1000)] s1=_ from HH _ _ _ s1,ae];refine f 0 _ rfl _ ?_;rw[show bf [.int .i64 0, .int .i64 0, .int .i64 0] [(0,1,I id),(1,1, .int .i64 1),(2,1,I p.bH)] s1=_ from HH _ _ _ s1,ae];obtain⟨LL,Vn⟩:∃LL:List (Int×Int×Int),LL=[(p.bH,1,5),(p.dZ,1,4),(p.dI,1,1000),(p.ja,1,1000),(id,1,p.bH)]:=⟨_,rfl⟩
 have pw:∀x∈LL,x.2.1<=x.1/\x.1<=x.2.2:=by
  rw[Vn];simp only[age,agX,aic];obtain⟨h1,h2,h3,h4,h5,h6,h7⟩:=hg;rintro x (rfl|rfl|rfl|rfl|rfl)
  ·exact h1
  ·exact h2
  ·exact⟨by show(1:Int)<=p.dI;omega,h6.2⟩
  ·exact h7
  ·exact hi
 have hlen:LL.length=5:=by rw[Vn];rfl
 have Mx:bI 180 5 (cM 5 [.int .i64 0, .int .i64 0, .int .i64 0]) [(0,3, .agg [I p.bH,I 1,I 5]),(3,3, .agg [I p.dZ,I 1,I 4]),(6,3, .agg [I p.dI,I 1,I 1000]),(9,3, .agg [I p.ja,I 1,I 1000]),(12,3, .agg [I id,I 1,I p.bH])] s1= .ok (.slice s1.next 0 5 5 0) (St.new s1 (.cells (LL.map fun x=>[I x.1,I x.2.1,I x.2.2]).flatten 180 false)):=by
  rw[Vn];rfl
 rw[show bI 180 5 (cM 5 [.int .i64 0, .int .i64 0, .int .i64 0]) _ s1=_ from Mx,bj];generalize ya:St.new s1 (.cells (LL.map fun x=>[I x.1,I x.2.1,I x.2.2]).flatten 180 false)=s2;obtain⟨k2,g2,n2⟩:=da ya;have hw:∀x∈LL.map (fun x:Int×Int×Int=>[I x.1,I x.2.1,I x.2.2]),x.length=3:=fun x hx=>by obtain⟨_,_,rfl⟩:=agJ.1 hx;rfl
 have Mu:(LL.map fun x:Int×Int×Int=>[I x.1,I x.2.1,I x.2.2]).flatten.length=15:=by rw[fh hw,agM,hlen]
 have sl:Sl s2 [] (.slice s1.next 0 5 5 0) 3 (LL.map fun x=>[I x.1,I x.2.1,I x.2.2]).flatten:=
  .inr ⟨s1.next,0,5,5,0,rfl,Mu,⟨aga _, .inl rfl⟩, .inr ⟨by simp,by omega,_,_,_,g2,by rw[Mu];omega,by rw[agC,agk (by rw[Mu];omega)]⟩⟩
 rw[dE,ae];simp only[aI,aJ];refine bA (fun fu vs s=>∃i,fu+i=5/\vs=[.slice s1.next 0 5 5 0,I 5,I i]/\Kp [] s2 s) ?_ (n:=5) ⟨0,rfl,rfl,Kp.refl _ _⟩;rintro fu vs s K ⟨i,Qs,rfl,kk⟩ next;simp only[aI,aJ];have e5:ai .lss none false (I i) (I 5) s= .ok (.bool (decide (i<5))) s:=by rw[aA,bK];congr 2;simp only[ahf];omega
 rw[e5,ae,ah]
 by_cases hc:i<5
 ·rw[agi hc,agl rfl];refine(sl.mono kk).jh (by omega) hw (i:=i) (by rw[agM,hlen];exact hc) _ ?_;rw[ahG];generalize hx:LL[i]=x;have wj:=pw x (by rw[<-hx];exact agx _);obtain⟨u,l,h⟩:=x;refine mL rfl rfl rfl ?_;generalize sn:St.new s (.cells [I u,I l,I h] 180 false)=s7;obtain⟨k7,g7,n7⟩:=da sn;have ix0:cQ 3 1 (.ptr s.next 0) (.int .i64 0) s7= .ok (.ptr s.next 0) s7:=rfl;have ix1:cQ 3 1 (.ptr s.next 0) (.int .i64 1) s7= .ok (.ptr s.next 1) s7:=rfl;have ix2:cQ 3 1 (.ptr s.next 0) (.int .i64 2) s7= .ok (.ptr s.next 2) s7:=rfl;have e1:¬u<l:=by have:=wj.1;simp only at this;omega
  have e2:¬h<u:=by have:=wj.2;simp only at this;omega
  simp only[ix0,ix1,ix2,ae,av,g7,ao,afX,agb,au,aA,bK,cC,agc e1,agc e2,aE,afY,agn,agj,aM,aF,ah];rw[<-aA (d:=none) (c:=true),gW i (by omega),ae];exact next (fu-1) _ _ (by omega) ⟨i+1,by omega,rfl,kk.trans k7⟩
 ·rw[agc hc,agf (by decide)];exact⟨trivial,(k1.trans k2).trans kk⟩
end
section
variable {st st' s:St} {a b κ k:Nat} {p:SetM} {id:Int}
theorem Ed (κ:Nat)(p:SetM)(id:Int)(m c:CV):(fH κ p id m c)[1+0]?=some (I p.bH)/\(fH κ p id m c)[1+3]?=some (I p.dZ)/\(fH κ p id m c)[1+9]?=some (I p.dI)/\(fH κ p id m c)[1+10]?=some (I p.ja)/\(fH κ p id m c)[14]?=some (I id):=⟨rfl,rfl,rfl,rfl,rfl⟩
def FM (p:SetM)(id:Int)(a b:Nat)(st:St)(y:CV)(s:St):Prop:=∃v F,y= .agg (ck p id v (eM a b))/\Kp [] st s/\Own s v 1 3 (cP b) F/\∀q∈F,st.next<=q/\q<s.next
set_option maxHeartbeats 1000000 in
theorem HR (hk:st.mem.get k=some (.cells (fH κ p id .aC .aC) 112 false))(hlt:k<st.next)(ha:p.dZ=(a:Int))(hb:p.bH=(b:Int))(tf:1<=a/\a<=4)(ig:1<=b/\b<=5):R 76 [.ptr k 0] st (FM p id a b st):=by
 refine bp ?_;rw[Ze,cn,bj];generalize hs1:St.new st (.cells _ 121 false)=s1;obtain⟨k1,g1,n1⟩:=da hs1;have mg:=(k1.keep k hlt (by simp)).trans hk;obtain⟨q0,q3,q9,SA,Sz⟩:=Ed κ p id .aC .aC;rw[bG];simp only[aV,ae,af,av,mg,ao,afZ,q0,q3,au,ha,hb];refine(DX tf ig).mono ?_;rintro _ s2 ⟨c,pp,d,rfl,k2,hC,hc,hp,hd⟩;have n2:=k2.next;have g2:=(k2.keep st.next (by omega) (by simp)).trans g1;rw[ay,ae,aL,ay,ae];refine⟨⟨trivial,trivial,trivial⟩,trivial, ?_⟩;rw[bG];generalize Em:St.new s2 (.cells _ 121 false)=s3;obtain⟨k3,g3,n3⟩:=da Em;have wt:=(((k1.trans k2).trans k3).keep k hlt (by simp)).trans hk;have hC3:=hC.keep k3 (by simp);simp only[aV,ae,af,av,wt,ao,afZ,q0,q3,q9,SA,Sz,au];refine(Lx hC3 tf ig).mono ?_;rintro _ s4 ⟨rfl,k4⟩;have n4:=k4.next;have g4:=(k4.keep s2.next (by omega) (by simp)).trans g3;have uQ:=(k4.keep k (by omega) (by simp)).trans wt;have kx:bf zS [(0,1,I id),(1,1,I p.bH),(2,1,I p.dI),(3,1,I p.ja),(9,1, .str (eM a b))] s4= .ok (.agg (ck p id .aa (eM a b))) s4:=rfl;have eo:bB zS 0 (ck p id .aa (eM a b))=ck p id .aa (eM a b):=cW _ _ rfl;rw[show bf _ [(0,1,I id),(1,1,I p.bH),(2,1,I p.dI),(3,1,I p.ja),(9,1, .str (eM a b))] s4=_ from kx,ae,jz g4,bj,aQ,g4,bg,ba];refine⟨⟨rfl,rfl,aga _⟩, ?_⟩;rw[show bB _ 0 (ck p id .aa (eM a b))=_ from eo];generalize Hs:St.set s4 s2.next (.cells (ck p id .aa (eM a b)) 121 false)=s5;have g5:s5.mem.get s2.next=some (.cells (ck p id .aa (eM a b)) 121 false):=by rw[<-Hs];exact az _ _ _
 have K4:Kp [] st s4:=((k1.trans k2).trans k3).trans k4;have K5:Kp [] st s5:=by rw[<-Hs];exact K4.set _ (.inr (by omega)) (by omega)
 have n5:s5.next=s4.next:=by rw[<-Hs];rfl
 have g5':s5.mem.get st.next=some (.cells zS 121 false):=by
  rw[<-Hs];exact(aq _ _ _ _ (by omega)).trans (((k4.keep st.next (by omega) (by simp)).trans (k3.keep st.next (by omega) (by simp))).trans g2)
 have CI:=(K5.keep k hlt (by simp)).trans hk;simp only[jz g3,bj,af,av,wt,uQ,ao,afZ,q0,q3,q9,SA,Sz,au];refine⟨⟨⟨trivial,trivial⟩,⟨trivial,trivial⟩,⟨trivial,trivial⟩,⟨trivial,trivial⟩,⟨trivial,trivial⟩,trivial⟩,trivial, ?_⟩;rw[bP];unfold yn;simp only[aV,ae,af,av,CI,ao,afZ,q0,au,hb,aI,aJ];refine bA (fun fu vs s=>∃i v F,fu+i=b/\vs=[.ptr st.next 0, .ptr s2.next 0,I b,I i]/\Kp [] st s/\s5.next<=s.next/\s.mem.get s2.next=some (.cells (ck p id v (eM a b)) 121 false)/\s.mem.get st.next=some (.cells zS 121 false)/\Own s v 1 3 (cP i) F/\∀q∈F,s5.next<=q/\q<s.next) ?_ (n:=b) ⟨0, .aa,[],rfl,rfl,K5,aga _,g5,g5', .inl ⟨rfl,rfl,rfl⟩,by simp⟩;rintro fu vs s K ⟨i,v,F,hi,rfl,kk,hn,gS,gZ,own,hF⟩ next;simp only[aI,aJ];rw[de,ae,ah]
 by_cases hc:i<b
 ·rw[agi hc,agl rfl]
  have f8:∀K:CV->Prop,K v->fl 8 (.ptr s2.next 0) s K:=fun K hK=>by
   unfold fl;rw[af,ae,av,gS,ao];exact hK
  refine f8 _ ?_;rw[gW i (by omega),ae];refine LK 8 own (by omega) (fun q hq=>(hF q hq).2) rfl rfl rfl rfl (by rw[dt];omega) ?_;intro v' s6 F' zI k6 oz;have h1:s2.next∉F:=fun h=>by have:=hF _ h;omega
  have h2:st.next∉F:=fun h=>by have:=hF _ h;omega
  have gS6:=(k6.keep s2.next (by omega) h1).trans gS;have gZ6:=(k6.keep st.next (by omega) h2).trans gZ;have n6:=k6.next;unfold fst;rw[af,ae,aQ,gS6,bg]
  obtain⟨o1,z1⟩:bW v'=true/\v'.bL=[v']:=by
   rcases zI with⟨rfl,_⟩|⟨b,l,t,g,rfl,_⟩|⟨b,n,rfl,_⟩<;>exact⟨rfl,rfl⟩
  rw[z1];refine⟨⟨rfl,by simp[bu,o1],by show 0+8+1<=11;omega⟩, ?_⟩;have eo:bB (ck p id v (eM a b)) (0+8) [v']=ck p id v' (eM a b):=rfl;rw[eo];generalize sn:St.set s6 s2.next (.cells (ck p id v' (eM a b)) 121 false)=s7;have g7:s7.mem.get s2.next=some (.cells (ck p id v' (eM a b)) 121 false):=by rw[<-sn];exact az _ _ _
  have g7':s7.mem.get st.next=some (.cells zS 121 false):=by rw[<-sn];exact(aq _ _ _ _ (by omega)).trans gZ6
  have Oq:∀q∈F',s5.next<=q/\q<s6.next:=fun q hq=>by
   obtain⟨h3,h4⟩:=oz q hq;rcases h3 with h3|h3
   ·exact⟨(hF q h3).1,h4⟩
   ·exact⟨by omega,h4⟩
  have JT:Own s7 v' 1 3 (cP (i+1)) F':=by
   have e:cP i++(I ((i+1:Nat):Int)).bL=cP (i+1):=by unfold cP;rw[List.range_succ,ahp];rfl
   rw[e]at zI;rw[<-sn];exact zI.mono fun q hq=>aq _ _ _ _ (by have:=Oq q hq;omega)
  have K7:Kp [] st s7:=by
   rw[<-sn];exact(kk.trans k6 fun q hq=> .inr (by have:=hF q hq;omega)).set _ (.inr (by omega)) (by omega)
  have n7:s7.next=s6.next:=by rw[<-sn];rfl
  show us _ _;rw[gW i (by omega),ae];exact next (fu-1) _ _ (by omega) ⟨i+1,v',F',by omega,rfl,K7,by omega,g7,g7',JT,fun q hq=>by have:=Oq q hq;omega⟩
 ·rw[agc hc,agf (by decide),aR (n:=11) gS rfl,ae,aQ,gZ,bg,ba];obtain rfl:i=b:=by omega
  obtain⟨o1,z1⟩:bW v=true/\v.bL=[v]:=by
   rcases own with⟨rfl,_⟩|⟨b,l,t,g,rfl,_⟩|⟨b,n,rfl,_⟩<;>exact⟨rfl,rfl⟩
  refine⟨⟨rfl,by unfold ck;simp only[bu,List.all_cons,List.all_nil,o1];rfl,aga _⟩, ?_⟩;have eo:bB zS 0 (ck p id v (eM a i))=ck p id v (eM a i):=cW _ _ rfl;rw[eo];generalize sn:St.set s st.next (.cells (ck p id v (eM a i)) 121 false)=s7;have g7:s7.mem.get st.next=some (.cells (ck p id v (eM a i)) 121 false):=by rw[<-sn];exact az _ _ _
  rw[aR (n:=11) g7 rfl,ae];refine⟨v,F,rfl, ?_, ?_,fun q hq=> ?_⟩
  ·rw[<-sn];exact kk.set _ (.inr (aga _)) (by omega)
  ·rw[<-sn];exact own.mono fun q hq=>aq _ _ _ _ (by have:=hF q hq;omega)
  ·have e:s7.next=s.next:=by rw[<-sn];rfl
   have:=hF q hq;omega
end
section
variable {st st' s:St} {a b κ k:Nat} {p:SetM} {id:Int} {l:CV}
theorem Own.cv {v:CV}{k e:Nat}{L:List CV}{F:List Nat}(h:Own st v k e L F):Lim.bW v=true/\v.bL=[v]:=by
 rcases h with⟨rfl,_⟩|⟨b,l,t,g,rfl,_⟩|⟨b,n,rfl,_⟩<;>exact⟨rfl,rfl⟩
theorem ph {body:List CV->St->(List CV->St->Prop)->Prop}{vs:List CV}{s:St}(h:body vs s (uI body 0)):cf body vs s:=⟨1,h⟩
theorem nY {v:CV}{e:List UInt8}(h:bW v=true):bu (ck p id v e)=true:=by
 unfold ck;simp only[bu,List.all_cons,List.all_nil,h];rfl
theorem J8 (hk:st.mem.get k=some (.cells (fH κ p id .aC .aC) 112 false))(hlt:k<st.next)(ha:p.dZ=(a:Int))(hb:p.bH=(b:Int))(tf:1<=a/\a<=4)(ig:1<=b/\b<=5)(hl:Sl st [] l 2 []):
 R 39 [.ptr k 0,l] st fun y s=>∃v F,y= .tuple [.agg (ck p id v (eM a b)), .bool true]/\Kp [] st s/\Own s v 1 3 (cP b) F/\∀q∈F,st.next<=q/\q<s.next:=by
 refine bp ?_;rw[ZM,cn,bj];generalize hs1:St.new st (.cells _ 121 false)=s1;obtain⟨k1,g1,n1⟩:=da hs1;have mg:=(k1.keep k hlt (by simp)).trans hk;refine(HR mg (by omega) ha hb tf ig).mono ?_;rintro _ s2 ⟨v,F,rfl,k2,own,hF⟩;obtain⟨o1,z1⟩:=own.cv;refine mL rfl rfl (nY o1) ?_;generalize Em:St.new s2 (.cells (ck p id v (eM a b)) 121 false)=s3;obtain⟨k3,g3,n3⟩:=da Em;have len:∀s,bO .slice l s= .ok (I ((0:Nat):Int)) s:=fun s=>hl.len 0 rfl (by omega) s;have e0:∀s,ai .eql (some .int) true (I ((0:Nat):Int)) (.int .i64 0) s= .ok (.bool true) s:=fun s=>rfl;rw[len,ae,e0,ae,ft,bj];generalize N6:St.new s3 (.map [] 0)=s4;obtain⟨k4,g4,n4⟩:=da N6;have n2:=k2.next;have Jk:=(k4.keep s2.next (by omega) (by simp)).trans g3;have Lv:=(((k2.trans k3).trans k4).keep st.next (by omega) (by simp)).trans g1;rw[bP,len,ae];simp only[aI,aJ];refine ph ?_;have e1:ai .lss none false (.int .i64 0) (I ((0:Nat):Int)) s4= .ok (.bool false) s4:=rfl;simp only[aI,aJ];rw[e1,ae,ah,agf (by decide),bP]
 have f6:∀K:CV->Prop,K (I 0)->fl 6 (.ptr s2.next 0) s4 K:=fun K hK=>by
  unfold fl;rw[af,ae,av,Jk,ao];exact hK
 refine f6 _ ?_;rw[show ai .add none true (I 0) (.int .i64 1) s4= .ok (I 1) s4 from rfl,ae];refine ph ?_;simp only[aI,aJ];have e2:ai .leq none false (I 1) (.int .i64 0) s4= .ok (.bool false) s4:=rfl;rw[e2,ae,ah,agf (by decide),aR (n:=11) Jk rfl,ae,aQ,Lv,bg,ba];refine⟨⟨rfl,nY o1,aga _⟩, ?_⟩;have eo:bB zS 0 (ck p id v (eM a b))=ck p id v (eM a b):=cW _ _ rfl;rw[show bB _ 0 (ck p id v (eM a b))=_ from eo];generalize sn:St.set s4 st.next (.cells (ck p id v (eM a b)) 121 false)=s7;have g7:s7.mem.get st.next=some (.cells (ck p id v (eM a b)) 121 false):=by rw[<-sn];exact az _ _ _
 rw[aR (n:=11) g7 rfl,ae];have K4:Kp [] st s4:=((k1.trans k2).trans k3).trans k4;have e:s7.next=s4.next:=by rw[<-sn];rfl
 refine⟨v,F,rfl, ?_, ?_,fun q hq=> ?_⟩
 ·rw[<-sn];exact K4.set _ (.inr (aga _)) (by omega)
 ·rw[<-sn];exact(own.mono fun q hq=>(k4.keep q (by have:=hF q hq;omega) (by simp)).trans (k3.keep q (by have:=hF q hq;omega) (by simp))).mono fun q hq=>aq _ _ _ _ (by have:=hF q hq;omega)
 ·have:=hF q hq;omega
theorem LC (hk:st.mem.get k=some (.cells (fH κ p id .aC .aC) 112 false))(hlt:k<st.next)(ha:p.dZ=(a:Int))(hb:p.bH=(b:Int))(tf:1<=a/\a<=4)(ig:1<=b/\b<=5):
 R 40 [.ptr k 0, .str (eM a b)] st fun y s=>∃c pp d,y= .tuple [.ptr c 0, .bool true]/\Kp [] st s/\gN s c pp d a b/\st.next<=c/\st.next<=pp/\st.next<=d:=by
 refine bp ?_;rw[ZL];refine(Pq tf ig).mono ?_;rintro _ s1 ⟨c,pp,d,rfl,k1,hC,hc,hp,hd⟩;have n1:=k1.next;obtain⟨q0,q3,q9,SA,Sz⟩:=Ed κ p id .aC .aC;have mg:=(k1.keep k hlt (by simp)).trans hk;have e0:∀s,ai .eql (some .int) true (I 0) (.int .i64 0) s= .ok (.bool true) s:=fun s=>rfl;have ei:∀(x:Int) s,ai .eql (some .int) false (I x) (I x) s= .ok (.bool true) s:=fun x s=>by rw[aA,eT,agi rfl]
 rw[ay,ae,aL,ay,ae,bG,e0,ae];simp only[aE,ags,aM,ae,bF];refine(xA hC.Sm (by omega)).mono ?_;rintro x6 s2 ⟨k2,sl⟩;have hk2:=(k2.keep k (by omega) (by simp)).trans mg;have n2:=k2.next;rw[sl.len a (by rw[agr];omega) (by omega),ae];simp only[ae,aV,af,av,hk2,ao,afZ,q3,au,ha,ei,aF,ags,aE,aM,bF];refine(Da (hC.Sm.still k2) (by omega)).mono ?_;rintro _ s3 ⟨rfl,rfl⟩;simp only[ae,aV,af,av,mg,hk2,ao,afZ,q0,q3,au,hb,ha,ei,aF,ags];refine⟨⟨⟨trivial,trivial⟩,⟨trivial,trivial⟩,trivial⟩,trivial, ?_⟩;exact⟨c,pp,d,rfl,k1.trans k2,hC.keep k2 (by simp),hc,hp,hd⟩
end
section
variable {st st' s:St} {a b n:Nat} {X:List Nat} {v w:CV} {L:List CV}
theorem Sl.at1 (h:Sl st X v 1 L){i:Nat}(hi:i<L.length):∃b q l t g,(∀s,cm 1 v (I i) s= .ok (.ptr b q) s)/\st.mem.get b=some (.cells l t g)/\l[q]?=some L[i]:=by
 rcases h with⟨_,rfl⟩|⟨b,off,len,cap,grow,rfl,h2,h3,h4⟩
 ·simp at hi
 ·rcases h4 with h4|⟨_,h5,l,t,g,h6,h7,h8⟩
  ·omega
  ·refine⟨b,off+i*1,l,t,g,fun s=>du (by omega) (.inr h3.1) s,h6, ?_⟩;have e:L[i]?=some L[i]:=agh hi;rw[<-e,<-h8,ahn,agl (by omega),ahS,ahJ]
theorem ry {i:Nat}(h:i<(cP n).length):(cP n)[i]=I ((i+1:Nat):Int):=by
 show((List.range n).map fun j=>I ((j+1:Nat):Int))[i]'(by simpa[dt]using h)=_;rw[ahG,List.getElem_range]
theorem qq (n:Nat):bu (cP n)=true:=by
 unfold cP;simp only[bu,List.all_eq_true,agJ];rintro x ⟨j,_,rfl⟩
 rfl
theorem Sl.wY (h:Sl st X v 1 (cP n)){i:Nat}(hi:i<n):∃b q l t g,(∀s,cm 1 v (I i) s= .ok (.ptr b q) s)/\st.mem.get b=some (.cells l t g)/\l[q]?=some (I ((i+1:Nat):Int)):=by
 have:=h.at1 (i:=i) (by rw[dt];exact hi)
 rwa [ry]at this
theorem JZ (x:Int)(st:St):R 151 [I x] st fun y s=>y= .bool false/\s=st:=by
 refine bp ?_;rw[RL];have e:ai .neq (some .int) false (I x) (I x) st= .ok (.bool false) st:=by rw[aA,eR,agi rfl];rfl
 simp only[e,ae];exact⟨trivial,trivial⟩
theorem He (x y:Int)(st:St):R 190 [I x,I y] st fun z s=>z= .bool (decide (x<y))/\s=st:=by
 refine bp ?_;rw[Ru];refine(JZ x st).same ?_;simp only[aE,afY,ags,agn,bT,ae,kc,aF,agj,aM,aA,bK];exact⟨trivial,trivial⟩
theorem Km (h:Sl st X v 1 (cP n))(hn:n<=1000):R 184 [v,I 0,I n] st fun y s=>s=st:=by
 refine bp ?_;rw[Rv,bP,show ai .add none true (I 0) (.int .i64 1) st= .ok (I ((1:Nat):Int)) st from rfl,ae];simp only[aI,aJ];refine bA (fun fu vs s=>∃i:Nat,fu+i=n+1/\1<=i/\vs=[v,I 0,I n,I i]/\s=st) ?_ (n:=n) ⟨1,rfl,aga _,rfl,rfl⟩;rintro fu vs s K ⟨i,hi,h1,rfl,rfl⟩ next;simp only[aI,aJ];rw[de,ae,ah]
 by_cases hc:i<n
 ·rw[agi hc,agl rfl,bP];refine ph ?_;simp only[aI,aJ];rw[bG];obtain⟨b1,q1,l1,t1,g1,p1,m1,c1⟩:=h.wY hc;obtain⟨b2,q2,l2,t2,g2,p2,m2,c2⟩:=h.wY (i:=i-1) (by omega);have eg:ai .gtr none false (I i) (I 0) s= .ok (.bool true) s:=by rw[aA,cC,agi (by omega)]
  simp only[eg,ae,aE,ags,aM,p1,av,m1,ao,c1,au,Bn i (by omega) (by omega),p2,m2,c2,bF];refine(He _ _ s).same ?_;rw[agc (by omega),aF,agl rfl,ae];refine⟨⟨trivial,trivial,trivial⟩,trivial, ?_⟩;rw[ah,agf (by decide),gW i (by omega),ae];exact next (fu-1) _ _ (by omega) ⟨i+1,by omega,by omega,rfl,rfl⟩
 ·rw[agc hc,agf (by decide)];trivial
theorem Ka (hn:n<=5):R 149 [.int .u64 n] st fun y s=>∃k,y=I k/\s=st:=by
 refine bp ?_;rw[RM,ah,agf (by decide)];refine bp ?_;rw[RB];have h:n=0\/n=1\/n=2\/n=3\/n=4\/n=5:=by omega
 rcases h with rfl|rfl|rfl|rfl|rfl|rfl<;>exact⟨_,rfl,rfl⟩
theorem JS (h:Sl st X v 1 (cP n))(hn:n<=5)(k:Int):R 168 [v,I 0,I n,I k] st fun y s=>s=st:=by
 refine bp ?_;rw[RC,bP];refine ph ?_;simp only[aI,aJ];have e:ai .sub none false (I n) (I 0) st= .ok (I n) st:=by rw[aA,fF,bN (by omega),Int.sub_zero]
 have e2:ai .leq none true (I n) (.int .i64 12) st= .ok (.bool true) st:=by rw[aA,il,agi (by omega)]
 rw[e,ae,e2,ae,ah,agl rfl];exact(Km h (by omega)).mono fun _ _ h=>h
theorem Gn (h:Sl st X v 1 (cP n))(hn:n<=5):R 142 [v] st fun y s=>s=st:=by
 refine bp ?_;rw[RQ,h.len n (by rw[dt];omega) (by omega),ae]
 have e:bQ (.toInt .u64) (I n) st= .ok (.int .u64 n) st:=by
  show OR.ok (.int .u64 (IntKind.u64.wrap n)) st=_;rw[lj n (by omega)]
 rw[e,ae];refine(Ka hn).mono ?_;rintro _ s1 ⟨k,rfl,rfl⟩;exact(JS h hn k).mono fun _ _ h=>h
theorem HY (h:Sl st X v 1 (cP n))(hn:n<=5):R 157 [v] st fun y s=>y=v/\s=st:=by
 refine bp ?_;have len:=h.len n (by rw[dt];omega) (by omega);have e2:ai .lss none true (I n) (.int .i64 2) st= .ok (.bool (decide (n<2))) st:=by rw[aA,bK];congr 2;simp only[ahf];omega
 rw[RG,len,ae,e2,ae,ah]
 by_cases h2:n<2
 ·rw[agi h2,agl rfl];exact⟨by first|rfl|trivial,by first|rfl|trivial⟩
 ·rw[agc h2,agf (by decide),bP];simp only[aI,aJ];refine bA (fun fu vs s=>∃i:Nat,fu+i=n+1/\1<=i/\vs=[v,I i]/\s=st) ?_ (n:=n) ⟨1,rfl,aga _,rfl,rfl⟩;rintro fu vs s K ⟨i,hi,h1,rfl,rfl⟩ next;simp only[aI,aJ];rw[len,ae,de,ae,ah]
  by_cases hc:i<n
  ·rw[agi hc,agl rfl,bG];obtain⟨b1,q1,l1,t1,g1,p1,m1,c1⟩:=h.wY hc;obtain⟨b2,q2,l2,t2,g2,p2,m2,c2⟩:=h.wY (i:=i-1) (by omega);have ee:ai .eql (some .int) false (I ((i+1:Nat):Int)) (I ((i-1+1:Nat):Int)) s= .ok (.bool false) s:=by rw[aA,eT,agc (by omega)]
   simp only[ae,p1,av,m1,ao,c1,au,Bn i (by omega) (by omega),p2,m2,c2,ee];refine⟨⟨trivial,trivial,trivial⟩,trivial, ?_⟩;rw[ah,agf (by decide),gW i (by omega),ae];exact next (fu-1) _ _ (by omega) ⟨i+1,by omega,by omega,rfl,rfl⟩
  ·rw[agc hc,agf (by decide)];exact⟨by first|rfl|trivial,by first|rfl|trivial⟩
theorem Bd (h:Sl st X v 1 L)(ho:bu L=true)(hl:L.length<=1000):R 80 [v] st (mZ 1 3 v L st):=by
 refine bp ?_;rw[Zb];exact wD 8 h (by omega) ho (by omega)
theorem Bj (h:Sl st X v 1 (cP n))(hn:n<=5):R 123 [v] st fun y s=>Kp [] st s/\Sl s [] y 1 (cP n):=by
 refine bp ?_;rw[R2];refine(Bd h (qq n) (by rw[dt];omega)).mono ?_;intro x s1 m;have m':=m.made;obtain⟨_,k,_⟩:=m;have sl:=m'.sl [] (by simp);refine(Gn sl hn).mono ?_;rintro _ s2 rfl;refine(HY sl hn).mono ?_;rintro _ s3 ⟨rfl,rfl⟩;exact⟨k,sl⟩
theorem E4 (h:Sl st X v 1 (cP n))(h':Sl st X w 1 (cP n))(hn:n<=1000):R 122 [v,w] st fun y s=>y= .bool true/\s=st:=by
 refine bp ?_;have len:=h.len n (by rw[dt];omega) (by omega);have Kc:=h'.len n (by rw[dt];omega) (by omega);have e:∀x s,ai .neq (some .int) false (I x) (I x) s= .ok (.bool false) s:=fun x s=>by rw[aA,eR,agi rfl];rfl
 rw[R3,len,ae,Kc,ae,e,ae,ah,agf (by decide),bP,ae];simp only[aI,aJ];refine bA (fun fu vs s=>∃i:Nat,fu+i=n/\vs=[v,w,I n,I i]/\s=st) ?_ (n:=n) ⟨0,rfl,rfl,rfl⟩;rintro fu vs s K ⟨i,hi,rfl,rfl⟩ next;simp only[aI,aJ];rw[de,ae,ah]
 by_cases hc:i<n
 ·rw[agi hc,agl rfl,bG];obtain⟨b1,q1,l1,t1,g1,p1,m1,c1⟩:=h.wY hc;obtain⟨b2,q2,l2,t2,g2,p2,m2,c2⟩:=h'.wY hc;simp only[ae,p1,av,m1,ao,c1,au,p2,m2,c2,e];refine⟨⟨trivial,trivial,trivial⟩,trivial, ?_⟩;rw[ah,agf (by decide),gW i (by omega),ae];exact next (fu-1) _ _ (by omega) ⟨i+1,by omega,rfl,rfl⟩
 ·rw[agc hc,agf (by decide)];exact⟨trivial,by first|rfl|trivial⟩
end
section
variable {st st' s:St} {a b n:Nat} {X:List Nat} {v w:CV} {L:List CV} {p:SetM} {id:Int}
theorem H7 (h:Sl st X v 1 (cP n))(hn:1<=n/\n<=5):R 82 [v] st fun y s=>y= .bool true/\Kp [] st s:=by
 refine bp ?_;have len:=h.len n (by rw[dt];omega) (by omega);have e1:ai .gtr none true (I n) (.int .i64 0) st= .ok (.bool true) st:=by rw[aA,cC,agi (by omega)]
 rw[Y9,len,ae,e1,ae];simp only[aE,ags,aM,ae,bF];refine(Bj h hn.2).mono ?_;rintro y s1 ⟨k1,Cw⟩;have h1:=(h.oE (Y:=[]) (by simp)).mono k1;refine(E4 h1 Cw (by omega)).same ?_;obtain⟨b1,q1,l1,t1,g1,p1,m1,c1⟩:=h1.wY (i:=0) (by omega);obtain⟨b2,q2,l2,t2,g2,p2,m2,c2⟩:=h1.wY (i:=n-1) (by omega);have e3:ai .geq none true (I ((0+1:Nat):Int)) (.int .i64 1) s1= .ok (.bool true) s1:=by rw[aA,gJ,agi (by omega)]
 have e4:ai .leq none true (I ((n-1+1:Nat):Int)) (.int .i64 5) s1= .ok (.bool true) s1:=by rw[aA,il,agi (by omega)]
 have Kb:=h1.len n (by rw[dt];omega) (by omega) s1;unfold sm;have SE:cm 1 v (.int .i64 0) s1= .ok (.ptr b1 q1) s1:=p1 s1;simp only[aF,ags,ae,aE,aM,SE,av,m1,ao,c1,au,e3,Kb,Bn n (by omega) (by omega),p2,m2,c2,e4];exact⟨trivial,k1⟩
theorem Hi {m:Nat}{l:List CV}{t:TypeId}{g:Bool}(hm:st.mem.get m=some (.cells l t g))(hlt:m<st.next)(hl:l[1]?=some (I n))(h:Sl st X v 1 (cP n))(hn:n<=1000):R 83 [.ptr m 0,v] st fun y s=>y= .bool true/\Kp [] st s:=by
 refine bp ?_;rw[Y8,br];refine⟨rfl, ?_⟩;generalize hs1:St.new st (.cells (CV.ptr m 0).bL 110 false)=s1;obtain⟨k1,g1,n1⟩:=da hs1;have sq:=(k1.keep m hlt (by simp)).trans hm;have h1:=(h.oE (Y:=[]) (by simp)).mono k1;have MG:s1.mem.get st.next=some (.cells [.ptr m 0] 110 false):=g1;show R 124 _ _ _;refine bp ?_;rw[MR]
 have key:R 158 [v, .func (.func 125) [] [.ptr st.next 0]] s1 fun y s=>y= .int .i64 (-1)/\s=s1:=by
  refine bp ?_;have len:=h1.len n (by rw[dt];omega) (by omega);rw[MQ,bP,len,ae];simp only[aI,aJ];refine bA (fun fu vs s=>∃i:Nat,fu+i=n/\vs=[v, .func (.func 125) [] [.ptr st.next 0],I n,I i]/\s=s1) ?_ (n:=n) ⟨0,rfl,rfl,rfl⟩;rintro fu vs s K ⟨i,hi,rfl,rfl⟩ next;simp only[aI,aJ];rw[de,ae,ah]
  by_cases hc:i<n
  ·rw[agi hc,agl rfl];refine h1.idx (i:=i) (by rw[dt];exact hc) _ ?_;rw[ry];show R 125 [I ((i+1:Nat):Int), .ptr st.next 0] _ _;refine bp ?_;rw[R1];unfold eN;have eg:ai .gtr none false (I ((i+1:Nat):Int)) (I n) s= .ok (.bool false) s:=by rw[aA,cC,agc (by omega)]
   simp only[av,MG,ao,afX,au,aV,ae,af,sq,afZ,hl,eg];rw[ah,agf (by decide),gW i (by omega),ae];exact next (fu-1) _ _ (by omega) ⟨i+1,by omega,rfl,rfl⟩
  ·rw[agc hc,agf (by decide)];exact⟨by first|rfl|trivial,by first|rfl|trivial⟩
 refine key.same ?_;have e:ai .geq none true (.int .i64 (-1)) (.int .i64 0) s1= .ok (.bool false) s1:=rfl;rw[e,ae,bt,ae];exact⟨rfl,k1⟩
theorem AB (f:CV)(st:St):R 126 [.aa,f] st fun y s=>y= .bool false/\s=st:=by
 refine bp ?_;rw[R0]
 have key:R 159 [.aa,f] st fun y s=>y= .int .i64 (-1)/\s=st:=by
  refine bp ?_;rw[RE,bP,show bO .slice .aa st= .ok (I 0) st from rfl,ae];simp only[aI,aJ];refine ph ?_;simp only[aI,aJ];have e:ai .lss none false (.int .i64 0) (I 0) st= .ok (.bool false) st:=rfl;rw[e,ae,ah,agf (by decide)];exact⟨by first|rfl|trivial,by first|rfl|trivial⟩
 refine key.same ?_;have e:ai .geq none true (.int .i64 (-1)) (.int .i64 0) st= .ok (.bool false) st:=rfl;rw[e,ae];exact⟨rfl,rfl⟩
theorem Hh (m:Nat)(st:St):R 84 [.ptr m 0, .aa] st fun y s=>y= .bool true/\Kp [] st s:=by
 refine bp ?_;rw[Y7,br];refine⟨rfl, ?_⟩;generalize hs1:St.new st (.cells (CV.ptr m 0).bL 110 false)=s1;obtain⟨k1,g1,n1⟩:=da hs1;show R 126 _ _ _;refine(AB _ s1).same ?_;rw[bt,ae];exact⟨rfl,k1⟩
theorem yZ (x y z:Int)(st:St):R 81 [I x,I y,I z] st fun r s=>r= .bool (nG x y z)/\s=st:=by
 refine bp ?_;rw[Za];unfold nG
 by_cases h:y<=x
 ·simp only[aA,gJ,ae,agi h,aE,ags,aM,il,aF,Bool.true_and];exact⟨trivial,trivial⟩
 ·simp only[aA,gJ,ae,agc h,aE,ags,bT,aF,Bool.false_and,afY,agn];exact⟨trivial,trivial⟩
theorem yx (st:St):R 128 [I 0] st fun y s=>y= .bool true/\s=st:=by
 refine bp ?_;rw[RZ];exact⟨rfl,rfl⟩
theorem J4 (st:St):R 129 [I 0, .aa] st fun y s=>y= .bool true/\Kp [] st s:=by
 refine bp ?_;rw[RY,br];refine⟨rfl, ?_⟩;generalize hs1:St.new st (.cells (I 0).bL 3 false)=s1;obtain⟨k1,g1,n1⟩:=da hs1;show R 126 _ _ _;refine(AB _ s1).same ?_;rw[bt,ae];exact⟨rfl,k1⟩
theorem CZ (st:St):R 130 [.aa] st fun y s=>Kp [] st s/\(∀s',bO .slice y s'= .ok (I 0) s')/\Lim.bW y=true/\y.bL=[y]/\y.isAny=false:=by
 refine bp ?_;have e1:bO .slice .aa st= .ok (I 0) st:=rfl;have e2:jD 192 56 [.int .i64 0, .int .u8 0, .str [], .aa] (I 0) (I 0) st= .ok (.slice st.next 0 0 0 0) (St.new st (.cells [] 192 false)):=rfl;rw[RX,e1,ae,e2,bj];generalize hs1:St.new st _=s1;obtain⟨k1,g1,n1⟩:=da hs1;have e3:jF false 4 (.slice st.next 0 0 0 0) .aa s1= .ok (I 0) s1:=rfl;rw[e3,bj,bP,show bO .slice (.slice st.next 0 0 0 0) s1= .ok (I 0) s1 from rfl,ae];simp only[aI,aJ];refine ph ?_;simp only[aI,aJ];have e:ai .lss none false (.int .i64 0) (I 0) s1= .ok (.bool false) s1:=rfl;rw[e,ae,ah,agf (by decide)];exact⟨k1,fun s'=>rfl,rfl,rfl,rfl⟩
def FH (st:St)(g:Nat):Prop:=g<st.next/\∃v,st.mem.get g=some (.cells [I 0,I 0,v] 274 false)/\∀s',bO .slice v s'= .ok (I 0) s'
theorem NC (st:St):R 85 [I 0,I 0, .aa] st fun y s=>∃g,y= .tuple [.ptr g 0,I 0]/\Kp [] st s/\FH s g:=by
 refine bp ?_;rw[Y6];refine(yx st).same ?_;rw[bt,ae,aE];simp only[agm,afY,agn,agj,aM,ae,bF];refine(yx st).same ?_;rw[bt,ae,aF,agf (by decide),ae,aE];simp only[agm,afY,agn,agj,aM,ae,bF];refine(J4 st).mono ?_;rintro _ s1 ⟨rfl,k1⟩;rw[bt,ae,aF,agf (by decide),ae,ah,agm,agf (by decide)];have e1:bO .slice .aa s1= .ok (I 0) s1:=rfl;have e2:ai .sub none true (.int .i64 2147483647) (I 0) s1= .ok (I 2147483647) s1:=rfl;have e3:ai .gtr none false (I 0) (I 2147483647) s1= .ok (.bool false) s1:=rfl;rw[e1,ae,e2,ae,e3,ae,ah,agf (by decide)];refine(CZ s1).mono ?_;rintro v s2 ⟨k2,hl,o,z,an⟩
 have kx:bf [.int .i64 0, .int .i64 0, .aa] [(0,1,I 0),(1,1,I 0),(2,1,v)] s2= .ok (.agg [I 0,I 0,v]) s2:=by
  have a1:(I 0).bL=[I 0]:=rfl;have a2:(I 0).isAny=false:=rfl;rw[eF];simp[dG,bB,z,an,a1,a2]
 rw[kx,ae,br];refine⟨rfl, ?_⟩;rw[ba];generalize Em:St.new s2 (.cells [I 0,I 0,v] 274 false)=s3;obtain⟨k3,g3,n3⟩:=da Em;exact⟨s2.next,rfl,(k1.trans k2).trans k3,by omega,v,g3,hl⟩
theorem Gm {g:Nat}(h:FH st g):R 131 [.ptr g 0,I 0] st fun y s=>y= .tuple [I 0, .bool true]/\s=st:=by
 obtain⟨hlt,v,hg,hl⟩:=h;refine bp ?_;rw[RW,bG];have f0:([I 0,I 0,v]:List CV)[0]?=some (I 0):=rfl;have f1:([I 0,I 0,v]:List CV)[1]?=some (I 0):=rfl;have f2:([I 0,I 0,v]:List CV)[2]?=some v:=rfl;have e1:ai .lss none false (I 0) (I 0) st= .ok (.bool false) st:=rfl;have e2:ai .gtr none false (I 0) (I 0) st= .ok (.bool false) st:=rfl;have e3:ai .add none false (I 0) (I 0) st= .ok (I 0) st:=rfl;have e4:ai .eql (some .int) false (I 0) (I 0) st= .ok (.bool true) st:=rfl;unfold eN;simp only[bD,ae,aE,afY,agn,agj,aM,aV,af,av,hg,ao,afZ,f0,f1,f2,au,e1,aF,hl,e3,e2,ah,e4,ags];exact⟨⟨trivial,trivial,trivial,trivial⟩,trivial,trivial,trivial⟩
theorem Ke {g:Nat}(h:FH st g):R 86 [.ptr g 0] st fun y s=>y= .tuple [I 0,I 0]/\s=st:=by
 have h0:=h;obtain⟨hlt,v,hg,hl⟩:=h;refine bp ?_;rw[Y5,bD,ae,ah,agf (by decide),bG];have f0:([I 0,I 0,v]:List CV)[0]?=some (I 0):=rfl;have f2:([I 0,I 0,v]:List CV)[2]?=some v:=rfl;have e3:ai .add none false (I 0) (I 0) st= .ok (I 0) st:=rfl;simp only[ae,aV,af,av,hg,ao,afZ,f0,f2,au,hl,e3];refine(Gm h0).same ?_;rw[ay,ae,aL,ay,ae];refine⟨⟨trivial,trivial,trivial⟩,trivial, ?_⟩;rw[bG];simp only[ae,aV,af,av,hg,ao,afZ,f0,f2,au,hl,e3];exact⟨⟨trivial,trivial,trivial⟩,trivial,trivial,trivial⟩
end
section
variable {st st' s:St} {a b n:Nat} {X:List Nat} {v w:CV} {L:List CV} {p:SetM} {id:Int} {B:Nat} {t:TypeId} {g:Bool}
theorem JL (hB:s.mem.get B=some (.cells L t g)){o:Nat}{x lo hi:Int}(ho:L[o]?=some (I x))(hx:lo<=x/\x<=hi){K:CV->St->Prop}(hK:K (.bool false) s):
 eu (ag false (.bool false)) o (.ptr B 0) s fun fk=>cb (ag false (.bool false)) s (fun k=>R 81 [fk,I lo,I hi] s k) fun fD s5=>us (aS (ag false (.bool false)) s5 (fA .not fD s5)) fun gq=>us (aK (.bool false) (.bool true) gq s5) fun y=>K y s5:=by
 unfold eu;simp only[aE,afY,agn,agj,aM,af,ae,av,hB,ao,afZ,ho,au,bF];refine(yZ x lo hi s).same ?_;rw[fP.2 hx,bt,ae,aF,agf (by decide),ae];exact hK
theorem M4 (hB:s.mem.get B=some (.cells L t g)){o o2:Nat}{x lo hi:Int}(ho:L[o]?=some (I x))(Qi:L[o2]?=some (I hi))(hx:lo<=x/\x<=hi){K:CV->St->Prop}(hK:K (.bool false) s):
 eu (ag false (.bool false)) o (.ptr B 0) s fun fk=>eu (ag false (.bool false)) o2 (.ptr B 0) s fun fM=>cb (ag false (.bool false)) s (fun k=>R 81 [fk,I lo,fM] s k) fun fD s5=>us (aS (ag false (.bool false)) s5 (fA .not fD s5)) fun gq=>us (aK (.bool false) (.bool true) gq s5) fun y=>K y s5:=by
 unfold eu;simp only[aE,afY,agn,agj,aM,af,ae,av,hB,ao,afZ,ho,Qi,au,bF];refine(yZ x lo hi s).same ?_;rw[fP.2 hx,bt,ae,aF,agf (by decide),ae];exact hK
set_option maxHeartbeats 1000000 in
theorem JQ {e:List UInt8}{F:List Nat}(hg:FL p)(hi:1<=id/\id<=p.bH)(hb:p.bH=(b:Int))(ig:1<=b/\b<=5)(hv:Own st v 1 3 (cP b) F)(hF:∀q∈F,q<st.next):R 41 [.agg (ck p id v e)] st fun y s=>∃m,y= .tuple [.ptr m 0,I 0]/\Kp [] st s:=by
 obtain⟨o1,z1⟩:=hv.cv;refine bp ?_;rw[ZK,br];refine⟨rfl, ?_⟩;rw[ba];generalize hs1:St.new st (.cells (ck p id v e) 121 false)=s1;obtain⟨k1,g1,n1⟩:=da hs1;have f0:(ck p id v e)[0]?=some (I id):=rfl;have f1:(ck p id v e)[1]?=some (I p.bH):=rfl;have f2:(ck p id v e)[2]?=some (I p.dI):=rfl;have f3:(ck p id v e)[3]?=some (I p.ja):=rfl;have f4:(ck p id v e)[4]?=some (I 0):=rfl;have f5:(ck p id v e)[5]?=some (I 0):=rfl;have f6:(ck p id v e)[6]?=some (I 0):=rfl;have f7:(ck p id v e)[7]?=some (I 0):=rfl;have f8:(ck p id v e)[8]?=some v:=rfl;have f9:(ck p id v e)[9]?=some (.str e):=rfl;have f10:(ck p id v e)[10]?=some .aa:=rfl;have Cw:Sl s1 [] v 1 (cP b):=(hv.sl (X:=[]) fun q hq=>⟨by simp,hF q hq⟩).mono k1;rw[bG];simp only[af,ae,av,g1,ao,afZ,f0,f1,f2,f3,f4,f5,f6,f8,au];refine(Bd Cw (qq b) (by rw[dt];omega)).mono ?_;intro db s2 m2;obtain⟨F2,k2,GI,_⟩:=m2;have n2:=k2.next;have g2:=(k2.keep st.next (by omega) (by simp)).trans g1;simp only[af,ae,av,g2,ao,afZ,f9,au]
 obtain⟨M,hM,Yd⟩:∃M,bf ([(.int .i64 0),(.int .i64 0),(.int .i64 0),(.int .i64 0),(.int .i64 0),(.int .i64 0),(.int .i64 0),(.int .u8 0),(.int .i64 0),(.int .i64 0), .aa,(.str []), .aC, .aa]++List.replicate 12 (.int .i64 0)++[.aa,(.bool false),(.bool false),(.int .i64 0)]) [(0,1,I id),(1,1,I p.bH),(2,1,I p.dI),(3,1,I p.ja),(4,1,I 0),(5,1,I 0),(7,1,(.int .u8 1)),(9,1,I 0),(10,1,db),(11,1, .str e)] s2= .ok (.agg M) s2/\M[1]?=some (I p.bH)/\M.length=30:=by
  refine⟨[I id,I p.bH,I p.dI,I p.ja,I 0,I 0,I 0, .int .u8 1,I 0,I 0,db, .str e, .aC, .aa]++List.replicate 12 (I 0)++[.aa, .bool false, .bool false,I 0], ?_,rfl,rfl⟩;rcases GI with⟨rfl,_⟩|⟨b,l,t,g,rfl,_⟩|⟨b,n,rfl,_⟩<;>rfl
 rw[hM,ae,br];refine⟨rfl, ?_⟩;rw[ba];generalize Em:St.new s2 (.cells M 206 false)=s3;obtain⟨k3,g3,n3⟩:=da Em;have Jj:=(k3.keep st.next (by omega) (by simp)).trans g2;simp only[af,av,g1,g2,ao,afZ,f0,f1,f2,f3,f4,f5,f6,f9,au];refine⟨⟨⟨trivial,trivial⟩,⟨trivial,trivial⟩,⟨trivial,trivial⟩,⟨trivial,trivial⟩,⟨trivial,trivial⟩,⟨trivial,trivial⟩,⟨trivial,trivial⟩,trivial,⟨trivial,trivial⟩,trivial⟩,trivial, ?_⟩;have gs:=hg.bH;have ge:=hg.dI;have gb:=hg.ja;unfold fl;rw[af,ae,av,Jj,ao,afZ,f1,au];refine(yZ p.bH 1 5 s3).same ?_;rw[fP.2 gs,bt,ae,agm];refine M4 Jj f0 f1 hi ?_;refine JL Jj f2 ⟨by omega,by omega⟩ ?_;refine JL Jj f3 ⟨by omega,by omega⟩ ?_;refine JL Jj f4 ⟨by omega,by omega⟩ ?_;refine M4 Jj f5 f1 ⟨by omega,by omega⟩ ?_;unfold eu;simp only[aE,afY,agn,agj,aM,af,ae,av,Jj,ao,afZ,f8,au,bF];have PS:=(Cw.mono k2).mono k3;refine(H7 PS ig).mono ?_;rintro _ s4 ⟨rfl,k4⟩;have n3':=k4.next;have Yl:=(k4.keep st.next (by omega) (by simp)).trans Jj;have Yj:=(k4.keep s2.next (by omega) (by simp)).trans g3;rw[bt,ae,aF,agf (by decide),ae];simp only[aE,agm,afY,agn,agj,aM,af,ae,av,Yl,ao,afZ,f8,au,bF];rw[hb]at Yd;refine(Hi Yj (by omega) Yd.1 (PS.mono k4) (by omega)).mono ?_;rintro _ s5 ⟨rfl,k5⟩;have n4:=k5.next;have Yk:=(k5.keep st.next (by omega) (by simp)).trans Yl;have VF:=(k5.keep s2.next (by omega) (by simp)).trans Yj;rw[bt,ae,aF,agf (by decide),ae];simp only[aE,agm,afY,agn,agj,aM,af,ae,av,Yk,ao,afZ,f10,au,bF];refine(Hh s2.next s5).mono ?_;rintro _ s6 ⟨rfl,k6⟩;have n5:=k6.next;have MC:=(k6.keep st.next (by omega) (by simp)).trans Yk;have gM6:=(k6.keep s2.next (by omega) (by simp)).trans VF;rw[bt,ae,aF,agf (by decide),ae,ah,agm,agf (by decide)];simp only[af,ae,av,MC,ao,afZ,f6,f7,f10,au];refine(NC s6).mono ?_;rintro _ s7 ⟨lg,rfl,k7,XL⟩;have n6:=k7.next;have VG:=(k7.keep st.next (by omega) (by simp)).trans MC;have gM7:=(k7.keep s2.next (by omega) (by simp)).trans gM6;have en:ai .neq (some .int) true (I 0) (.int .i64 0) s7= .ok (.bool false) s7:=rfl
 rw[ay,ae,aL,ay,ae,en,ae,ah,agf (by decide)];refine(Ke XL).same ?_;have e2:ai .gtr none false (I 0) (I 0) s7= .ok (.bool false) s7:=rfl;rw[ay,ae,aL,ay,ae];simp only[af,ae,av,VG,ao,afZ,f4,au,e2,ah,afY,agn];unfold kh;rw[aV,ae,af,ae,aQ,gM7,bg];refine⟨⟨rfl,rfl,by omega⟩,s2.next,rfl, ?_⟩;exact((((((k1.trans k2).trans k3).trans k4).trans k5).trans k6).trans k7).set _ (.inr (by omega)) (by omega)
end
section
variable {st st':St}
theorem Made.kp {k e:Nat}{L:List CV}{s0 s:St}{x:CV}(m:Made k e L s0 x s):Kp [] s0 s:=by obtain⟨F,h1,_⟩:=m;exact h1
end
