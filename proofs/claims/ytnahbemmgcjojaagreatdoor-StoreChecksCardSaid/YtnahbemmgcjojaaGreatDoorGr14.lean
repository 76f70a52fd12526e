import Derived.Test.YtnahbemmgcjojaaGreatDoorGr05
import Derived.Test.YtnahbemmgcjojaaGreatDoorKLease4h
namespace Lim
open Go
noncomputable section
set_option maxRecDepth 100000
theorem LG:eV P0 33=true:=by kernel_rfl
theorem Ac {args:List CV}{st st':St}{v:CV}(h:LN args st=some (.ok v st')):pM P0 33 args st v st':=by
 left;unfold LN at h
 split at h
 ·rename_i tb now
  split at h
  ·rename_i l t g htb
   split at h
   ·rename_i mb hl
    split at h
    ·rename_i clock hmb;cases h;refine⟨LG,fun ρ w args' hw ha=> ?_⟩;obtain⟨x1,t1,e1,Tc,EN⟩:=ha.inv;obtain⟨x2,t2,e2,Tb,Ga⟩:=EN.inv;have e4:t2=[]:=by have:=Ga.len;simpa using this.symm
     subst e4;subst e2;have e5:args'= #[x1,x2]:=by rw[<-ahi (xs:=args'),e1]
     subst e5;cases Tb;cases Tc with
     |ptr _ _ r sz hr=>
      obtain⟨c,lo,hi,a1,a2,a3,a4,a5⟩:=hw.row htb hr
      obtain⟨m',sq⟩:∃m',(c.toList.take l.length)[4]?=some m':=by
       have hlt:4<l.length:=(agt.1 hl).1;have:=a4.len;exact⟨_,agh (by have h4:l.length=(c.toList.take l.length).length:=this;omega)⟩
      have Hz:=a4.ji 4 _ _ hl sq;cases Hz with
      |map _ rm szm hrm=>
       obtain⟨om,hom,Ja⟩:=hw.ji mb _ rm szm hmb hrm;cases Ja with
       |map es clk es' hle hh=>
        have he:es'=[]:=agu.1 (by simpa using hle.symm);subst he
        have mQ:w.cell? ⟨r,4,none⟩=some (.map (some rm)):=by
         have:c.toList[4]?=some (.map (some rm)):=by
          rw[ahn]at sq
          split at sq
          ·exact sq
          ·cases sq
         simp only[World.cell?,a1];simpa using this
        refine(Sim.Lease.All_is r rm clock #[] none .none now w mQ hom).mono ?_;rintro e w' ⟨v',rfl,hrow,hnil,hbl⟩;obtain rfl:=hnil.2 rfl;exact⟨_,ρ,rfl, .aa,aY.below hw hbl⟩
    ·cases h
   ·cases h
  ·cases h
 ·cases h
