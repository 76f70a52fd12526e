import Derived.Test.YtfojoloiahhphaaGreatDoorSimCm
import Derived.Test.YtfojoloiahhphaaGreatDoorTold
import Derived.Test.YtfojoloiahhphaaGreatDoorSimI6
import Derived.Test.YtfojoloiahhphaaGreatDoorSimI7
namespace Sim
open Go
-- sA0 71

noncomputable def sA0pre : Tab := [(Bp.enc 0, (Sim.Blk.cells (Segs.one (Sim.CV.slice (Bp.enc 1) 0 6000 6000 0) (Segs.one Sim.CV.nilslice (Segs.one (Sim.CV.map (Bp.enc 2)) (Segs.one (Sim.CV.int Go.IntKind.i64 (Int.ofNat 0)) (Segs.one (Sim.CV.bool Bool.false) (Segs.one (Sim.CV.bool Bool.false) (Segs.one (Sim.CV.int Go.IntKind.i64 (Int.ofNat 0)) (Segs.one Sim.CV.nilslice Segs.nil)))))))) 153 Bool.false)),
  (Bp.enc 1, (Sim.Blk.cells (Segs.bytes 3072000 0 Segs.nil) 300 Bool.false)),
  (Bp.enc 2, (Sim.Blk.map List.nil 0))]
noncomputable def sA0post : Tab := [(Bp.enc 0, (Sim.Blk.cells (Segs.one (Sim.CV.slice (Bp.enc 1) 0 6000 6000 0) (Segs.one Sim.CV.nilslice (Segs.one (Sim.CV.map (Bp.enc 6021)) (Segs.one (Sim.CV.int Go.IntKind.i64 (Int.ofNat 4)) (Segs.one (Sim.CV.bool Bool.false) (Segs.one (Sim.CV.bool Bool.false) (Segs.one (Sim.CV.int Go.IntKind.i64 (Int.negSucc 3)) (Segs.one Sim.CV.nilslice Segs.nil)))))))) 153 Bool.false)),
  (Bp.enc 1, (Sim.Blk.cells (Segs.bytes 512 3565006360111510882 (Segs.bytes 768000 0 (Segs.bytes 512 72057594037927936 (Segs.bytes 2302976 0 Segs.nil)))) 300 Bool.false)),
  (Bp.enc 2, (Sim.Blk.map [(Prod.mk (Sim.CV.int Go.IntKind.i64 (Int.ofNat 1501)) (Prod.mk (Sim.CV.int Go.IntKind.i64 (Int.ofNat 0)) 0))] 1)),
  (Bp.enc 3, (Sim.Blk.map List.nil 0)),
  (Bp.enc 4, (Sim.Blk.map List.nil 0)),
  (Bp.enc 5, (Sim.Blk.map List.nil 0)),
  (Bp.enc 6, (Sim.Blk.map List.nil 0)),
  (Bp.enc 7, (Sim.Blk.cells (Segs.one (Sim.CV.ptr (Bp.enc 0) 0) (Segs.one (Sim.CV.ptr (Bp.enc 6022) 0) (Segs.one (Sim.CV.int Go.IntKind.i64 (Int.ofNat 1501)) (Segs.one (Sim.CV.int Go.IntKind.i64 (Int.ofNat 4499)) (Segs.one (Sim.CV.map (Bp.enc 3)) (Segs.one (Sim.CV.map (Bp.enc 4)) (Segs.one (Sim.CV.int Go.IntKind.i64 (Int.ofNat 0)) (Segs.one (Sim.CV.int Go.IntKind.i64 (Int.ofNat 1)) (Segs.one (Sim.CV.int Go.IntKind.i64 (Int.ofNat 0)) (Segs.one (Sim.CV.int Go.IntKind.i64 (Int.ofNat 0)) (Segs.one (Sim.CV.int Go.IntKind.i64 (Int.ofNat 0)) (Segs.one (Sim.CV.int Go.IntKind.i64 (Int.ofNat 1)) (Segs.one (Sim.CV.int Go.IntKind.i64 (Int.ofNat 0)) (Segs.one (Sim.CV.int Go.IntKind.i64 (Int.ofNat 0)) (Segs.one (Sim.CV.map (Bp.enc 5)) (Segs.one (Sim.CV.map (Bp.enc 6)) Segs.nil)))))))))))))))) 220 Bool.false)),
  (Bp.enc 6021, (Sim.Blk.map List.nil 0)),
  (Bp.enc 6022, (Sim.Blk.cells (Segs.one (Sim.CV.ptr (Bp.enc 0) 0) (Segs.one (Sim.CV.int Go.IntKind.i64 (Int.ofNat 1)) (Segs.one (Sim.CV.int Go.IntKind.i64 (Int.ofNat 1500)) (Segs.one (Sim.CV.int Go.IntKind.i64 (Int.ofNat 0)) (Segs.one (Sim.CV.int Go.IntKind.i64 (Int.ofNat 0)) (Segs.one (Sim.CV.int Go.IntKind.i64 (Int.ofNat 0)) Segs.nil)))))) 306 Bool.false))]
noncomputable def sA0 : Snap := ⟨[(Sim.CV.ptr (Bp.enc 0) 0)], Bp.enc 3, sA0pre, (Sim.CV.tuple (Segs.one (Sim.CV.ptr (Bp.enc 7) 0) (Segs.one (Sim.CV.int Go.IntKind.i64 (Int.ofNat 0)) Segs.nil))), Bp.enc 6023, sA0post⟩

-- sC0 125
noncomputable def sC0pre : Tab := [(Bp.enc 0, (Sim.Blk.cells (Segs.one (Sim.CV.slice (Bp.enc 1) 0 6000 6000 0) (Segs.one Sim.CV.nilslice (Segs.one (Sim.CV.map (Bp.enc 2)) (Segs.one (Sim.CV.int Go.IntKind.i64 (Int.ofNat 4)) (Segs.one (Sim.CV.bool Bool.false) (Segs.one (Sim.CV.bool Bool.false) (Segs.one (Sim.CV.int Go.IntKind.i64 (Int.negSucc 3)) (Segs.one Sim.CV.nilslice Segs.nil)))))))) 153 Bool.false)),
  (Bp.enc 1, (Sim.Blk.cells (Segs.bytes 512 3565006360111510882 (Segs.bytes 768000 0 (Segs.bytes 512 72057594037927936 (Segs.bytes 2302976 0 Segs.nil)))) 300 Bool.false)),
  (Bp.enc 2, (Sim.Blk.map List.nil 0))]
noncomputable def sC0post : Tab := [(Bp.enc 0, (Sim.Blk.cells (Segs.one (Sim.CV.slice (Bp.enc 1) 0 6000 6000 0) (Segs.one Sim.CV.nilslice (Segs.one (Sim.CV.map (Bp.enc 2)) (Segs.one (Sim.CV.int Go.IntKind.i64 (Int.ofNat 4)) (Segs.one (Sim.CV.bool Bool.false) (Segs.one (Sim.CV.bool Bool.false) (Segs.one (Sim.CV.int Go.IntKind.i64 (Int.negSucc 3)) (Segs.one Sim.CV.nilslice Segs.nil)))))))) 153 Bool.false)),
  (Bp.enc 1, (Sim.Blk.cells (Segs.bytes 512 3565006360111510882 (Segs.bytes 768000 0 (Segs.bytes 512 72057594037927936 (Segs.bytes 2302976 0 Segs.nil)))) 300 Bool.false)),
  (Bp.enc 2, (Sim.Blk.map List.nil 0)),
  (Bp.enc 3, (Sim.Blk.cells (Segs.one (Sim.CV.ptr (Bp.enc 0) 0) (Segs.one (Sim.CV.int Go.IntKind.i64 (Int.ofNat 1)) (Segs.one (Sim.CV.int Go.IntKind.i64 (Int.ofNat 1500)) (Segs.one (Sim.CV.int Go.IntKind.i64 (Int.ofNat 0)) (Segs.one (Sim.CV.int Go.IntKind.i64 (Int.ofNat 0)) (Segs.one (Sim.CV.int Go.IntKind.i64 (Int.ofNat 0)) Segs.nil)))))) 306 Bool.false))]
noncomputable def sC0 : Snap := ⟨[(Sim.CV.ptr (Bp.enc 0) 0), (Sim.CV.int Go.IntKind.i64 (Int.ofNat 1)), (Sim.CV.int Go.IntKind.i64 (Int.ofNat 1500)), (Sim.CV.int Go.IntKind.i64 (Int.ofNat 0))], Bp.enc 3, sC0pre, (Sim.CV.tuple (Segs.one (Sim.CV.ptr (Bp.enc 3) 0) (Segs.one Sim.CV.nilslice (Segs.one (Sim.CV.int Go.IntKind.i64 (Int.ofNat 0)) Segs.nil)))), Bp.enc 7513, sC0post⟩

noncomputable def I3 : IntX := fun f => bsel (Nat.beq f 125) (reloO (snapI sC0 (funXK P0 125))) (I2 f)
noncomputable def callO : CallF := runX P0 I3 100
end Sim

namespace Sim
open Go
noncomputable def I2w : IntX := fun f => bsel (Nat.beq f 108) (some outG) (bsel (Nat.beq f 68) (some allG) (bsel (Nat.beq f 111) (some backG) (I2 f)))
noncomputable def I4w : IntX := fun f => bsel (Nat.beq f 71) (reloO (snapI sA0 (funXK P0 71))) (I2w f)
noncomputable def callW : CallF := runX P0 I4w 100
end Sim

/- A call without arguments by the plain evaluator: for functions with more than 256 slots. -/
namespace Sim
open Go
noncomputable def saysE (v : CV) (P : Program) (f : Nat) (call : CallF) : Bool := match enterC P (runDraw2 P) call f [] ⟨.nil, .e⟩ with | .ok u _ => Bool.and (flatT v) (cvEq v u) | .bad => false
theorem saysE_sound {P : Program} {f : Nat} {v0 : CV} {call0 call : CallF} (hm : P.follows .mixedOrders = true) (h0 : CallSound P call0) (hs : saysE v0 P f call0 = true) (args : List CV) (st : St) (v : CV) (st' : St) (h : saysG v0 call args st = .ok v st') : CallOut P f args st v st' := by
  unfold saysG at h
  split at h
  · cases h
    unfold saysE at hs
    split at hs
    · rename_i u s1 hr
      rw [Bool.and_eq_true] at hs
      have hu := cvEq_sound _ _ hs.2
      subst hu
      obtain ⟨h1, h2⟩ := enterC_sound h0 (runDraw2_sound hm) hr
      exact .inl ⟨h1, h2.flat rfl hs.1 st⟩
    · cases hs
  · cases h
end Sim

namespace Sim
open Go
-- sW2 11

noncomputable def sW2pre : Tab := [(Bp.enc 0, (Sim.Blk.cells (Segs.bytes 1536 542462734777444446796851953637754559809558264547987679365840360849040553147265549010503565472121908050122699153215257994874873482852811888429840847485761291575708989266729094517215353833125113955706546280759957145812077223681846227342464112577082516184986151178975327603380203169153035361528150373201148456103102294874472995600054804628573984313297944260704524470037042043093617250843542005511019603362630696006234170555896132021350944566542561694800411172917359472219012699278027832544127108943545023198692422576746819545715625919445576682906361399511614023078788774650773490073332592296377866936953438042090185870198669419885583490293665507749331385817146488419465167211878384025801526841607997623055365941966237428140188148153958272847293451533559182410457317870706755829743359213918363711300042816160384530597163493159794911560095177010844181142051561742134293085467199184543404725892780043579144664040034752215648469633742556452667964139111723223473527674369425410965766076495489686331933642187841060315118520038691142297563365507086744609450440181294157776503785671138668846414650481768030541597769680398203539110550265508704148933275055531763180435062788956584818402268335643852648155069458500915994065710292940206516398701659213830369638447354210459765503470212074892475054853623926603544911894233464307086991408728312333350382789020566124243307143955921402045851613336770735710243834769685791827921951595503522836517159481561633770877491982985218883792490533163338732914282602608422943651146332650558522543723365287762892936535775857339396314235234502194331458122789704702295633836482123841046139088331135829844188514524062049813294716959067468468578760625518855238734727045638988066749049730361113830604911475165068610880604150126223515394235555444466933665569838534960972057480390683243950684310510806818436107451748812940204646255559881870614238104769181159599486204049465686266575293300683530491232092793893268098545307296679018343291967146724600407316129282019209335777691142926335074480304448153396798070290614179956626019015825635860561564379908107418257672582841736610471113757117674840368512349257028612875869987797459672708407310349737881063991296732611359347737226842964034539543911668728974028162311377210621515062020145832285369774997407295526684262462584415643636632776312324940928863737887404103763836587132858114214183872748852174963988331902567766703406427612046576343711500153339530935752179256647994087706259250588120012221667846288364544333338449715768622035926285419505665699170261907516722300714344303759560615583995426146 (Segs.bytes 766976 0 (Segs.bytes 512 72057594037927936 (Segs.bytes 2302976 0 Segs.nil)))) 300 Bool.false)),
  (Bp.enc 1, (Sim.Blk.map [(Prod.mk (Sim.CV.int Go.IntKind.i64 (Int.ofNat 1501)) (Prod.mk (Sim.CV.int Go.IntKind.i64 (Int.ofNat 0)) 0))] 1)),
  (Bp.enc 2, (Sim.Blk.cells (Segs.one (Sim.CV.slice (Bp.enc 0) 0 6000 6000 0) (Segs.one Sim.CV.nilslice (Segs.one (Sim.CV.map (Bp.enc 139)) (Segs.one (Sim.CV.int Go.IntKind.i64 (Int.ofNat 6)) (Segs.one (Sim.CV.bool Bool.false) (Segs.one (Sim.CV.bool Bool.false) (Segs.one (Sim.CV.int Go.IntKind.i64 (Int.negSucc 5)) (Segs.one Sim.CV.nilslice Segs.nil)))))))) 153 Bool.false)),
  (Bp.enc 3, (Sim.Blk.cells (Segs.one (Sim.CV.ptr (Bp.enc 2) 0) (Segs.one (Sim.CV.ptr (Bp.enc 4) 0) (Segs.one (Sim.CV.int Go.IntKind.i64 (Int.ofNat 1501)) (Segs.one (Sim.CV.int Go.IntKind.i64 (Int.ofNat 4499)) (Segs.one (Sim.CV.map (Bp.enc 5)) (Segs.one (Sim.CV.map (Bp.enc 144)) (Segs.one (Sim.CV.int Go.IntKind.i64 (Int.ofNat 1)) (Segs.one (Sim.CV.int Go.IntKind.i64 (Int.ofNat 2)) (Segs.one (Sim.CV.int Go.IntKind.i64 (Int.ofNat 0)) (Segs.one (Sim.CV.int Go.IntKind.i64 (Int.ofNat 0)) (Segs.one (Sim.CV.int Go.IntKind.i64 (Int.ofNat 1)) (Segs.one (Sim.CV.int Go.IntKind.i64 (Int.ofNat 2)) (Segs.one (Sim.CV.int Go.IntKind.i64 (Int.ofNat 0)) (Segs.one (Sim.CV.int Go.IntKind.i64 (Int.ofNat 0)) (Segs.one (Sim.CV.map (Bp.enc 7)) (Segs.one (Sim.CV.map (Bp.enc 145)) Segs.nil)))))))))))))))) 220 Bool.false)),
  (Bp.enc 4, (Sim.Blk.cells (Segs.one (Sim.CV.ptr (Bp.enc 2) 0) (Segs.one (Sim.CV.int Go.IntKind.i64 (Int.ofNat 1)) (Segs.one (Sim.CV.int Go.IntKind.i64 (Int.ofNat 1500)) (Segs.one (Sim.CV.int Go.IntKind.i64 (Int.ofNat 0)) (Segs.one (Sim.CV.int Go.IntKind.i64 (Int.ofNat 1)) (Segs.one (Sim.CV.int Go.IntKind.i64 (Int.ofNat 1)) Segs.nil)))))) 306 Bool.false)),
  (Bp.enc 5, (Sim.Blk.lmap [(Prod.mk (Sim.CV.int Go.IntKind.i64 (Int.ofNat 1)) (Prod.mk (Sim.CV.agg (Segs.bytes 512 20282721506531651770760965521665 Segs.nil)) 0)), (Prod.mk (Sim.CV.int Go.IntKind.i64 (Int.ofNat 0)) (Prod.mk (Sim.CV.agg (Segs.bytes 512 144115188092633088 Segs.nil)) 0))])),
  (Bp.enc 6, (Sim.Blk.map [(Prod.mk (Sim.CV.int Go.IntKind.i64 (Int.ofNat 1)) (Prod.mk (Sim.CV.agg (Segs.bytes 512 20282721506531651770760965521665 Segs.nil)) 0))] 2)),
  (Bp.enc 7, (Sim.Blk.map List.nil 0)),
  (Bp.enc 8, (Sim.Blk.map [(Prod.mk (Sim.CV.int Go.IntKind.i64 (Int.ofNat 1)) (Prod.mk (Sim.CV.bool Bool.true) 0))] 1)),
  (Bp.enc 9, (Sim.Blk.map [(Prod.mk (Sim.CV.int Go.IntKind.i64 (Int.ofNat 2)) (Prod.mk (Sim.CV.int Go.IntKind.i64 (Int.ofNat 0)) 0))] 1)),
  (Bp.enc 10, (Sim.Blk.cells (Segs.one (Sim.CV.ptr (Bp.enc 3) 0) Segs.nil) 171 Bool.false)),
  (Bp.enc 11, (Sim.Blk.cells (Segs.one (Sim.CV.ptr (Bp.enc 10) 0) (Segs.one (Sim.CV.int Go.IntKind.i64 (Int.ofNat 750)) Segs.nil)) 95 Bool.false)),
  (Bp.enc 12, (Sim.Blk.cells (Segs.one (Sim.CV.ptr (Bp.enc 11) 0) (Segs.one (Sim.CV.int Go.IntKind.i64 (Int.ofNat 1)) (Segs.one (Sim.CV.int Go.IntKind.i64 (Int.ofNat 8)) (Segs.one (Sim.CV.int Go.IntKind.i64 (Int.ofNat 1)) (Segs.one (Sim.CV.int Go.IntKind.i64 (Int.ofNat 0)) (Segs.bytes 1 2 (Segs.one (Sim.CV.int Go.IntKind.i64 (Int.ofNat 1)) (Segs.one (Sim.CV.int Go.IntKind.i64 (Int.ofNat 1)) (Segs.one (Sim.CV.int Go.IntKind.i64 (Int.ofNat 0)) (Segs.one (Sim.CV.int Go.IntKind.i64 (Int.ofNat 1)) Segs.nil)))))))))) 87 Bool.false)),
  (Bp.enc 13, (Sim.Blk.cells (Segs.one (Sim.CV.int Go.IntKind.i64 (Int.ofNat 8)) (Segs.one (Sim.CV.str 0 0) Segs.nil)) 166 Bool.false)),
  (Bp.enc 14, (Sim.Blk.cells (Segs.one (Sim.CV.int Go.IntKind.i64 (Int.ofNat 8)) (Segs.one (Sim.CV.str 0 0) Segs.nil)) 166 Bool.false)),
  (Bp.enc 15, (Sim.Blk.cells (Segs.one (Sim.CV.int Go.IntKind.i64 (Int.ofNat 8)) (Segs.one (Sim.CV.str 0 0) Segs.nil)) 166 Bool.false)),
  (Bp.enc 16, (Sim.Blk.cells (Segs.one (Sim.CV.int Go.IntKind.i64 (Int.ofNat 8)) (Segs.one (Sim.CV.str 0 0) Segs.nil)) 166 Bool.false)),
  (Bp.enc 17, (Sim.Blk.cells (Segs.one (Sim.CV.int Go.IntKind.i64 (Int.ofNat 8)) (Segs.one (Sim.CV.str 0 0) Segs.nil)) 166 Bool.false)),
  (Bp.enc 19, (Sim.Blk.cells (Segs.one (Sim.CV.int Go.IntKind.i64 (Int.ofNat 9)) (Segs.one (Sim.CV.str 0 0) Segs.nil)) 166 Bool.false)),
  (Bp.enc 21, (Sim.Blk.cells (Segs.one (Sim.CV.int Go.IntKind.i64 (Int.ofNat 8)) (Segs.one (Sim.CV.str 0 0) Segs.nil)) 166 Bool.false)),
  (Bp.enc 23, (Sim.Blk.cells (Segs.one (Sim.CV.int Go.IntKind.i64 (Int.ofNat 0)) Segs.nil) 27 Bool.false)),
  (Bp.enc 24, (Sim.Blk.cells (Segs.one (Sim.CV.int Go.IntKind.i64 (Int.ofNat 1)) (Segs.one (Sim.CV.int Go.IntKind.i64 (Int.ofNat 1)) (Segs.one (Sim.CV.int Go.IntKind.i64 (Int.ofNat 0)) Segs.nil))) 37 Bool.false)),
  (Bp.enc 25, (Sim.Blk.cells (Segs.one (Sim.CV.int Go.IntKind.i64 (Int.ofNat 1)) (Segs.one (Sim.CV.int Go.IntKind.i64 (Int.ofNat 1)) (Segs.one (Sim.CV.int Go.IntKind.i64 (Int.ofNat 0)) Segs.nil))) 37 Bool.false)),
  (Bp.enc 26, (Sim.Blk.cells (Segs.one (Sim.CV.int Go.IntKind.i64 (Int.ofNat 1)) (Segs.one (Sim.CV.int Go.IntKind.i64 (Int.ofNat 1)) (Segs.one (Sim.CV.int Go.IntKind.i64 (Int.ofNat 0)) Segs.nil))) 37 Bool.false)),
  (Bp.enc 27, (Sim.Blk.cells (Segs.one (Sim.CV.int Go.IntKind.i64 (Int.ofNat 1)) (Segs.one (Sim.CV.int Go.IntKind.i64 (Int.ofNat 0)) (Segs.bytes 1 2 (Segs.one (Sim.CV.int Go.IntKind.i64 (Int.ofNat 1)) (Segs.one (Sim.CV.int Go.IntKind.i64 (Int.ofNat 1)) (Segs.one (Sim.CV.int Go.IntKind.i64 (Int.ofNat 0)) Segs.nil)))))) 59 Bool.false)),
  (Bp.enc 28, (Sim.Blk.cells (Segs.one (Sim.CV.int Go.IntKind.i64 (Int.ofNat 8)) (Segs.one (Sim.CV.str 1 115) (Segs.one (Sim.CV.str 7 281479305232641) (Segs.one (Sim.CV.bool Bool.false) Segs.nil)))) 32 Bool.false)),
  (Bp.enc 29, (Sim.Blk.cells (Segs.one (Sim.CV.int Go.IntKind.i64 (Int.ofNat 1)) (Segs.one (Sim.CV.int Go.IntKind.i64 (Int.ofNat 0)) (Segs.bytes 1 2 (Segs.one (Sim.CV.int Go.IntKind.i64 (Int.ofNat 1)) (Segs.one (Sim.CV.int Go.IntKind.i64 (Int.ofNat 1)) (Segs.one (Sim.CV.int Go.IntKind.i64 (Int.ofNat 0)) Segs.nil)))))) 59 Bool.false)),
  (Bp.enc 30, (Sim.Blk.cells (Segs.one (Sim.CV.int Go.IntKind.i64 (Int.ofNat 8)) (Segs.one (Sim.CV.str 1 115) (Segs.one (Sim.CV.str 7 281479305232641) (Segs.one (Sim.CV.bool Bool.false) Segs.nil)))) 32 Bool.false)),
  (Bp.enc 31, (Sim.Blk.cells (Segs.one (Sim.CV.int Go.IntKind.i64 (Int.ofNat 1)) (Segs.one (Sim.CV.int Go.IntKind.i64 (Int.ofNat 1)) (Segs.one (Sim.CV.int Go.IntKind.i64 (Int.ofNat 0)) (Segs.one (Sim.CV.int Go.IntKind.i64 (Int.ofNat 2)) (Segs.one (Sim.CV.int Go.IntKind.i64 (Int.ofNat 1)) (Segs.one (Sim.CV.int Go.IntKind.i64 (Int.ofNat 0)) (Segs.one (Sim.CV.int Go.IntKind.i64 (Int.ofNat 1)) Segs.nil))))))) 3 Bool.false)),
  (Bp.enc 139, (Sim.Blk.map List.nil 0)),
  (Bp.enc 144, (Sim.Blk.map List.nil 0)),
  (Bp.enc 145, (Sim.Blk.map List.nil 0)),
  (Bp.enc 147, (Sim.Blk.cells (Segs.one (Sim.CV.int Go.IntKind.i64 (Int.ofNat 9)) (Segs.one (Sim.CV.int Go.IntKind.i64 (Int.ofNat 0)) (Segs.one (Sim.CV.int Go.IntKind.i64 (Int.ofNat 1048576)) (Segs.one (Sim.CV.int Go.IntKind.i64 (Int.ofNat 2097151)) (Segs.one (Sim.CV.map (Bp.enc 148)) (Segs.one (Sim.CV.map (Bp.enc 149)) Segs.nil)))))) 192 Bool.false)),
  (Bp.enc 148, (Sim.Blk.map List.nil 0)),
  (Bp.enc 149, (Sim.Blk.map List.nil 0)),
  (Bp.enc 150, (Sim.Blk.cells (Segs.one (Sim.CV.ptr (Bp.enc 12) 0) (Segs.one (Sim.CV.ptr (Bp.enc 147) 0) (Segs.one (Sim.CV.int Go.IntKind.i64 (Int.ofNat 1)) (Segs.one (Sim.CV.int Go.IntKind.i64 (Int.ofNat 0)) (Segs.one (Sim.CV.int Go.IntKind.i64 (Int.ofNat 2)) (Segs.one Sim.CV.nilslice (Segs.one Sim.CV.nilslice Segs.nil))))))) 129 Bool.false))]
noncomputable def sW2post : Tab := [(Bp.enc 0, (Sim.Blk.cells (Segs.bytes 2048 59663841483888261855699336695921817618295205272431025536336655302220238117394914711029962569737110073436179328494113692625337853935267500562296192780447919759050491774866126582549355610646071635080759119143933806321250883858758841423099041830768558253959757347622462049442401946396038753430221290846195662852999856382650314040828177120591902004227035788052928718674142743457782053315592791830561363045348647347024185729359178778503331470125981124404030552535239404537834337900925485754340130924033656137928112231722364660966846127961360330665595939436813991237040287631159643779960819514893070886297167959391109298347445618913143069184734490650039487064082822033752160978750990754651361303139878303503693851914472559921519577798526426008371726841972650975980574627829358488775462629189713457368583342235426608596299733050393284497309363918958977110287092802294187669143282392308508799984433966592491789163369626564461678256638575334844094072242698206283201110224228320978876447898513795136200951452812059115581907490243921234100878603372964590403704189754464549273156932226396055274056907404109601751338776542690708493793765236585934771256587577831122012272268939882065171191659227204976185200539208774027198177396593270094424964847851609125478582500146860058066062569357520016902029957710910941642219263205074889513808932609359120388320766777410395529210383922627114124768842912184631359301289282462157041014132603697431441595053107750560709322843872976314827671395641934204890637733966005492862184736913445997687561044028608171297717605862108220455184918654323131768380675504967347064799897145500070235725395968667964533853897760763500577933276649315905736693941584101327853394551891921265610983304060798174299138616990760827542531862419827425485928354124237873015336077398397809775271916193812114347096343482756499548075249563255685888054464100188250172052781787383129594002481591606729706332464478847719513637088339485122514186947685328162718160596141198721828720837877012475803913866396717151166170717440639704062802059286867467481320229382315703137885184265889942843970676821157588657444005330594440524152555257486248842474499790315089813920102396204829779406961838548824367490063247392659143676309806789948192222077836026827848002811692085686362295070718087728143230281314083865769694686337634848570541818049849924903406913053652947973185671230257234194195908022706661890800442809249058663885295512641595486576856637828022917182406995376639745066506122170464860155483030567009084451196126725709683020404563522044293648359299150631685288028459198136078289072326235451897332624596365314759939166359256705136233682973345221985910967875290624080180920259430211431143816467906640030301596536952077880820508338869352139674404827400157991212842172685356910472560672346182367495225609468673972442771165035182777837269963249566129602005010279511005016154293547348605022188636611738724151299393749320964178957896021283780794330554008048745965494615813769320629768975090011163244769268239758738556883610392795804185219790778718324571722772288278716116747604692211358025710274942008048513165099513115904788369620448757525114456995652841249030200903116184255293968173278558812922734795540462296637387775635584272861737131543930806724882450266177702869414162039697307449732728383997165677637944057032698538213297048439565816286994390856660358663653384616885662117725862123385974945944057535267967921088013322875563865267177987658226147220812175707994609789196852599668166503730727205102917084429275267882611595998289071233302535640767075157623956543786318189549895142077472509855013637910285011326059970003370284417452618002362153848833719908755400723961427311518137149341739014526024472624130227311927698600655524699339864484462485006797824963776750745288495149595839788311204350956835331534731642945196281895642043785988740936911206030968388514964577744226 (Segs.bytes 766464 0 (Segs.bytes 512 72057594037927936 (Segs.bytes 2302976 0 Segs.nil)))) 300 Bool.false)),
  (Bp.enc 1, (Sim.Blk.map [(Prod.mk (Sim.CV.int Go.IntKind.i64 (Int.ofNat 1501)) (Prod.mk (Sim.CV.int Go.IntKind.i64 (Int.ofNat 0)) 0))] 1)),
  (Bp.enc 2, (Sim.Blk.cells (Segs.one (Sim.CV.slice (Bp.enc 0) 0 6000 6000 0) (Segs.one Sim.CV.nilslice (Segs.one (Sim.CV.map (Bp.enc 608)) (Segs.one (Sim.CV.int Go.IntKind.i64 (Int.ofNat 8)) (Segs.one (Sim.CV.bool Bool.false) (Segs.one (Sim.CV.bool Bool.false) (Segs.one (Sim.CV.int Go.IntKind.i64 (Int.negSucc 7)) (Segs.one Sim.CV.nilslice Segs.nil)))))))) 153 Bool.false)),
  (Bp.enc 3, (Sim.Blk.cells (Segs.one (Sim.CV.ptr (Bp.enc 2) 0) (Segs.one (Sim.CV.ptr (Bp.enc 4) 0) (Segs.one (Sim.CV.int Go.IntKind.i64 (Int.ofNat 1501)) (Segs.one (Sim.CV.int Go.IntKind.i64 (Int.ofNat 4499)) (Segs.one (Sim.CV.map (Bp.enc 5)) (Segs.one (Sim.CV.map (Bp.enc 613)) (Segs.one (Sim.CV.int Go.IntKind.i64 (Int.ofNat 1)) (Segs.one (Sim.CV.int Go.IntKind.i64 (Int.ofNat 2)) (Segs.one (Sim.CV.int Go.IntKind.i64 (Int.ofNat 0)) (Segs.one (Sim.CV.int Go.IntKind.i64 (Int.ofNat 0)) (Segs.one (Sim.CV.int Go.IntKind.i64 (Int.ofNat 1)) (Segs.one (Sim.CV.int Go.IntKind.i64 (Int.ofNat 2)) (Segs.one (Sim.CV.int Go.IntKind.i64 (Int.ofNat 0)) (Segs.one (Sim.CV.int Go.IntKind.i64 (Int.ofNat 0)) (Segs.one (Sim.CV.map (Bp.enc 7)) (Segs.one (Sim.CV.map (Bp.enc 614)) Segs.nil)))))))))))))))) 220 Bool.false)),
  (Bp.enc 4, (Sim.Blk.cells (Segs.one (Sim.CV.ptr (Bp.enc 2) 0) (Segs.one (Sim.CV.int Go.IntKind.i64 (Int.ofNat 1)) (Segs.one (Sim.CV.int Go.IntKind.i64 (Int.ofNat 1500)) (Segs.one (Sim.CV.int Go.IntKind.i64 (Int.ofNat 0)) (Segs.one (Sim.CV.int Go.IntKind.i64 (Int.ofNat 2)) (Segs.one (Sim.CV.int Go.IntKind.i64 (Int.ofNat 2)) Segs.nil)))))) 306 Bool.false)),
  (Bp.enc 5, (Sim.Blk.lmap [(Prod.mk (Sim.CV.int Go.IntKind.i64 (Int.ofNat 0)) (Prod.mk (Sim.CV.agg (Segs.bytes 512 144115188092633088 Segs.nil)) 0)), (Prod.mk (Sim.CV.int Go.IntKind.i64 (Int.ofNat 1)) (Prod.mk (Sim.CV.agg (Segs.bytes 512 2136019883127978940977202813354388279467362908369909322194445023928539540992184014768859096154881 Segs.nil)) 0))])),
  (Bp.enc 6, (Sim.Blk.map [(Prod.mk (Sim.CV.int Go.IntKind.i64 (Int.ofNat 1)) (Prod.mk (Sim.CV.agg (Segs.bytes 512 20282721506531651770760965521665 Segs.nil)) 0))] 2)),
  (Bp.enc 7, (Sim.Blk.map List.nil 0)),
  (Bp.enc 8, (Sim.Blk.map [(Prod.mk (Sim.CV.int Go.IntKind.i64 (Int.ofNat 1)) (Prod.mk (Sim.CV.bool Bool.true) 0))] 1)),
  (Bp.enc 9, (Sim.Blk.map [(Prod.mk (Sim.CV.int Go.IntKind.i64 (Int.ofNat 2)) (Prod.mk (Sim.CV.int Go.IntKind.i64 (Int.ofNat 0)) 0))] 1)),
  (Bp.enc 10, (Sim.Blk.cells (Segs.one (Sim.CV.ptr (Bp.enc 3) 0) Segs.nil) 171 Bool.false)),
  (Bp.enc 11, (Sim.Blk.cells (Segs.one (Sim.CV.ptr (Bp.enc 10) 0) (Segs.one (Sim.CV.int Go.IntKind.i64 (Int.ofNat 750)) Segs.nil)) 95 Bool.false)),
  (Bp.enc 12, (Sim.Blk.cells (Segs.one (Sim.CV.ptr (Bp.enc 11) 0) (Segs.one (Sim.CV.int Go.IntKind.i64 (Int.ofNat 1)) (Segs.one (Sim.CV.int Go.IntKind.i64 (Int.ofNat 8)) (Segs.one (Sim.CV.int Go.IntKind.i64 (Int.ofNat 1)) (Segs.one (Sim.CV.int Go.IntKind.i64 (Int.ofNat 0)) (Segs.bytes 1 2 (Segs.one (Sim.CV.int Go.IntKind.i64 (Int.ofNat 1)) (Segs.one (Sim.CV.int Go.IntKind.i64 (Int.ofNat 1)) (Segs.one (Sim.CV.int Go.IntKind.i64 (Int.ofNat 0)) (Segs.one (Sim.CV.int Go.IntKind.i64 (Int.ofNat 1)) Segs.nil)))))))))) 87 Bool.false)),
  (Bp.enc 13, (Sim.Blk.cells (Segs.one (Sim.CV.int Go.IntKind.i64 (Int.ofNat 8)) (Segs.one (Sim.CV.str 0 0) Segs.nil)) 166 Bool.false)),
  (Bp.enc 14, (Sim.Blk.cells (Segs.one (Sim.CV.int Go.IntKind.i64 (Int.ofNat 8)) (Segs.one (Sim.CV.str 0 0) Segs.nil)) 166 Bool.false)),
  (Bp.enc 15, (Sim.Blk.cells (Segs.one (Sim.CV.int Go.IntKind.i64 (Int.ofNat 8)) (Segs.one (Sim.CV.str 0 0) Segs.nil)) 166 Bool.false)),
  (Bp.enc 16, (Sim.Blk.cells (Segs.one (Sim.CV.int Go.IntKind.i64 (Int.ofNat 8)) (Segs.one (Sim.CV.str 0 0) Segs.nil)) 166 Bool.false)),
  (Bp.enc 17, (Sim.Blk.cells (Segs.one (Sim.CV.int Go.IntKind.i64 (Int.ofNat 8)) (Segs.one (Sim.CV.str 0 0) Segs.nil)) 166 Bool.false)),
  (Bp.enc 19, (Sim.Blk.cells (Segs.one (Sim.CV.int Go.IntKind.i64 (Int.ofNat 9)) (Segs.one (Sim.CV.str 0 0) Segs.nil)) 166 Bool.false)),
  (Bp.enc 21, (Sim.Blk.cells (Segs.one (Sim.CV.int Go.IntKind.i64 (Int.ofNat 8)) (Segs.one (Sim.CV.str 0 0) Segs.nil)) 166 Bool.false)),
  (Bp.enc 23, (Sim.Blk.cells (Segs.one (Sim.CV.int Go.IntKind.i64 (Int.ofNat 0)) Segs.nil) 27 Bool.false)),
  (Bp.enc 24, (Sim.Blk.cells (Segs.one (Sim.CV.int Go.IntKind.i64 (Int.ofNat 1)) (Segs.one (Sim.CV.int Go.IntKind.i64 (Int.ofNat 1)) (Segs.one (Sim.CV.int Go.IntKind.i64 (Int.ofNat 0)) Segs.nil))) 37 Bool.false)),
  (Bp.enc 25, (Sim.Blk.cells (Segs.one (Sim.CV.int Go.IntKind.i64 (Int.ofNat 1)) (Segs.one (Sim.CV.int Go.IntKind.i64 (Int.ofNat 1)) (Segs.one (Sim.CV.int Go.IntKind.i64 (Int.ofNat 0)) Segs.nil))) 37 Bool.false)),
  (Bp.enc 26, (Sim.Blk.cells (Segs.one (Sim.CV.int Go.IntKind.i64 (Int.ofNat 1)) (Segs.one (Sim.CV.int Go.IntKind.i64 (Int.ofNat 1)) (Segs.one (Sim.CV.int Go.IntKind.i64 (Int.ofNat 0)) Segs.nil))) 37 Bool.false)),
  (Bp.enc 27, (Sim.Blk.cells (Segs.one (Sim.CV.int Go.IntKind.i64 (Int.ofNat 1)) (Segs.one (Sim.CV.int Go.IntKind.i64 (Int.ofNat 0)) (Segs.bytes 1 2 (Segs.one (Sim.CV.int Go.IntKind.i64 (Int.ofNat 1)) (Segs.one (Sim.CV.int Go.IntKind.i64 (Int.ofNat 1)) (Segs.one (Sim.CV.int Go.IntKind.i64 (Int.ofNat 0)) Segs.nil)))))) 59 Bool.false)),
  (Bp.enc 28, (Sim.Blk.cells (Segs.one (Sim.CV.int Go.IntKind.i64 (Int.ofNat 8)) (Segs.one (Sim.CV.str 1 115) (Segs.one (Sim.CV.str 7 281479305232641) (Segs.one (Sim.CV.bool Bool.false) Segs.nil)))) 32 Bool.false)),
  (Bp.enc 29, (Sim.Blk.cells (Segs.one (Sim.CV.int Go.IntKind.i64 (Int.ofNat 1)) (Segs.one (Sim.CV.int Go.IntKind.i64 (Int.ofNat 0)) (Segs.bytes 1 2 (Segs.one (Sim.CV.int Go.IntKind.i64 (Int.ofNat 1)) (Segs.one (Sim.CV.int Go.IntKind.i64 (Int.ofNat 1)) (Segs.one (Sim.CV.int Go.IntKind.i64 (Int.ofNat 0)) Segs.nil)))))) 59 Bool.false)),
  (Bp.enc 30, (Sim.Blk.cells (Segs.one (Sim.CV.int Go.IntKind.i64 (Int.ofNat 8)) (Segs.one (Sim.CV.str 1 115) (Segs.one (Sim.CV.str 7 281479305232641) (Segs.one (Sim.CV.bool Bool.false) Segs.nil)))) 32 Bool.false)),
  (Bp.enc 31, (Sim.Blk.cells (Segs.one (Sim.CV.int Go.IntKind.i64 (Int.ofNat 1)) (Segs.one (Sim.CV.int Go.IntKind.i64 (Int.ofNat 1)) (Segs.one (Sim.CV.int Go.IntKind.i64 (Int.ofNat 0)) (Segs.one (Sim.CV.int Go.IntKind.i64 (Int.ofNat 2)) (Segs.one (Sim.CV.int Go.IntKind.i64 (Int.ofNat 1)) (Segs.one (Sim.CV.int Go.IntKind.i64 (Int.ofNat 0)) (Segs.one (Sim.CV.int Go.IntKind.i64 (Int.ofNat 1)) Segs.nil))))))) 3 Bool.false)),
  (Bp.enc 139, (Sim.Blk.map [(Prod.mk (Sim.CV.int Go.IntKind.i64 (Int.ofNat 3)) (Prod.mk (Sim.CV.int Go.IntKind.i64 (Int.ofNat 0)) 0))] 1)),
  (Bp.enc 144, (Sim.Blk.map [(Prod.mk (Sim.CV.int Go.IntKind.i64 (Int.ofNat 1)) (Prod.mk (Sim.CV.agg (Segs.bytes 512 2136019883127978940977202813354388279467362908369909322194445023928539540992184014768859096154881 Segs.nil)) 0))] 2)),
  (Bp.enc 145, (Sim.Blk.map [(Prod.mk (Sim.CV.int Go.IntKind.i64 (Int.ofNat 1)) (Prod.mk (Sim.CV.bool Bool.true) 0))] 1)),
  (Bp.enc 147, (Sim.Blk.cells (Segs.one (Sim.CV.int Go.IntKind.i64 (Int.ofNat 9)) (Segs.one (Sim.CV.int Go.IntKind.i64 (Int.ofNat 0)) (Segs.one (Sim.CV.int Go.IntKind.i64 (Int.ofNat 1048576)) (Segs.one (Sim.CV.int Go.IntKind.i64 (Int.ofNat 2097151)) (Segs.one (Sim.CV.map (Bp.enc 148)) (Segs.one (Sim.CV.map (Bp.enc 149)) Segs.nil)))))) 192 Bool.false)),
  (Bp.enc 148, (Sim.Blk.map List.nil 0)),
  (Bp.enc 149, (Sim.Blk.map List.nil 0)),
  (Bp.enc 150, (Sim.Blk.cells (Segs.one (Sim.CV.ptr (Bp.enc 12) 0) (Segs.one (Sim.CV.ptr (Bp.enc 147) 0) (Segs.one (Sim.CV.int Go.IntKind.i64 (Int.ofNat 1)) (Segs.one (Sim.CV.int Go.IntKind.i64 (Int.ofNat 0)) (Segs.one (Sim.CV.int Go.IntKind.i64 (Int.ofNat 2)) (Segs.one Sim.CV.nilslice (Segs.one Sim.CV.nilslice Segs.nil))))))) 129 Bool.false)),
  (Bp.enc 608, (Sim.Blk.map List.nil 0)),
  (Bp.enc 613, (Sim.Blk.map List.nil 0)),
  (Bp.enc 614, (Sim.Blk.map List.nil 0))]
noncomputable def sW2 : Snap := ⟨[(Sim.CV.ptr (Bp.enc 12) 0), (Sim.CV.int Go.IntKind.i64 (Int.ofNat 202)), (Sim.CV.int Go.IntKind.i64 (Int.ofNat 1)), (Sim.CV.agg (Segs.bytes 1 2 (Segs.one (Sim.CV.str 1 97) (Segs.one (Sim.CV.str 1 120) (Segs.one (Sim.CV.str 0 0) (Segs.one (Sim.CV.bool Bool.false) Segs.nil))))))], Bp.enc 151, sW2pre, (Sim.CV.tuple (Segs.one (Sim.CV.agg (Segs.bytes 1 1 (Segs.one (Sim.CV.bool Bool.false) (Segs.one (Sim.CV.str 0 0) Segs.nil)))) (Segs.one (Sim.CV.int Go.IntKind.i64 (Int.ofNat 0)) Segs.nil))), Bp.enc 615, sW2post⟩


noncomputable def I5w : IntX := fun f => bsel (Nat.beq f 11) (snapI sW2 (funXK P0 11)) (I4w f)
noncomputable def callU : CallF := runX P0 I5w 100
noncomputable def I6w : IntX := fun f => bsel (Nat.beq f 26) (some (saysG (.bool true))) (I4w f)
noncomputable def callV : CallF := runX P0 I6w 100
end Sim
