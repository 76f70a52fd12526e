import Derived.Test.YtckodcbgpffimaaGreatDoorRows
import Derived.JoinedOf
import Derived.KernelRfl
namespace Go.Proofs.YtckodcbgpffimaaGreatDoor.shardSwept
open Go Go.Proofs
noncomputable abbrev jP:Program:=Tryz.pinned.checked.prog
noncomputable abbrev jc:OpenClaim:=Rows.shardSweptRow
noncomputable abbrev js:ChangeSpec:=Rows.shardSweptSpec
noncomputable abbrev jf:Func:=Tryz.f3
theorem band {a b:Bool}(ha:a=true)(hb:b=true):(a&&b)=true:=by rw[ha,hb];rfl
theorem j0:(jc.wf (OpenSpec.ofChange js))=true:=by kernel_rfl
theorem j1:(laidOutB jP)=true:=by kernel_rfl
theorem j2:(mapsRowed jP)=true:=by kernel_rfl
theorem j3:(jf.params.all (jP.readableRec ·))=true:=by kernel_rfl
theorem j4:(namedTie jP jc.named js.vars)=true:=by kernel_rfl
theorem j5:((jc.stops==[]))=true:=by kernel_rfl
theorem j6:((jP.stops==[]))=true:=by kernel_rfl
theorem j7:((jc.knobs==[]))=true:=by kernel_rfl
theorem j8:((jP.stopKnobs==[]))=true:=by kernel_rfl
theorem j9:((jc.inPlace==jP.inPlace 3))=true:=by kernel_rfl
theorem j10:((jc.unfollowed==jP.unfollowed 3))=true:=by kernel_rfl
theorem j11:((jc.recurses==jP.recurses 3))=true:=by kernel_rfl
theorem j12:((jc.named==jP.varsNamed 3))=true:=by kernel_rfl
theorem j13:((jc.maps==(jf.params.toList++js.plain.varTypes jP).any (jP.mapsRec ·)))=true:=by kernel_rfl
theorem j14:((jc.ifaces==(jf.params.toList++js.plain.varTypes jP).any (jP.ifacesRec ·)))=true:=by kernel_rfl
theorem j15:((jc.mapsOut==jP.mapsAmong jf.resultTypes.toList))=true:=by kernel_rfl
theorem j16:((jc.loops==(jf.params.toList++js.plain.varTypes jP).any (jP.loopsFrom ·)))=true:=by kernel_rfl
theorem j17:((jc.wideKeys==(jf.params.toList++js.plain.varTypes jP++jf.resultTypes.toList).any (jP.wideKeysFrom ·)))=true:=by kernel_rfl
theorem j18:(js.vars.all (jP.varReadable ·))=true:=by kernel_rfl
theorem j19:(jf.resultTypes.all (fun t=>jP.readableRec t&&decide (t<jP.types.size)))=true:=by kernel_rfl
theorem j20:((jc.ifacesOut==jf.resultTypes.toList.any (jP.ifacesRec ·)))=true:=by kernel_rfl
theorem j21:((jc.loopsOut==jf.resultTypes.toList.any (jP.loopsFrom ·)))=true:=by kernel_rfl
theorem j22:((jc.plainKeys==jP.plainKeys))=true:=by kernel_rfl
theorem j23:(jc.shortTexts.isNone)=true:=by kernel_rfl
theorem j24:(jP.stopsHeard)=true:=by kernel_rfl
theorem j25:(jP.mayEnter)=true:=by kernel_rfl
theorem j26:((jc.lifted==jP.liftsFinal))=true:=by kernel_rfl
theorem j27:((jP.make==some jc.make))=true:=by kernel_rfl
theorem j28:((jc.kinds==(if jc.domain.isEmpty then []else jf.params.toList.map fun t=>match jP.underlying t with|some (.int k)=>some k|_=>none)))=true:=by kernel_rfl
theorem j29:((jc.pinned==jc.pinnedBy))=true:=by kernel_rfl
theorem j30:((jc.veiled==(jf.params.toList++js.plain.varTypes jP++jf.resultTypes.toList).any (jP.veiledRec ·)))=true:=by kernel_rfl
theorem j31:(jc.veiledFits jP jf.params.toList (jf.params.toList++js.plain.varTypes jP++jf.resultTypes.toList))=true:=by kernel_rfl
set_option maxRecDepth 100000 in
theorem closed:joinedFacts jP 3 jf js jc=true:=by
 unfold joinedFacts;exact (band (band (band (band (band (band (band (band (band (band (band (band (band (band (band (band (band (band (band (band (band (band (band (band (band (band (band (band (band (band (band j0 j1) j2) j3) j4) j5) j6) j7) j8) j9) j10) j11) j12) j13) j14) j15) j16) j17) j18) j19) j20) j21) j22) j23) j24) j25) j26) j27) j28) j29) j30) j31)
end Go.Proofs.YtckodcbgpffimaaGreatDoor.shardSwept
