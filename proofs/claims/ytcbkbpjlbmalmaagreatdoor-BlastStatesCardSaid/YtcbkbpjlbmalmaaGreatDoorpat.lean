/-
  The closed facts of the row of BlastStates, one by one. (Merged by program out of 1 texts.)
-/
import Derived.Test.YtcbkbpjlbmalmaaGreatDoorpas
namespace Go.Proofs.YtcbkbpjlbmalmaaGreatDoor
open Go
theorem Ek{a b:Bool}(h:a=true)(k:b=true):(a&&b)=true:=by rw[h,k];rfl
theorem cs0:(Rows.blastStatesRow.wf (OpenSpec.ofChange Rows.blastStatesSpec))=true:=by kernel_rfl
theorem cs1:(laidOutB Tryz.pinned.checked.prog)=true:=by kernel_rfl
theorem cs2:(mapsRowed Tryz.pinned.checked.prog)=true:=by kernel_rfl
theorem cs3:(Tryz.f5.params.all (Tryz.pinned.checked.prog.readableRec ·))=true:=by kernel_rfl
theorem cs4:(namedTie Tryz.pinned.checked.prog Rows.blastStatesRow.named Rows.blastStatesSpec.vars)=true:=by kernel_rfl
theorem cs5:((Rows.blastStatesRow.stops==[]))=true:=by kernel_rfl
theorem cs6:((Tryz.pinned.checked.prog.stops==[]))=true:=by kernel_rfl
theorem cs7:((Rows.blastStatesRow.knobs==[]))=true:=by kernel_rfl
theorem cs8:((Tryz.pinned.checked.prog.stopKnobs==[]))=true:=by kernel_rfl
theorem cs9:((Rows.blastStatesRow.inPlace==Tryz.pinned.checked.prog.inPlace 5))=true:=by kernel_rfl
theorem A4d:((Rows.blastStatesRow.unfollowed==Tryz.pinned.checked.prog.unfollowed 5))=true:=by kernel_rfl
theorem A4c:((Rows.blastStatesRow.recurses==Tryz.pinned.checked.prog.recurses 5))=true:=by kernel_rfl
theorem A4b:((Rows.blastStatesRow.named==Tryz.pinned.checked.prog.varsNamed 5))=true:=by kernel_rfl
theorem A4a:((Rows.blastStatesRow.maps==(Tryz.f5.params.toList++Rows.blastStatesSpec.plain.varTypes Tryz.pinned.checked.prog).any (Tryz.pinned.checked.prog.mapsRec ·)))=true:=by kernel_rfl
theorem A39:((Rows.blastStatesRow.ifaces==(Tryz.f5.params.toList++Rows.blastStatesSpec.plain.varTypes Tryz.pinned.checked.prog).any (Tryz.pinned.checked.prog.ifacesRec ·)))=true:=by kernel_rfl
theorem A38:((Rows.blastStatesRow.mapsOut==Tryz.pinned.checked.prog.mapsAmong Tryz.f5.resultTypes.toList))=true:=by kernel_rfl
theorem A37:((Rows.blastStatesRow.loops==(Tryz.f5.params.toList++Rows.blastStatesSpec.plain.varTypes Tryz.pinned.checked.prog).any (Tryz.pinned.checked.prog.loopsFrom ·)))=true:=by kernel_rfl
theorem A36:((Rows.blastStatesRow.wideKeys==(Tryz.f5.params.toList++Rows.blastStatesSpec.plain.varTypes Tryz.pinned.checked.prog++Tryz.f5.resultTypes.toList).any (Tryz.pinned.checked.prog.wideKeysFrom ·)))=true:=by kernel_rfl
theorem A35:(Rows.blastStatesSpec.vars.all (Tryz.pinned.checked.prog.varReadable ·))=true:=by kernel_rfl
theorem A34:(Tryz.f5.resultTypes.all (λt=>Tryz.pinned.checked.prog.readableRec t&&decide (t<Tryz.pinned.checked.prog.types.size)))=true:=by kernel_rfl
theorem A33:((Rows.blastStatesRow.ifacesOut==Tryz.f5.resultTypes.toList.any (Tryz.pinned.checked.prog.ifacesRec ·)))=true:=by kernel_rfl
theorem A32:((Rows.blastStatesRow.loopsOut==Tryz.f5.resultTypes.toList.any (Tryz.pinned.checked.prog.loopsFrom ·)))=true:=by kernel_rfl
theorem A31:((Rows.blastStatesRow.plainKeys==Tryz.pinned.checked.prog.plainKeys))=true:=by kernel_rfl
theorem A30:(Rows.blastStatesRow.shortTexts.isNone)=true:=by kernel_rfl
theorem A3z:(Tryz.pinned.checked.prog.stopsHeard)=true:=by kernel_rfl
theorem A3y:(Tryz.pinned.checked.prog.mayEnter)=true:=by kernel_rfl
theorem A3x:((Rows.blastStatesRow.lifted==Tryz.pinned.checked.prog.liftsFinal))=true:=by kernel_rfl
theorem A3w:((Tryz.pinned.checked.prog.make==some Rows.blastStatesRow.make))=true:=by kernel_rfl
theorem A3v:((Rows.blastStatesRow.kinds==(if Rows.blastStatesRow.domain.isEmpty then [] else Tryz.f5.params.toList.map λt=>match Tryz.pinned.checked.prog.underlying t with|some (.int k)=>some k|_=>none)))=true:=by kernel_rfl
theorem A3u:((Rows.blastStatesRow.pinned==Rows.blastStatesRow.pinnedBy))=true:=by kernel_rfl
theorem A3t:((Rows.blastStatesRow.veiled==(Tryz.f5.params.toList++Rows.blastStatesSpec.plain.varTypes Tryz.pinned.checked.prog++Tryz.f5.resultTypes.toList).any (Tryz.pinned.checked.prog.veiledRec ·)))=true:=by kernel_rfl
theorem A3s:(Rows.blastStatesRow.veiledFits Tryz.pinned.checked.prog Tryz.f5.params.toList (Tryz.f5.params.toList++Rows.blastStatesSpec.plain.varTypes Tryz.pinned.checked.prog++Tryz.f5.resultTypes.toList))=true:=by kernel_rfl
end Go.Proofs.YtcbkbpjlbmalmaaGreatDoor
