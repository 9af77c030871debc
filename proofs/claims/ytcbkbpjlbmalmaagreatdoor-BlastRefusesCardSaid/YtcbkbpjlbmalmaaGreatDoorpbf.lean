/-
  The closed facts of the row, one by one. (Merged by program out of 1 texts.)
-/
import Derived.Test.YtcbkbpjlbmalmaaGreatDoorpbe
namespace Go.Proofs.YtcbkbpjlbmalmaaGreatDoor
open Go
theorem Mu{a b:Bool}(h:a=true)(k:b=true):(a&&b)=true:=by rw[h,k];rfl
theorem cf0:(Rows.blastRefusesRow.wf (OpenSpec.ofChange Rows.blastRefusesSpec))=true:=by kernel_rfl
theorem cf1:(laidOutB Tryz.pinned.checked.prog)=true:=by kernel_rfl
theorem cf2:(mapsRowed Tryz.pinned.checked.prog)=true:=by kernel_rfl
theorem cf3:(Tryz.f7.params.all (Tryz.pinned.checked.prog.readableRec ·))=true:=by kernel_rfl
theorem cf4:(namedTie Tryz.pinned.checked.prog Rows.blastRefusesRow.named Rows.blastRefusesSpec.vars)=true:=by kernel_rfl
theorem cf5:((Rows.blastRefusesRow.stops==[]))=true:=by kernel_rfl
theorem cf6:((Tryz.pinned.checked.prog.stops==[]))=true:=by kernel_rfl
theorem cf7:((Rows.blastRefusesRow.knobs==[]))=true:=by kernel_rfl
theorem cf8:((Tryz.pinned.checked.prog.stopKnobs==[]))=true:=by kernel_rfl
theorem cf9:((Rows.blastRefusesRow.inPlace==Tryz.pinned.checked.prog.inPlace 7))=true:=by kernel_rfl
theorem Bah:((Rows.blastRefusesRow.unfollowed==Tryz.pinned.checked.prog.unfollowed 7))=true:=by kernel_rfl
theorem Bag:((Rows.blastRefusesRow.recurses==Tryz.pinned.checked.prog.recurses 7))=true:=by kernel_rfl
theorem Baf:((Rows.blastRefusesRow.named==Tryz.pinned.checked.prog.varsNamed 7))=true:=by kernel_rfl
theorem Bae:((Rows.blastRefusesRow.maps==(Tryz.f7.params.toList++Rows.blastRefusesSpec.plain.varTypes Tryz.pinned.checked.prog).any (Tryz.pinned.checked.prog.mapsRec ·)))=true:=by kernel_rfl
theorem Bad:((Rows.blastRefusesRow.ifaces==(Tryz.f7.params.toList++Rows.blastRefusesSpec.plain.varTypes Tryz.pinned.checked.prog).any (Tryz.pinned.checked.prog.ifacesRec ·)))=true:=by kernel_rfl
theorem Bac:((Rows.blastRefusesRow.mapsOut==Tryz.pinned.checked.prog.mapsAmong Tryz.f7.resultTypes.toList))=true:=by kernel_rfl
theorem Bab:((Rows.blastRefusesRow.loops==(Tryz.f7.params.toList++Rows.blastRefusesSpec.plain.varTypes Tryz.pinned.checked.prog).any (Tryz.pinned.checked.prog.loopsFrom ·)))=true:=by kernel_rfl
theorem Baa:((Rows.blastRefusesRow.wideKeys==(Tryz.f7.params.toList++Rows.blastRefusesSpec.plain.varTypes Tryz.pinned.checked.prog++Tryz.f7.resultTypes.toList).any (Tryz.pinned.checked.prog.wideKeysFrom ·)))=true:=by kernel_rfl
theorem A99:(Rows.blastRefusesSpec.vars.all (Tryz.pinned.checked.prog.varReadable ·))=true:=by kernel_rfl
theorem A98:(Tryz.f7.resultTypes.all (λt=>Tryz.pinned.checked.prog.readableRec t&&decide (t<Tryz.pinned.checked.prog.types.size)))=true:=by kernel_rfl
theorem A97:((Rows.blastRefusesRow.ifacesOut==Tryz.f7.resultTypes.toList.any (Tryz.pinned.checked.prog.ifacesRec ·)))=true:=by kernel_rfl
theorem A96:((Rows.blastRefusesRow.loopsOut==Tryz.f7.resultTypes.toList.any (Tryz.pinned.checked.prog.loopsFrom ·)))=true:=by kernel_rfl
theorem A95:((Rows.blastRefusesRow.plainKeys==Tryz.pinned.checked.prog.plainKeys))=true:=by kernel_rfl
theorem A94:(Rows.blastRefusesRow.shortTexts.isNone)=true:=by kernel_rfl
theorem A93:(Tryz.pinned.checked.prog.stopsHeard)=true:=by kernel_rfl
theorem A92:(Tryz.pinned.checked.prog.mayEnter)=true:=by kernel_rfl
theorem A91:((Rows.blastRefusesRow.lifted==Tryz.pinned.checked.prog.liftsFinal))=true:=by kernel_rfl
theorem A90:((Tryz.pinned.checked.prog.make==some Rows.blastRefusesRow.make))=true:=by kernel_rfl
theorem A9z:((Rows.blastRefusesRow.kinds==(if Rows.blastRefusesRow.domain.isEmpty then [] else Tryz.f7.params.toList.map λt=>match Tryz.pinned.checked.prog.underlying t with|some (.int k)=>some k|_=>none)))=true:=by kernel_rfl
theorem A9y:((Rows.blastRefusesRow.pinned==Rows.blastRefusesRow.pinnedBy))=true:=by kernel_rfl
theorem A9x:((Rows.blastRefusesRow.veiled==(Tryz.f7.params.toList++Rows.blastRefusesSpec.plain.varTypes Tryz.pinned.checked.prog++Tryz.f7.resultTypes.toList).any (Tryz.pinned.checked.prog.veiledRec ·)))=true:=by kernel_rfl
theorem A9w:(Rows.blastRefusesRow.veiledFits Tryz.pinned.checked.prog Tryz.f7.params.toList (Tryz.f7.params.toList++Rows.blastRefusesSpec.plain.varTypes Tryz.pinned.checked.prog++Tryz.f7.resultTypes.toList))=true:=by kernel_rfl
end Go.Proofs.YtcbkbpjlbmalmaaGreatDoor
