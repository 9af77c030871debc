/-
  The closed facts of the row of BlastParts, one by one. (Merged by program out of 1 texts.)
-/
import Derived.Test.YtcbkbpjlbmalmaaGreatDoorpak
namespace Go.Proofs.YtcbkbpjlbmalmaaGreatDoor
open Go
theorem Ef{a b:Bool}(h:a=true)(k:b=true):(a&&b)=true:=by rw[h,k];rfl
theorem cp0:(Rows.blastPartsRow.wf (OpenSpec.ofChange Rows.blastPartsSpec))=true:=by kernel_rfl
theorem cp1:(laidOutB Tryz.pinned.checked.prog)=true:=by kernel_rfl
theorem cp2:(mapsRowed Tryz.pinned.checked.prog)=true:=by kernel_rfl
theorem cp3:(Tryz.f6.params.all (Tryz.pinned.checked.prog.readableRec ·))=true:=by kernel_rfl
theorem cp4:(namedTie Tryz.pinned.checked.prog Rows.blastPartsRow.named Rows.blastPartsSpec.vars)=true:=by kernel_rfl
theorem cp5:((Rows.blastPartsRow.stops==[]))=true:=by kernel_rfl
theorem cp6:((Tryz.pinned.checked.prog.stops==[]))=true:=by kernel_rfl
theorem cp7:((Rows.blastPartsRow.knobs==[]))=true:=by kernel_rfl
theorem cp8:((Tryz.pinned.checked.prog.stopKnobs==[]))=true:=by kernel_rfl
theorem cp9:((Rows.blastPartsRow.inPlace==Tryz.pinned.checked.prog.inPlace 6))=true:=by kernel_rfl
theorem A5d:((Rows.blastPartsRow.unfollowed==Tryz.pinned.checked.prog.unfollowed 6))=true:=by kernel_rfl
theorem A5c:((Rows.blastPartsRow.recurses==Tryz.pinned.checked.prog.recurses 6))=true:=by kernel_rfl
theorem A5b:((Rows.blastPartsRow.named==Tryz.pinned.checked.prog.varsNamed 6))=true:=by kernel_rfl
theorem A5a:((Rows.blastPartsRow.maps==(Tryz.f6.params.toList++Rows.blastPartsSpec.plain.varTypes Tryz.pinned.checked.prog).any (Tryz.pinned.checked.prog.mapsRec ·)))=true:=by kernel_rfl
theorem A49:((Rows.blastPartsRow.ifaces==(Tryz.f6.params.toList++Rows.blastPartsSpec.plain.varTypes Tryz.pinned.checked.prog).any (Tryz.pinned.checked.prog.ifacesRec ·)))=true:=by kernel_rfl
theorem A48:((Rows.blastPartsRow.mapsOut==Tryz.pinned.checked.prog.mapsAmong Tryz.f6.resultTypes.toList))=true:=by kernel_rfl
theorem A47:((Rows.blastPartsRow.loops==(Tryz.f6.params.toList++Rows.blastPartsSpec.plain.varTypes Tryz.pinned.checked.prog).any (Tryz.pinned.checked.prog.loopsFrom ·)))=true:=by kernel_rfl
theorem A46:((Rows.blastPartsRow.wideKeys==(Tryz.f6.params.toList++Rows.blastPartsSpec.plain.varTypes Tryz.pinned.checked.prog++Tryz.f6.resultTypes.toList).any (Tryz.pinned.checked.prog.wideKeysFrom ·)))=true:=by kernel_rfl
theorem A45:(Rows.blastPartsSpec.vars.all (Tryz.pinned.checked.prog.varReadable ·))=true:=by kernel_rfl
theorem A44:(Tryz.f6.resultTypes.all (λt=>Tryz.pinned.checked.prog.readableRec t&&decide (t<Tryz.pinned.checked.prog.types.size)))=true:=by kernel_rfl
theorem A43:((Rows.blastPartsRow.ifacesOut==Tryz.f6.resultTypes.toList.any (Tryz.pinned.checked.prog.ifacesRec ·)))=true:=by kernel_rfl
theorem A42:((Rows.blastPartsRow.loopsOut==Tryz.f6.resultTypes.toList.any (Tryz.pinned.checked.prog.loopsFrom ·)))=true:=by kernel_rfl
theorem A41:((Rows.blastPartsRow.plainKeys==Tryz.pinned.checked.prog.plainKeys))=true:=by kernel_rfl
theorem A40:(Rows.blastPartsRow.shortTexts.isNone)=true:=by kernel_rfl
theorem A4z:(Tryz.pinned.checked.prog.stopsHeard)=true:=by kernel_rfl
theorem A4y:(Tryz.pinned.checked.prog.mayEnter)=true:=by kernel_rfl
theorem A4x:((Rows.blastPartsRow.lifted==Tryz.pinned.checked.prog.liftsFinal))=true:=by kernel_rfl
theorem A4w:((Tryz.pinned.checked.prog.make==some Rows.blastPartsRow.make))=true:=by kernel_rfl
theorem A4v:((Rows.blastPartsRow.kinds==(if Rows.blastPartsRow.domain.isEmpty then [] else Tryz.f6.params.toList.map λt=>match Tryz.pinned.checked.prog.underlying t with|some (.int k)=>some k|_=>none)))=true:=by kernel_rfl
theorem A4u:((Rows.blastPartsRow.pinned==Rows.blastPartsRow.pinnedBy))=true:=by kernel_rfl
theorem A4t:((Rows.blastPartsRow.veiled==(Tryz.f6.params.toList++Rows.blastPartsSpec.plain.varTypes Tryz.pinned.checked.prog++Tryz.f6.resultTypes.toList).any (Tryz.pinned.checked.prog.veiledRec ·)))=true:=by kernel_rfl
theorem A4s:(Rows.blastPartsRow.veiledFits Tryz.pinned.checked.prog Tryz.f6.params.toList (Tryz.f6.params.toList++Rows.blastPartsSpec.plain.varTypes Tryz.pinned.checked.prog++Tryz.f6.resultTypes.toList))=true:=by kernel_rfl
end Go.Proofs.YtcbkbpjlbmalmaaGreatDoor
