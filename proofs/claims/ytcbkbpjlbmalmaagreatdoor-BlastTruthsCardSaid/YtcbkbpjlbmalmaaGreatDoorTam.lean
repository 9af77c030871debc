/-
  The closed facts of the row of BlastTruths, one by one. (Merged by program out of 1 texts.)
-/
import Derived.Test.YtcbkbpjlbmalmaaGreatDoorCards
import Derived.Test.YtcbkbpjlbmalmaaGreatDoorTie
import Derived.Test.YtcbkbpjlbmalmaaGreatDoorChecked
import Derived.LaidMore
import Derived.SevenTiedAt
namespace Go.Proofs.YtcbkbpjlbmalmaaGreatDoor
open Go
theorem Qg{a b:Bool}(h:a=true)(k:b=true):(a&&b)=true:=by rw[h,k];rfl
theorem ct0:(Rows.blastTruthsRow.wf (OpenSpec.ofChange Rows.blastTruthsSpec))=true:=by kernel_rfl
theorem ct1:(laidOutB Tryz.pinned.checked.prog)=true:=by kernel_rfl
theorem ct2:(mapsRowed Tryz.pinned.checked.prog)=true:=by kernel_rfl
theorem ct3:(Tryz.f3.params.all (Tryz.pinned.checked.prog.readableRec ·))=true:=by kernel_rfl
theorem ct4:(namedTie Tryz.pinned.checked.prog Rows.blastTruthsRow.named Rows.blastTruthsSpec.vars)=true:=by kernel_rfl
theorem ct5:((Rows.blastTruthsRow.stops==[]))=true:=by kernel_rfl
theorem ct6:((Tryz.pinned.checked.prog.stops==[]))=true:=by kernel_rfl
theorem ct7:((Rows.blastTruthsRow.knobs==[]))=true:=by kernel_rfl
theorem ct8:((Tryz.pinned.checked.prog.stopKnobs==[]))=true:=by kernel_rfl
theorem ct9:((Rows.blastTruthsRow.inPlace==Tryz.pinned.checked.prog.inPlace 3))=true:=by kernel_rfl
theorem A7z:((Rows.blastTruthsRow.unfollowed==Tryz.pinned.checked.prog.unfollowed 3))=true:=by kernel_rfl
theorem A7y:((Rows.blastTruthsRow.recurses==Tryz.pinned.checked.prog.recurses 3))=true:=by kernel_rfl
theorem A7x:((Rows.blastTruthsRow.named==Tryz.pinned.checked.prog.varsNamed 3))=true:=by kernel_rfl
theorem A7w:((Rows.blastTruthsRow.maps==(Tryz.f3.params.toList++Rows.blastTruthsSpec.plain.varTypes Tryz.pinned.checked.prog).any (Tryz.pinned.checked.prog.mapsRec ·)))=true:=by kernel_rfl
theorem A7v:((Rows.blastTruthsRow.ifaces==(Tryz.f3.params.toList++Rows.blastTruthsSpec.plain.varTypes Tryz.pinned.checked.prog).any (Tryz.pinned.checked.prog.ifacesRec ·)))=true:=by kernel_rfl
theorem A7u:((Rows.blastTruthsRow.mapsOut==Tryz.pinned.checked.prog.mapsAmong Tryz.f3.resultTypes.toList))=true:=by kernel_rfl
theorem A7t:((Rows.blastTruthsRow.loops==(Tryz.f3.params.toList++Rows.blastTruthsSpec.plain.varTypes Tryz.pinned.checked.prog).any (Tryz.pinned.checked.prog.loopsFrom ·)))=true:=by kernel_rfl
theorem A7s:((Rows.blastTruthsRow.wideKeys==(Tryz.f3.params.toList++Rows.blastTruthsSpec.plain.varTypes Tryz.pinned.checked.prog++Tryz.f3.resultTypes.toList).any (Tryz.pinned.checked.prog.wideKeysFrom ·)))=true:=by kernel_rfl
theorem A7r:(Rows.blastTruthsSpec.vars.all (Tryz.pinned.checked.prog.varReadable ·))=true:=by kernel_rfl
theorem A7q:(Tryz.f3.resultTypes.all (λt=>Tryz.pinned.checked.prog.readableRec t&&decide (t<Tryz.pinned.checked.prog.types.size)))=true:=by kernel_rfl
theorem A7o:((Rows.blastTruthsRow.ifacesOut==Tryz.f3.resultTypes.toList.any (Tryz.pinned.checked.prog.ifacesRec ·)))=true:=by kernel_rfl
theorem A7n:((Rows.blastTruthsRow.loopsOut==Tryz.f3.resultTypes.toList.any (Tryz.pinned.checked.prog.loopsFrom ·)))=true:=by kernel_rfl
theorem A7m:((Rows.blastTruthsRow.plainKeys==Tryz.pinned.checked.prog.plainKeys))=true:=by kernel_rfl
theorem A7l:(Rows.blastTruthsRow.shortTexts.isNone)=true:=by kernel_rfl
theorem A7k:(Tryz.pinned.checked.prog.stopsHeard)=true:=by kernel_rfl
theorem A7j:(Tryz.pinned.checked.prog.mayEnter)=true:=by kernel_rfl
theorem A7i:((Rows.blastTruthsRow.lifted==Tryz.pinned.checked.prog.liftsFinal))=true:=by kernel_rfl
theorem A7h:((Tryz.pinned.checked.prog.make==some Rows.blastTruthsRow.make))=true:=by kernel_rfl
theorem A7g:((Rows.blastTruthsRow.kinds==(if Rows.blastTruthsRow.domain.isEmpty then [] else Tryz.f3.params.toList.map λt=>match Tryz.pinned.checked.prog.underlying t with|some (.int k)=>some k|_=>none)))=true:=by kernel_rfl
theorem A7f:((Rows.blastTruthsRow.pinned==Rows.blastTruthsRow.pinnedBy))=true:=by kernel_rfl
theorem A7e:((Rows.blastTruthsRow.veiled==(Tryz.f3.params.toList++Rows.blastTruthsSpec.plain.varTypes Tryz.pinned.checked.prog++Tryz.f3.resultTypes.toList).any (Tryz.pinned.checked.prog.veiledRec ·)))=true:=by kernel_rfl
theorem A7d:(Rows.blastTruthsRow.veiledFits Tryz.pinned.checked.prog Tryz.f3.params.toList (Tryz.f3.params.toList++Rows.blastTruthsSpec.plain.varTypes Tryz.pinned.checked.prog++Tryz.f3.resultTypes.toList))=true:=by kernel_rfl
end Go.Proofs.YtcbkbpjlbmalmaaGreatDoor
