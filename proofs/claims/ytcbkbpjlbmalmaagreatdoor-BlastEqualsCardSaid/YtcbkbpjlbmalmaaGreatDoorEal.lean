/-
  The closed facts of the row of BlastEquals, one by one. (Merged by program out of 1 texts.)
-/
import Derived.Test.YtcbkbpjlbmalmaaGreatDoorCards
import Derived.Test.YtcbkbpjlbmalmaaGreatDoorTie
import Derived.Test.YtcbkbpjlbmalmaaGreatDoorChecked
import Derived.LaidMore
import Derived.SevenTiedAt
open Bool renaming true->O
namespace Go.Proofs.YtcbkbpjlbmalmaaGreatDoor
open Go
theorem Ev{a b:Bool}(h:a=O)(k:b=O):(a&&b)=O:=by rw[h,k];rfl
theorem ce0:(Rows.blastEqualsRow.wf (OpenSpec.ofChange Rows.blastEqualsSpec))=O:=by kernel_rfl
theorem ce1:(laidOutB Tryz.pinned.checked.prog)=O:=by kernel_rfl
theorem ce2:(mapsRowed Tryz.pinned.checked.prog)=O:=by kernel_rfl
theorem ce3:(Tryz.f4.params.all (Tryz.pinned.checked.prog.readableRec ·))=O:=by kernel_rfl
theorem ce4:(namedTie Tryz.pinned.checked.prog Rows.blastEqualsRow.named Rows.blastEqualsSpec.vars)=O:=by kernel_rfl
theorem ce5:((Rows.blastEqualsRow.stops==[]))=O:=by kernel_rfl
theorem ce6:((Tryz.pinned.checked.prog.stops==[]))=O:=by kernel_rfl
theorem ce7:((Rows.blastEqualsRow.knobs==[]))=O:=by kernel_rfl
theorem ce8:((Tryz.pinned.checked.prog.stopKnobs==[]))=O:=by kernel_rfl
theorem ce9:((Rows.blastEqualsRow.inPlace==Tryz.pinned.checked.prog.inPlace 4))=O:=by kernel_rfl
theorem A8l:((Rows.blastEqualsRow.unfollowed==Tryz.pinned.checked.prog.unfollowed 4))=O:=by kernel_rfl
theorem A8k:((Rows.blastEqualsRow.recurses==Tryz.pinned.checked.prog.recurses 4))=O:=by kernel_rfl
theorem A8j:((Rows.blastEqualsRow.named==Tryz.pinned.checked.prog.varsNamed 4))=O:=by kernel_rfl
theorem A8i:((Rows.blastEqualsRow.maps==(Tryz.f4.params.toList++Rows.blastEqualsSpec.plain.varTypes Tryz.pinned.checked.prog).any (Tryz.pinned.checked.prog.mapsRec ·)))=O:=by kernel_rfl
theorem A8h:((Rows.blastEqualsRow.ifaces==(Tryz.f4.params.toList++Rows.blastEqualsSpec.plain.varTypes Tryz.pinned.checked.prog).any (Tryz.pinned.checked.prog.ifacesRec ·)))=O:=by kernel_rfl
theorem A8g:((Rows.blastEqualsRow.mapsOut==Tryz.pinned.checked.prog.mapsAmong Tryz.f4.resultTypes.toList))=O:=by kernel_rfl
theorem A8f:((Rows.blastEqualsRow.loops==(Tryz.f4.params.toList++Rows.blastEqualsSpec.plain.varTypes Tryz.pinned.checked.prog).any (Tryz.pinned.checked.prog.loopsFrom ·)))=O:=by kernel_rfl
theorem A8e:((Rows.blastEqualsRow.wideKeys==(Tryz.f4.params.toList++Rows.blastEqualsSpec.plain.varTypes Tryz.pinned.checked.prog++Tryz.f4.resultTypes.toList).any (Tryz.pinned.checked.prog.wideKeysFrom ·)))=O:=by kernel_rfl
theorem A8d:(Rows.blastEqualsSpec.vars.all (Tryz.pinned.checked.prog.varReadable ·))=O:=by kernel_rfl
theorem A8c:(Tryz.f4.resultTypes.all (λt=>Tryz.pinned.checked.prog.readableRec t&&decide (t<Tryz.pinned.checked.prog.types.size)))=O:=by kernel_rfl
theorem A8b:((Rows.blastEqualsRow.ifacesOut==Tryz.f4.resultTypes.toList.any (Tryz.pinned.checked.prog.ifacesRec ·)))=O:=by kernel_rfl
theorem A8a:((Rows.blastEqualsRow.loopsOut==Tryz.f4.resultTypes.toList.any (Tryz.pinned.checked.prog.loopsFrom ·)))=O:=by kernel_rfl
theorem A79:((Rows.blastEqualsRow.plainKeys==Tryz.pinned.checked.prog.plainKeys))=O:=by kernel_rfl
theorem A78:(Rows.blastEqualsRow.shortTexts.isNone)=O:=by kernel_rfl
theorem A77:(Tryz.pinned.checked.prog.stopsHeard)=O:=by kernel_rfl
theorem A76:(Tryz.pinned.checked.prog.mayEnter)=O:=by kernel_rfl
theorem A75:((Rows.blastEqualsRow.lifted==Tryz.pinned.checked.prog.liftsFinal))=O:=by kernel_rfl
theorem A74:((Tryz.pinned.checked.prog.make==some Rows.blastEqualsRow.make))=O:=by kernel_rfl
theorem A73:((Rows.blastEqualsRow.kinds==(if Rows.blastEqualsRow.domain.isEmpty then [] else Tryz.f4.params.toList.map λt=>match Tryz.pinned.checked.prog.underlying t with|some (.int k)=>some k|_=>none)))=O:=by kernel_rfl
theorem A72:((Rows.blastEqualsRow.pinned==Rows.blastEqualsRow.pinnedBy))=O:=by kernel_rfl
theorem A71:((Rows.blastEqualsRow.veiled==(Tryz.f4.params.toList++Rows.blastEqualsSpec.plain.varTypes Tryz.pinned.checked.prog++Tryz.f4.resultTypes.toList).any (Tryz.pinned.checked.prog.veiledRec ·)))=O:=by kernel_rfl
theorem A70:(Rows.blastEqualsRow.veiledFits Tryz.pinned.checked.prog Tryz.f4.params.toList (Tryz.f4.params.toList++Rows.blastEqualsSpec.plain.varTypes Tryz.pinned.checked.prog++Tryz.f4.resultTypes.toList))=O:=by kernel_rfl
end Go.Proofs.YtcbkbpjlbmalmaaGreatDoor
