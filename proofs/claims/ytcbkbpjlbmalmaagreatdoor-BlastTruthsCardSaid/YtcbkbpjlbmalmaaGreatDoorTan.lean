/-
  The function, or the error, that Truth returns: the statement and its card. (Merged by program out of 1 texts.)
-/
import Derived.Test.YtcbkbpjlbmalmaaGreatDoorTal
import Derived.Test.YtcbkbpjlbmalmaaGreatDoorTam
open Option renaming some.inj->a0
namespace Go.Proofs.YtcbkbpjlbmalmaaGreatDoor
open Go Go.RowKit Go.ChangeShapes Go.WideShapes Go.ChangeAt
set_option maxRecDepth 100000 in
theorem A14:joinedFacts Tryz.pinned.checked.prog 3 Tryz.f3 Rows.blastTruthsSpec Rows.blastTruthsRow=true:=by unfold joinedFacts;exact Qg (Qg (Qg (Qg (Qg (Qg (Qg (Qg (Qg (Qg (Qg (Qg (Qg (Qg (Qg (Qg (Qg (Qg (Qg (Qg (Qg (Qg (Qg (Qg (Qg (Qg (Qg (Qg (Qg (Qg (Qg (ct0) ct1) ct2) ct3) ct4) ct5) ct6) ct7) ct8) ct9) A7z) A7y) A7x) A7w) A7v) A7u) A7t) A7s) A7r) A7q) A7o) A7n) A7m) A7l) A7k) A7j) A7i) A7h) A7g) A7f) A7e) A7d
theorem A25:Tryz.pinned.checked.prog.funcNamed Rows.blastTruthsRow.func=some 3:=by kernel_rfl
theorem Ak3:Rows.BlastTruthsSaid:=
 OpenClaim.holds_of_wide 3 Tryz.f3 rfl rfl rfl rfl rfl rfl rfl ⟨rfl,rfl,rfl,rfl,rfl⟩ rfl rfl rfl rfl rfl A25 Tryz.func3 A14 (of_decide_eq_true (by kernel_rfl)) (by unfold Func.isWrapper;first|(rw[UV (by decide +kernel)];kernel_rfl)|(rw[GT (by decide +kernel)];exact⟨rfl,rfl⟩))
  (λos started H enc _=>A12 os started H enc)
theorem blastTruths_card:Rows.BlastTruthsCardSaid:=
 Claim7.holds_tied_plain_at .later [] [.widerDeep] true (true, "0fdaafffceafa1bfc00faf57aefb53cb3e23106a2c936b64dc7ca62801a24482") true
  Ak3 (λ_ h=>by cases h) (by kernel_rfl) (λ_ h=>by cases h) blastTruths_row_tie rfl ⟨rfl,rfl⟩ (by kernel_rfl) rfl
  (λf fn hf hfn=>by
   obtain rfl:f=3:=a0 ((show Tryz.prog.funcNamed "voussoir/voussoirlaw38.BlastTruths"=some 3 by kernel_rfl).symm.trans hf) |>.symm
   obtain rfl:fn=Tryz.f3:=(a0 (Tryz.func3.symm.trans hfn)).symm;exact⟨by kernel_rfl,λj t ht=>by
    rw[Tryz.params3]at ht;have h3:t=26∨t=29:=by
     rcases j with _|_|j
     .exact .inl (by simpa using ht.symm)
     .exact .inr (by simpa using ht.symm)
     .simp at ht
    rcases h3 with rfl|rfl
    .exact(show Tryz.prog.wantsStandIn 26=false by kernel_rfl)
    .exact(show Tryz.prog.wantsStandIn 29=false by kernel_rfl)⟩)
  (by kernel_rfl)
end Go.Proofs.YtcbkbpjlbmalmaaGreatDoor
