/-
  The statement that Valid and State are right, and its card. (Merged by program out of 1 texts.)
-/
import Derived.Test.YtcbkbpjlbmalmaaGreatDoorpat
namespace Go.Proofs.YtcbkbpjlbmalmaaGreatDoor
open Go Go.RowKit Go.ChangeShapes Go.WideShapes Go.ChangeAt
set_option maxRecDepth 100000 in
theorem Ar0:joinedFacts Tryz.pinned.checked.prog 5 Tryz.f5 Rows.blastStatesSpec Rows.blastStatesRow=true:=by unfold joinedFacts;exact Ek (Ek (Ek (Ek (Ek (Ek (Ek (Ek (Ek (Ek (Ek (Ek (Ek (Ek (Ek (Ek (Ek (Ek (Ek (Ek (Ek (Ek (Ek (Ek (Ek (Ek (Ek (Ek (Ek (Ek (Ek (cs0) cs1) cs2) cs3) cs4) cs5) cs6) cs7) cs8) cs9) A4d) A4c) A4b) A4a) A39) A38) A37) A36) A35) A34) A33) A32) A31) A30) A3z) A3y) A3x) A3w) A3v) A3u) A3t) A3s
theorem Avn:Tryz.pinned.checked.prog.funcNamed Rows.blastStatesRow.func=some 5:=by kernel_rfl
theorem SF:Rows.BlastStatesSaid:=
 OpenClaim.holds_of_wide 5 Tryz.f5 rfl rfl rfl rfl rfl rfl rfl ⟨rfl,rfl,rfl,rfl,rfl⟩ rfl rfl rfl rfl rfl Avn Tryz.func5 Ar0 (of_decide_eq_true (by kernel_rfl)) (by unfold Func.isWrapper;first|(rw[if_pos (by decide +kernel)];kernel_rfl)|(rw[if_neg (by decide +kernel)];exact⟨rfl,rfl⟩))
  (λos started H enc _=>Aq2 os started H enc)
theorem blastStates_card:Rows.BlastStatesCardSaid:=
 Claim7.holds_tied_plain_at .later [] [.widerDeep] true (true, "0fdaafffceafa1bfc00faf57aefb53cb3e23106a2c936b64dc7ca62801a24482") true
  SF (λ_ h=>by cases h) (by kernel_rfl) (λ_ h=>by cases h) blastStates_row_tie rfl ⟨rfl,rfl⟩ (by kernel_rfl) rfl
  (λf fn hf hfn=>by
   obtain rfl:f=5:=Option.some.inj ((show Tryz.prog.funcNamed "voussoir/voussoirlaw38.BlastStates"=some 5 by kernel_rfl).symm.trans hf) |>.symm
   obtain rfl:fn=Tryz.f5:=(Option.some.inj (Tryz.func5.symm.trans hfn)).symm;exact⟨by kernel_rfl,λj t ht=>by
    rw[Tryz.params5]at ht;have h3:t=26∨t=23∨t=4:=by
     rcases j with _|_|_|j
     .exact .inl (by simpa using ht.symm)
     .exact .inr (.inl (by simpa using ht.symm))
     .exact .inr (.inr (by simpa using ht.symm))
     .simp at ht
    rcases h3 with rfl|rfl|rfl
    .exact(show Tryz.prog.wantsStandIn 26=false by kernel_rfl)
    .exact(show Tryz.prog.wantsStandIn 23=false by kernel_rfl)
    .exact(show Tryz.prog.wantsStandIn 4=false by kernel_rfl)⟩)
  (by kernel_rfl)
end Go.Proofs.YtcbkbpjlbmalmaaGreatDoor
