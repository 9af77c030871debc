/-
  The statement that nothing is refused, and its card. (Merged by program out of 1 texts.)
-/
import Derived.Test.YtcbkbpjlbmalmaaGreatDoorpbf
namespace Go.Proofs.YtcbkbpjlbmalmaaGreatDoor
open Go Go.RowKit Go.ChangeShapes Go.WideShapes Go.ChangeAt
set_option maxRecDepth 100000 in
theorem closed:joinedFacts Tryz.pinned.checked.prog 7 Tryz.f7 Rows.blastRefusesSpec Rows.blastRefusesRow=true:=by unfold joinedFacts;exact Mu (Mu (Mu (Mu (Mu (Mu (Mu (Mu (Mu (Mu (Mu (Mu (Mu (Mu (Mu (Mu (Mu (Mu (Mu (Mu (Mu (Mu (Mu (Mu (Mu (Mu (Mu (Mu (Mu (Mu (Mu (cf0) cf1) cf2) cf3) cf4) cf5) cf6) cf7) cf8) cf9) Bah) Bag) Baf) Bae) Bad) Bac) Bab) Baa) A99) A98) A97) A96) A95) A94) A93) A92) A91) A90) A9z) A9y) A9x) A9w
theorem A44:Tryz.pinned.checked.prog.funcNamed Rows.blastRefusesRow.func=some 7:=by kernel_rfl
theorem Aar:Rows.BlastRefusesSaid:=
 OpenClaim.holds_of_wide 7 Tryz.f7 rfl rfl rfl rfl rfl rfl rfl ⟨rfl,rfl,rfl,rfl,rfl⟩ rfl rfl rfl rfl rfl A44 Tryz.func7 closed (of_decide_eq_true (by kernel_rfl)) (by unfold Func.isWrapper;first|(rw[if_pos (by decide +kernel)];kernel_rfl)|(rw[if_neg (by decide +kernel)];exact⟨rfl,rfl⟩))
  (λos started H enc _=>lifted os started H enc)
theorem blastRefuses_card:Rows.BlastRefusesCardSaid:=
 Claim7.holds_tied_plain_at .later [] [.widerDeep] true (true, "0fdaafffceafa1bfc00faf57aefb53cb3e23106a2c936b64dc7ca62801a24482") true
  Aar (λ_ h=>by cases h) (by kernel_rfl) (λ_ h=>by cases h) blastRefuses_row_tie rfl ⟨rfl,rfl⟩ (by kernel_rfl) rfl
  (λf fn hf hfn=>by
   obtain rfl:f=7:=Option.some.inj ((show Tryz.prog.funcNamed "voussoir/voussoirlaw38.BlastRefuses"=some 7 by kernel_rfl).symm.trans hf) |>.symm
   obtain rfl:fn=Tryz.f7:=(Option.some.inj (Tryz.func7.symm.trans hfn)).symm;exact⟨by kernel_rfl,λj t ht=>by
    rw[Tryz.params7]at ht;have h3:t=26∨t=29:=by
     rcases j with _|_|j
     .exact .inl (by simpa using ht.symm)
     .exact .inr (by simpa using ht.symm)
     .simp at ht
    rcases h3 with rfl|rfl
    .exact(show Tryz.prog.wantsStandIn 26=false by kernel_rfl)
    .exact(show Tryz.prog.wantsStandIn 29=false by kernel_rfl)⟩)
  (by kernel_rfl)
end Go.Proofs.YtcbkbpjlbmalmaaGreatDoor
