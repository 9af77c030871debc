/-
  The statement that cases and states part the valid assignments, and its card. (Merged by program out of 1 texts.)
-/
import Derived.Test.YtcbkbpjlbmalmaaGreatDoorpal
open Option renaming some.inj->a0
namespace Go.Proofs.YtcbkbpjlbmalmaaGreatDoor
open Go Go.RowKit Go.ChangeShapes Go.WideShapes Go.ChangeAt
set_option maxRecDepth 100000 in
theorem Asn:joinedFacts Tryz.pinned.checked.prog 6 Tryz.f6 Rows.blastPartsSpec Rows.blastPartsRow=true:=by unfold joinedFacts;exact Ef (Ef (Ef (Ef (Ef (Ef (Ef (Ef (Ef (Ef (Ef (Ef (Ef (Ef (Ef (Ef (Ef (Ef (Ef (Ef (Ef (Ef (Ef (Ef (Ef (Ef (Ef (Ef (Ef (Ef (Ef (cp0) cp1) cp2) cp3) cp4) cp5) cp6) cp7) cp8) cp9) A5d) A5c) A5b) A5a) A49) A48) A47) A46) A45) A44) A43) A42) A41) A40) A4z) A4y) A4x) A4w) A4v) A4u) A4t) A4s
theorem Awg:Tryz.pinned.checked.prog.funcNamed Rows.blastPartsRow.func=some 6:=by kernel_rfl
theorem Tu:Rows.BlastPartsSaid:=
 OpenClaim.holds_of_wide 6 Tryz.f6 rfl rfl rfl rfl rfl rfl rfl ⟨rfl,rfl,rfl,rfl,rfl⟩ rfl rfl rfl rfl rfl Awg Tryz.func6 Asn (of_decide_eq_true (by kernel_rfl)) (by unfold Func.isWrapper;first|(rw[if_pos (by decide +kernel)];kernel_rfl)|(rw[if_neg (by decide +kernel)];exact⟨rfl,rfl⟩))
  (λos started H enc _=>Arl os started H enc)
theorem blastParts_card:Rows.BlastPartsCardSaid:=
 Claim7.holds_tied_plain_at .later [] [.widerDeep] true (true, "0fdaafffceafa1bfc00faf57aefb53cb3e23106a2c936b64dc7ca62801a24482") true
  Tu (λ_ h=>by cases h) (by kernel_rfl) (λ_ h=>by cases h) blastParts_row_tie rfl ⟨rfl,rfl⟩ (by kernel_rfl) rfl
  (λf fn hf hfn=>by
   obtain rfl:f=6:=a0 ((show Tryz.prog.funcNamed "voussoir/voussoirlaw38.BlastParts"=some 6 by kernel_rfl).symm.trans hf) |>.symm
   obtain rfl:fn=Tryz.f6:=(a0 (Tryz.func6.symm.trans hfn)).symm;exact⟨by kernel_rfl,λj t ht=>by
    rw[Tryz.params6]at ht;have h3:t=26∨t=29:=by
     rcases j with _|_|j
     .exact .inl (by simpa using ht.symm)
     .exact .inr (by simpa using ht.symm)
     .simp at ht
    rcases h3 with rfl|rfl
    .exact(show Tryz.prog.wantsStandIn 26=false by kernel_rfl)
    .exact(show Tryz.prog.wantsStandIn 29=false by kernel_rfl)⟩)
  (by kernel_rfl)
end Go.Proofs.YtcbkbpjlbmalmaaGreatDoor
