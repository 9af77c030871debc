/-
  The function, or the error, that Equal returns: the statement and its card. (Merged by program out of 1 texts.)
-/
import Derived.Test.YtcbkbpjlbmalmaaGreatDoorEak
import Derived.Test.YtcbkbpjlbmalmaaGreatDoorEal
open Option renaming some.inj->a0
namespace Go.Proofs.YtcbkbpjlbmalmaaGreatDoor
open Go Go.RowKit Go.ChangeShapes Go.WideShapes Go.ChangeAt
set_option maxRecDepth 100000 in
theorem Avk:joinedFacts Tryz.pinned.checked.prog 4 Tryz.f4 Rows.blastEqualsSpec Rows.blastEqualsRow=true:=by unfold joinedFacts;exact Ev (Ev (Ev (Ev (Ev (Ev (Ev (Ev (Ev (Ev (Ev (Ev (Ev (Ev (Ev (Ev (Ev (Ev (Ev (Ev (Ev (Ev (Ev (Ev (Ev (Ev (Ev (Ev (Ev (Ev (Ev (ce0) ce1) ce2) ce3) ce4) ce5) ce6) ce7) ce8) ce9) A8l) A8k) A8j) A8i) A8h) A8g) A8f) A8e) A8d) A8c) A8b) A8a) A79) A78) A77) A76) A75) A74) A73) A72) A71) A70
theorem Aze:Tryz.pinned.checked.prog.funcNamed Rows.blastEqualsRow.func=some 4:=by kernel_rfl
theorem Ub:Rows.BlastEqualsSaid:=
 OpenClaim.holds_of_wide 4 Tryz.f4 rfl rfl rfl rfl rfl rfl rfl ⟨rfl,rfl,rfl,rfl,rfl⟩ rfl rfl rfl rfl rfl Aze Tryz.func4 Avk (of_decide_eq_true (by kernel_rfl)) (by unfold Func.isWrapper;first|(rw[UV (by decide +kernel)];kernel_rfl)|(rw[GT (by decide +kernel)];exact⟨rfl,rfl⟩))
  (λos started H enc _=>Aug os started H enc)
theorem blastEquals_card:Rows.BlastEqualsCardSaid:=
 Claim7.holds_tied_plain_at .later [] [.widerDeep] true (true, "0fdaafffceafa1bfc00faf57aefb53cb3e23106a2c936b64dc7ca62801a24482") true
  Ub (λ_ h=>by cases h) (by kernel_rfl) (λ_ h=>by cases h) blastEquals_row_tie rfl ⟨rfl,rfl⟩ (by kernel_rfl) rfl
  (λf fn hf hfn=>by
   obtain rfl:f=4:=a0 ((show Tryz.prog.funcNamed "voussoir/voussoirlaw38.BlastEquals"=some 4 by kernel_rfl).symm.trans hf) |>.symm
   obtain rfl:fn=Tryz.f4:=(a0 (Tryz.func4.symm.trans hfn)).symm;exact⟨by kernel_rfl,λj t ht=>by
    rw[Tryz.params4]at ht;have h3:t=26∨t=3∨t=29:=by
     rcases j with _|_|_|j
     .exact .inl (by simpa using ht.symm)
     .exact .inr (.inl (by simpa using ht.symm))
     .exact .inr (.inr (by simpa using ht.symm))
     .simp at ht
    rcases h3 with rfl|rfl|rfl
    .exact(show Tryz.prog.wantsStandIn 26=false by kernel_rfl)
    .exact(show Tryz.prog.wantsStandIn 3=false by kernel_rfl)
    .exact(show Tryz.prog.wantsStandIn 29=false by kernel_rfl)⟩)
  (by kernel_rfl)
end Go.Proofs.YtcbkbpjlbmalmaaGreatDoor
