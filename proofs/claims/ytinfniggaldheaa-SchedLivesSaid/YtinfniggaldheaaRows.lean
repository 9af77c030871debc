/-
  No cell of these rows narrows 'for every input' (looked for: loops, veiled, ifaces, maps, wideKeys, modest, calm, conditions, laid).
  DERIVED. THE GIVEN ROWS OF THIS SEAT. 6 by the template 'for every input the law returns true; each argument reads behind the call as it read before'; 0 by the template 'total and deterministic' (their statements: YtinfniggaldheaaTotals.lean).
  GIVEN WITH THE SEED: the statements are not yours to turn. If you find one false, say at which input.
  Laid BY PROGRAM, IN A SANDBOX (cutbox-rows.mjs): the forced cells as the released guide's own fill.sh prints them over the translation 19ece498b78c949f… (all of the seat's roots in one cut). By AI agents, Wed Nov 11 2026. No macro, syntax, notation, axiom, sorry.
-/
import Derived.Test.YtinfniggaldheaaChecked
import GoSem.Claim
import GoSem.ClaimJoined
import GoSem.ClaimMapViews
import Derived.JoinedTies
import Derived.KernelRfl
namespace Go.Proofs.Ytinfniggaldheaa
/- THE CELL 'sum', in the pinned program and in every row, IS THE sha256 OF THE DUMP (.gsa) THAT YtinfniggaldheaaProg.lean LOADS. Nothing in Lean hashes anything: it is a label: what it is worth is what the hold of that sum in a sandbox is worth. -/
noncomputable def Try.pinned : Pinned := { name := "ytinfniggaldheaa", sum := "19ece498b78c949fbf90ab701717185a1abf2b9726585a1a0827a55ff2a57ce1", checked := Try.checked }
namespace Rows
def none {H : Type} : Left H := { results := [], args := [] }

/-- 'voussoirlaw03.VsetOf': WHATEVER THE INPUT: true; the input reads as it did. -/
def vsetOfSpec : ChangeSpec := { name := "vsetOf", fn := fun _ => fun
  | [d1, d2] => { results := [.lit (.bool true)], args := [d1, d2] }
  | _ => none }
def vsetOfRow : OpenClaim := { program := "ytinfniggaldheaa", sum := "19ece498b78c949fbf90ab701717185a1abf2b9726585a1a0827a55ff2a57ce1", func := "voussoir/voussoirlaw03.VsetOf", spec := "vsetOf", apart := false }
def VsetOfSaid : Prop := vsetOfRow.holds Try.pinned (OpenSpec.ofChange vsetOfSpec)

/-- ITS FALSE NEIGHBOUR: 'it returns false'. Refute it at one input. -/
def vsetOfWrong : ChangeSpec := { name := "vsetOf", fn := fun _ => fun
  | [d1, d2] => { results := [.lit (.bool false)], args := [d1, d2] }
  | _ => none }
def VsetOfWrongFalsely : Prop := vsetOfRow.holds Try.pinned (OpenSpec.ofChange vsetOfWrong)

/-- 'voussoirlaw03.VsetUnions': WHATEVER THE INPUT: true; the input reads as it did. -/
def vsetUnionsSpec : ChangeSpec := { name := "vsetUnions", fn := fun _ => fun
  | [d] => { results := [.lit (.bool true)], args := [d] }
  | _ => none }
def vsetUnionsRow : OpenClaim := { program := "ytinfniggaldheaa", sum := "19ece498b78c949fbf90ab701717185a1abf2b9726585a1a0827a55ff2a57ce1", func := "voussoir/voussoirlaw03.VsetUnions", spec := "vsetUnions", apart := false }
def VsetUnionsSaid : Prop := vsetUnionsRow.holds Try.pinned (OpenSpec.ofChange vsetUnionsSpec)

/-- ITS FALSE NEIGHBOUR: 'it returns false'. Refute it at one input. -/
def vsetUnionsWrong : ChangeSpec := { name := "vsetUnions", fn := fun _ => fun
  | [d] => { results := [.lit (.bool false)], args := [d] }
  | _ => none }
def VsetUnionsWrongFalsely : Prop := vsetUnionsRow.holds Try.pinned (OpenSpec.ofChange vsetUnionsWrong)

/-- 'voussoirlaw03.VsetTwo': WHATEVER THE INPUT: true; the input reads as it did. -/
def vsetTwoSpec : ChangeSpec := { name := "vsetTwo", fn := fun _ => fun
  | [d1, d2] => { results := [.lit (.bool true)], args := [d1, d2] }
  | _ => none }
def vsetTwoRow : OpenClaim := { program := "ytinfniggaldheaa", sum := "19ece498b78c949fbf90ab701717185a1abf2b9726585a1a0827a55ff2a57ce1", func := "voussoir/voussoirlaw03.VsetTwo", spec := "vsetTwo", apart := false }
def VsetTwoSaid : Prop := vsetTwoRow.holds Try.pinned (OpenSpec.ofChange vsetTwoSpec)

/-- ITS FALSE NEIGHBOUR: 'it returns false'. Refute it at one input. -/
def vsetTwoWrong : ChangeSpec := { name := "vsetTwo", fn := fun _ => fun
  | [d1, d2] => { results := [.lit (.bool false)], args := [d1, d2] }
  | _ => none }
def VsetTwoWrongFalsely : Prop := vsetTwoRow.holds Try.pinned (OpenSpec.ofChange vsetTwoWrong)

/-- 'voussoirlaw03.VsetParts': WHATEVER THE INPUT: true; the input reads as it did. -/
def vsetPartsSpec : ChangeSpec := { name := "vsetParts", fn := fun _ => fun
  | [d1, d2, d3] => { results := [.lit (.bool true)], args := [d1, d2, d3] }
  | _ => none }
def vsetPartsRow : OpenClaim := { program := "ytinfniggaldheaa", sum := "19ece498b78c949fbf90ab701717185a1abf2b9726585a1a0827a55ff2a57ce1", func := "voussoir/voussoirlaw03.VsetParts", spec := "vsetParts", apart := false }
def VsetPartsSaid : Prop := vsetPartsRow.holds Try.pinned (OpenSpec.ofChange vsetPartsSpec)

/-- ITS FALSE NEIGHBOUR: 'it returns false'. Refute it at one input. -/
def vsetPartsWrong : ChangeSpec := { name := "vsetParts", fn := fun _ => fun
  | [d1, d2, d3] => { results := [.lit (.bool false)], args := [d1, d2, d3] }
  | _ => none }
def VsetPartsWrongFalsely : Prop := vsetPartsRow.holds Try.pinned (OpenSpec.ofChange vsetPartsWrong)

/-- 'voussoirlaw42.SchedPlans': WHATEVER THE INPUT: true; the input reads as it did. -/
def schedPlansSpec : ChangeSpec := { name := "schedPlans", fn := fun _ => fun
  | [d1, d2] => { results := [.lit (.bool true)], args := [d1, d2] }
  | _ => none }
def schedPlansRow : OpenClaim := { program := "ytinfniggaldheaa", sum := "19ece498b78c949fbf90ab701717185a1abf2b9726585a1a0827a55ff2a57ce1", func := "voussoir/voussoirlaw42.SchedPlans", spec := "schedPlans", unfollowed := true, recurses := true, apart := false }
def SchedPlansSaid : Prop := schedPlansRow.holds Try.pinned (OpenSpec.ofChange schedPlansSpec)

/-- ITS FALSE NEIGHBOUR: 'it returns false'. Refute it at one input. -/
def schedPlansWrong : ChangeSpec := { name := "schedPlans", fn := fun _ => fun
  | [d1, d2] => { results := [.lit (.bool false)], args := [d1, d2] }
  | _ => none }
def SchedPlansWrongFalsely : Prop := schedPlansRow.holds Try.pinned (OpenSpec.ofChange schedPlansWrong)

/-- 'voussoirlaw42.SchedLives': WHATEVER THE INPUT: true; the input reads as it did. -/
def schedLivesSpec : ChangeSpec := { name := "schedLives", fn := fun _ => fun
  | [d1, d2, d3] => { results := [.lit (.bool true)], args := [d1, d2, d3] }
  | _ => none }
def schedLivesRow : OpenClaim := { program := "ytinfniggaldheaa", sum := "19ece498b78c949fbf90ab701717185a1abf2b9726585a1a0827a55ff2a57ce1", func := "voussoir/voussoirlaw42.SchedLives", spec := "schedLives", unfollowed := true, recurses := true, apart := false }
def SchedLivesSaid : Prop := schedLivesRow.holds Try.pinned (OpenSpec.ofChange schedLivesSpec)

/-- ITS FALSE NEIGHBOUR: 'it returns false'. Refute it at one input. -/
def schedLivesWrong : ChangeSpec := { name := "schedLives", fn := fun _ => fun
  | [d1, d2, d3] => { results := [.lit (.bool false)], args := [d1, d2, d3] }
  | _ => none }
def SchedLivesWrongFalsely : Prop := schedLivesRow.holds Try.pinned (OpenSpec.ofChange schedLivesWrong)

/- THE SECOND FORM. 'bulk': how many values and letters a reading holds, each counted each time it is reached (what is shared counts as often as it is met; a slice's spare places count too). A statement '..UptoSaid' is the law's where the arguments, and the package variables that the reading takes, are together of bulk at most 1048576: NARROWER than '..Said'. Prove '..Said' where nothing that the law and all that it calls make is longer than what came in: it says more and counts as full. Else prove '..UptoSaid'. A law counts once. -/
mutual
def uptoBulk {H : Type} : DataW H → Nat
  | .lit (.string bytes) => bytes.length + 1
  | .lit _ => 1
  | .nil => 1
  | .ptr d => uptoBulk d + 1
  | .slice elems spare => uptoBulkAll elems + uptoBulkAll spare + 1
  | .agg parts => uptoBulkAll parts + 1
  | .iface _ d => uptoBulk d + 1
  | .map entries => uptoBulkEntries entries + 1
  | .held _ => 1
def uptoBulkAll {H : Type} : List (DataW H) → Nat
  | [] => 0
  | d :: r => uptoBulk d + uptoBulkAll r
def uptoBulkEntries {H : Type} : List (Lit × DataW H) → Nat
  | [] => 0
  | x :: r => uptoBulkEntry x + uptoBulkEntries r
def uptoBulkEntry {H : Type} : Lit × DataW H → Nat
  | (.string bytes, d) => bytes.length + uptoBulk d + 1
  | (_, d) => uptoBulk d + 1
 end
def uptoSmall : (H : Type) → List (DataW H) → Bool := fun _ ds => decide (uptoBulkAll ds ≤ 1048576)
def OpenSpec.upto (s : _root_.Go.ChangeSpec) : _root_.Go.OpenSpec := { _root_.Go.OpenSpec.ofChange s with cond := some uptoSmall }

/-- 'voussoirlaw03.VsetOf', WHERE WHAT IT READS IS OF BULK AT MOST 1048576: true; the input reads as it did. -/
def vsetOfUptoRow : OpenClaim := { program := "ytinfniggaldheaa", sum := "19ece498b78c949fbf90ab701717185a1abf2b9726585a1a0827a55ff2a57ce1", func := "voussoir/voussoirlaw03.VsetOf", spec := "vsetOf", apart := false, narrowed := true }
def VsetOfUptoSaid : Prop := vsetOfUptoRow.holds Try.pinned (OpenSpec.upto vsetOfSpec)

/-- 'voussoirlaw03.VsetUnions', WHERE WHAT IT READS IS OF BULK AT MOST 1048576: true; the input reads as it did. -/
def vsetUnionsUptoRow : OpenClaim := { program := "ytinfniggaldheaa", sum := "19ece498b78c949fbf90ab701717185a1abf2b9726585a1a0827a55ff2a57ce1", func := "voussoir/voussoirlaw03.VsetUnions", spec := "vsetUnions", apart := false, narrowed := true }
def VsetUnionsUptoSaid : Prop := vsetUnionsUptoRow.holds Try.pinned (OpenSpec.upto vsetUnionsSpec)

/-- 'voussoirlaw03.VsetTwo', WHERE WHAT IT READS IS OF BULK AT MOST 1048576: true; the input reads as it did. -/
def vsetTwoUptoRow : OpenClaim := { program := "ytinfniggaldheaa", sum := "19ece498b78c949fbf90ab701717185a1abf2b9726585a1a0827a55ff2a57ce1", func := "voussoir/voussoirlaw03.VsetTwo", spec := "vsetTwo", apart := false, narrowed := true }
def VsetTwoUptoSaid : Prop := vsetTwoUptoRow.holds Try.pinned (OpenSpec.upto vsetTwoSpec)

/-- 'voussoirlaw03.VsetParts', WHERE WHAT IT READS IS OF BULK AT MOST 1048576: true; the input reads as it did. -/
def vsetPartsUptoRow : OpenClaim := { program := "ytinfniggaldheaa", sum := "19ece498b78c949fbf90ab701717185a1abf2b9726585a1a0827a55ff2a57ce1", func := "voussoir/voussoirlaw03.VsetParts", spec := "vsetParts", apart := false, narrowed := true }
def VsetPartsUptoSaid : Prop := vsetPartsUptoRow.holds Try.pinned (OpenSpec.upto vsetPartsSpec)

/-- 'voussoirlaw42.SchedPlans', WHERE WHAT IT READS IS OF BULK AT MOST 1048576: true; the input reads as it did. -/
def schedPlansUptoRow : OpenClaim := { program := "ytinfniggaldheaa", sum := "19ece498b78c949fbf90ab701717185a1abf2b9726585a1a0827a55ff2a57ce1", func := "voussoir/voussoirlaw42.SchedPlans", spec := "schedPlans", unfollowed := true, recurses := true, apart := false, narrowed := true }
def SchedPlansUptoSaid : Prop := schedPlansUptoRow.holds Try.pinned (OpenSpec.upto schedPlansSpec)

/-- 'voussoirlaw42.SchedLives', WHERE WHAT IT READS IS OF BULK AT MOST 1048576: true; the input reads as it did. -/
def schedLivesUptoRow : OpenClaim := { program := "ytinfniggaldheaa", sum := "19ece498b78c949fbf90ab701717185a1abf2b9726585a1a0827a55ff2a57ce1", func := "voussoir/voussoirlaw42.SchedLives", spec := "schedLives", unfollowed := true, recurses := true, apart := false, narrowed := true }
def SchedLivesUptoSaid : Prop := schedLivesUptoRow.holds Try.pinned (OpenSpec.upto schedLivesSpec)

end Rows
end Go.Proofs.Ytinfniggaldheaa
