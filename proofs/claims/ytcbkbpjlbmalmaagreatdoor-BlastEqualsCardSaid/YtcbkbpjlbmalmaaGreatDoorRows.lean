/-
  NARROWER THAN 'FOR EVERY INPUT', by the rows' own cells (each row's printed sentence says how): BlastTruths: loops, laid · BlastEquals: loops, laid · BlastStates: laid · BlastParts: loops, laid · BlastRefuses: loops, laid.
  DERIVED. THE GIVEN ROWS OF THIS SEAT. 5 by the template 'for every input the law returns true; each argument reads behind the call as it read before'; 0 by the template 'total and deterministic' (their statements: YtcbkbpjlbmalmaaGreatDoorTotals.lean).
  GIVEN WITH THE SEED: the statements are not yours to turn. If you find one false, say at which input.
  Laid BY PROGRAM, IN A SANDBOX (cutbox-rows.mjs): the forced cells as the released guide's own fill.sh prints them over the translation bf8f6cae77adacbb… (all of the seat's roots in one cut). By AI agents, Wed Nov 11 2026. No macro, syntax, notation, axiom, sorry.
-/
import Derived.Test.YtcbkbpjlbmalmaaGreatDoorChecked
import GoSem.Claim
import GoSem.ClaimJoined
import GoSem.ClaimMapViews
import Derived.JoinedTies
import Derived.KernelRfl
namespace Go.Proofs.YtcbkbpjlbmalmaaGreatDoor
/- THE CELL 'sum', in the pinned program and in every row, IS THE sha256 OF THE DUMP (.gsa) THAT YtcbkbpjlbmalmaaGreatDoorProg.lean LOADS. Nothing in Lean hashes anything: it is a label: what it is worth is what the hold of that sum in a sandbox is worth. -/
noncomputable def Tryz.pinned : Pinned := { name := "ytcbkbpjlbmalmaagreatdoor", sum := "bf8f6cae77adacbb9c724593566d5b16cbe55cf8630c23b364d478ea8f21d6db", checked := Tryz.checked }
namespace Rows
def none {H : Type} : Left H := { results := [], args := [] }

/- WHAT THE LISTED PACKAGE-LEVEL VARIABLES READ AS WHEN THE CALL BEGINS. Each datum BY PROGRAM (the guide's laid-datum.mjs) off the statement by which the dump's own 'gosem.cut.vars' lays the variable. In a bare row this is a premise. The card (YtcbkbpjlbmalmaaGreatDoorCards.lean) ties it to the program's text. -/
def laid_voussoir_lexi_words {H : Type} : DataW H := .agg [.lit (.string [65]), .lit (.string [65, 70]), .lit (.string [65, 71]), .lit (.string [65, 88]), .lit (.string [69]), .lit (.string [69, 70]), .lit (.string [69, 71]), .lit (.string [69, 88]), .lit (.string [85]), .lit (.string [98, 111, 111, 108]), .lit (.string [100, 101, 102]), .lit (.string [101, 108, 115, 101]), .lit (.string [102, 97, 105, 114]), .lit (.string [102, 97, 108, 115, 101]), .lit (.string [105, 102]), .lit (.string [105, 110, 105, 116]), .lit (.string [105, 110, 118, 97, 114]), .lit (.string [109, 111, 100]), .lit (.string [110, 101, 120, 116]), .lit (.string [115, 112, 101, 99]), .lit (.string [116, 104, 101, 110]), .lit (.string [116, 114, 97, 110, 115]), .lit (.string [116, 114, 117, 101]), .lit (.string [118, 97, 114])]

/-- 'voussoirlaw38.BlastTruths': WHATEVER THE INPUT: true; the input reads as it did. -/
def blastTruthsSpec : ChangeSpec := { name := "blastTruths", fn := fun _ => fun
  | [d1, d2] => { results := [.lit (.bool true)], args := [d1, d2] }
  | _ => none }
def blastTruthsRow : OpenClaim := { program := "ytcbkbpjlbmalmaagreatdoor", sum := "bf8f6cae77adacbb9c724593566d5b16cbe55cf8630c23b364d478ea8f21d6db", func := "voussoir/voussoirlaw38.BlastTruths", spec := "blastTruths", unfollowed := true, recurses := true, named := ["voussoir/lexi.words"], loops := true, plainKeys := false, apart := false, laid := [("voussoir/lexi.words", laid_voussoir_lexi_words)] }
def BlastTruthsSaid : Prop := blastTruthsRow.holds Tryz.pinned (OpenSpec.ofChange blastTruthsSpec)

/-- ITS FALSE NEIGHBOUR: 'it returns false'. Refute it at one input. -/
def blastTruthsWrong : ChangeSpec := { name := "blastTruths", fn := fun _ => fun
  | [d1, d2] => { results := [.lit (.bool false)], args := [d1, d2] }
  | _ => none }
def BlastTruthsWrongFalsely : Prop := blastTruthsRow.holds Tryz.pinned (OpenSpec.ofChange blastTruthsWrong)

/-- 'voussoirlaw38.BlastEquals': WHATEVER THE INPUT: true; the input reads as it did. -/
def blastEqualsSpec : ChangeSpec := { name := "blastEquals", fn := fun _ => fun
  | [d1, d2, d3] => { results := [.lit (.bool true)], args := [d1, d2, d3] }
  | _ => none }
def blastEqualsRow : OpenClaim := { program := "ytcbkbpjlbmalmaagreatdoor", sum := "bf8f6cae77adacbb9c724593566d5b16cbe55cf8630c23b364d478ea8f21d6db", func := "voussoir/voussoirlaw38.BlastEquals", spec := "blastEquals", unfollowed := true, recurses := true, named := ["voussoir/lexi.words"], loops := true, plainKeys := false, apart := false, laid := [("voussoir/lexi.words", laid_voussoir_lexi_words)] }
def BlastEqualsSaid : Prop := blastEqualsRow.holds Tryz.pinned (OpenSpec.ofChange blastEqualsSpec)

/-- ITS FALSE NEIGHBOUR: 'it returns false'. Refute it at one input. -/
def blastEqualsWrong : ChangeSpec := { name := "blastEquals", fn := fun _ => fun
  | [d1, d2, d3] => { results := [.lit (.bool false)], args := [d1, d2, d3] }
  | _ => none }
def BlastEqualsWrongFalsely : Prop := blastEqualsRow.holds Tryz.pinned (OpenSpec.ofChange blastEqualsWrong)

/-- 'voussoirlaw38.BlastStates': WHATEVER THE INPUT: true; the input reads as it did. -/
def blastStatesSpec : ChangeSpec := { name := "blastStates", fn := fun _ => fun
  | [d1, d2, d3] => { results := [.lit (.bool true)], args := [d1, d2, d3] }
  | _ => none }
def blastStatesRow : OpenClaim := { program := "ytcbkbpjlbmalmaagreatdoor", sum := "bf8f6cae77adacbb9c724593566d5b16cbe55cf8630c23b364d478ea8f21d6db", func := "voussoir/voussoirlaw38.BlastStates", spec := "blastStates", unfollowed := true, recurses := true, named := ["voussoir/lexi.words"], plainKeys := false, apart := false, laid := [("voussoir/lexi.words", laid_voussoir_lexi_words)] }
def BlastStatesSaid : Prop := blastStatesRow.holds Tryz.pinned (OpenSpec.ofChange blastStatesSpec)

/-- ITS FALSE NEIGHBOUR: 'it returns false'. Refute it at one input. -/
def blastStatesWrong : ChangeSpec := { name := "blastStates", fn := fun _ => fun
  | [d1, d2, d3] => { results := [.lit (.bool false)], args := [d1, d2, d3] }
  | _ => none }
def BlastStatesWrongFalsely : Prop := blastStatesRow.holds Tryz.pinned (OpenSpec.ofChange blastStatesWrong)

/-- 'voussoirlaw38.BlastParts': WHATEVER THE INPUT: true; the input reads as it did. -/
def blastPartsSpec : ChangeSpec := { name := "blastParts", fn := fun _ => fun
  | [d1, d2] => { results := [.lit (.bool true)], args := [d1, d2] }
  | _ => none }
def blastPartsRow : OpenClaim := { program := "ytcbkbpjlbmalmaagreatdoor", sum := "bf8f6cae77adacbb9c724593566d5b16cbe55cf8630c23b364d478ea8f21d6db", func := "voussoir/voussoirlaw38.BlastParts", spec := "blastParts", unfollowed := true, recurses := true, named := ["voussoir/lexi.words"], loops := true, plainKeys := false, apart := false, laid := [("voussoir/lexi.words", laid_voussoir_lexi_words)] }
def BlastPartsSaid : Prop := blastPartsRow.holds Tryz.pinned (OpenSpec.ofChange blastPartsSpec)

/-- ITS FALSE NEIGHBOUR: 'it returns false'. Refute it at one input. -/
def blastPartsWrong : ChangeSpec := { name := "blastParts", fn := fun _ => fun
  | [d1, d2] => { results := [.lit (.bool false)], args := [d1, d2] }
  | _ => none }
def BlastPartsWrongFalsely : Prop := blastPartsRow.holds Tryz.pinned (OpenSpec.ofChange blastPartsWrong)

/-- 'voussoirlaw38.BlastRefuses': WHATEVER THE INPUT: true; the input reads as it did. -/
def blastRefusesSpec : ChangeSpec := { name := "blastRefuses", fn := fun _ => fun
  | [d1, d2] => { results := [.lit (.bool true)], args := [d1, d2] }
  | _ => none }
def blastRefusesRow : OpenClaim := { program := "ytcbkbpjlbmalmaagreatdoor", sum := "bf8f6cae77adacbb9c724593566d5b16cbe55cf8630c23b364d478ea8f21d6db", func := "voussoir/voussoirlaw38.BlastRefuses", spec := "blastRefuses", unfollowed := true, recurses := true, named := ["voussoir/lexi.words"], loops := true, plainKeys := false, apart := false, laid := [("voussoir/lexi.words", laid_voussoir_lexi_words)] }
def BlastRefusesSaid : Prop := blastRefusesRow.holds Tryz.pinned (OpenSpec.ofChange blastRefusesSpec)

/-- ITS FALSE NEIGHBOUR: 'it returns false'. Refute it at one input. -/
def blastRefusesWrong : ChangeSpec := { name := "blastRefuses", fn := fun _ => fun
  | [d1, d2] => { results := [.lit (.bool false)], args := [d1, d2] }
  | _ => none }
def BlastRefusesWrongFalsely : Prop := blastRefusesRow.holds Tryz.pinned (OpenSpec.ofChange blastRefusesWrong)

/- THE SECOND FORM. 'bulk': how many values and letters a reading holds, each counted each time it is reached (what is shared counts as often as it is met; a slice's spare places count too). A statement '..UptoSaid' is the law's where the arguments, and the package variables that the reading takes, are together of bulk at most 1048576: NARROWER than '..Said'. Prove '..Said' where nothing that the law and all that it calls make is longer than what came in: it says more and counts as full. Else prove '..UptoSaid'. A law counts once. -/
mutual
def uptoBulk {H : Type} : DataW H → Nat
  | .lit (.string bytes) => bytes.length + 1
  | .lit _ => 1
  | .nil => 1
  | .ptr d => uptoBulk d + 1
  | .slice elems spare => uptoBulkAll elems + uptoBulkAll spare + 1
  | .agg parts => uptoBulkAll parts + 1
  | .iface _ d => uptoBulk d + 1
  | .map entries => uptoBulkEntries entries + 1
  | .held _ => 1
def uptoBulkAll {H : Type} : List (DataW H) → Nat
  | [] => 0
  | d :: r => uptoBulk d + uptoBulkAll r
def uptoBulkEntries {H : Type} : List (Lit × DataW H) → Nat
  | [] => 0
  | x :: r => uptoBulkEntry x + uptoBulkEntries r
def uptoBulkEntry {H : Type} : Lit × DataW H → Nat
  | (.string bytes, d) => bytes.length + uptoBulk d + 1
  | (_, d) => uptoBulk d + 1
 end
def uptoSmall : (H : Type) → List (DataW H) → Bool := fun _ ds => decide (uptoBulkAll ds ≤ 1048576)
def OpenSpec.upto (s : _root_.Go.ChangeSpec) : _root_.Go.OpenSpec := { _root_.Go.OpenSpec.ofChange s with cond := some uptoSmall }

/-- 'voussoirlaw38.BlastTruths', WHERE WHAT IT READS IS OF BULK AT MOST 1048576: true; the input reads as it did. -/
def blastTruthsUptoRow : OpenClaim := { program := "ytcbkbpjlbmalmaagreatdoor", sum := "bf8f6cae77adacbb9c724593566d5b16cbe55cf8630c23b364d478ea8f21d6db", func := "voussoir/voussoirlaw38.BlastTruths", spec := "blastTruths", unfollowed := true, recurses := true, named := ["voussoir/lexi.words"], loops := true, plainKeys := false, apart := false, laid := [("voussoir/lexi.words", laid_voussoir_lexi_words)], narrowed := true }
def BlastTruthsUptoSaid : Prop := blastTruthsUptoRow.holds Tryz.pinned (OpenSpec.upto blastTruthsSpec)

/-- 'voussoirlaw38.BlastEquals', WHERE WHAT IT READS IS OF BULK AT MOST 1048576: true; the input reads as it did. -/
def blastEqualsUptoRow : OpenClaim := { program := "ytcbkbpjlbmalmaagreatdoor", sum := "bf8f6cae77adacbb9c724593566d5b16cbe55cf8630c23b364d478ea8f21d6db", func := "voussoir/voussoirlaw38.BlastEquals", spec := "blastEquals", unfollowed := true, recurses := true, named := ["voussoir/lexi.words"], loops := true, plainKeys := false, apart := false, laid := [("voussoir/lexi.words", laid_voussoir_lexi_words)], narrowed := true }
def BlastEqualsUptoSaid : Prop := blastEqualsUptoRow.holds Tryz.pinned (OpenSpec.upto blastEqualsSpec)

/-- 'voussoirlaw38.BlastStates', WHERE WHAT IT READS IS OF BULK AT MOST 1048576: true; the input reads as it did. -/
def blastStatesUptoRow : OpenClaim := { program := "ytcbkbpjlbmalmaagreatdoor", sum := "bf8f6cae77adacbb9c724593566d5b16cbe55cf8630c23b364d478ea8f21d6db", func := "voussoir/voussoirlaw38.BlastStates", spec := "blastStates", unfollowed := true, recurses := true, named := ["voussoir/lexi.words"], plainKeys := false, apart := false, laid := [("voussoir/lexi.words", laid_voussoir_lexi_words)], narrowed := true }
def BlastStatesUptoSaid : Prop := blastStatesUptoRow.holds Tryz.pinned (OpenSpec.upto blastStatesSpec)

/-- 'voussoirlaw38.BlastParts', WHERE WHAT IT READS IS OF BULK AT MOST 1048576: true; the input reads as it did. -/
def blastPartsUptoRow : OpenClaim := { program := "ytcbkbpjlbmalmaagreatdoor", sum := "bf8f6cae77adacbb9c724593566d5b16cbe55cf8630c23b364d478ea8f21d6db", func := "voussoir/voussoirlaw38.BlastParts", spec := "blastParts", unfollowed := true, recurses := true, named := ["voussoir/lexi.words"], loops := true, plainKeys := false, apart := false, laid := [("voussoir/lexi.words", laid_voussoir_lexi_words)], narrowed := true }
def BlastPartsUptoSaid : Prop := blastPartsUptoRow.holds Tryz.pinned (OpenSpec.upto blastPartsSpec)

/-- 'voussoirlaw38.BlastRefuses', WHERE WHAT IT READS IS OF BULK AT MOST 1048576: true; the input reads as it did. -/
def blastRefusesUptoRow : OpenClaim := { program := "ytcbkbpjlbmalmaagreatdoor", sum := "bf8f6cae77adacbb9c724593566d5b16cbe55cf8630c23b364d478ea8f21d6db", func := "voussoir/voussoirlaw38.BlastRefuses", spec := "blastRefuses", unfollowed := true, recurses := true, named := ["voussoir/lexi.words"], loops := true, plainKeys := false, apart := false, laid := [("voussoir/lexi.words", laid_voussoir_lexi_words)], narrowed := true }
def BlastRefusesUptoSaid : Prop := blastRefusesUptoRow.holds Tryz.pinned (OpenSpec.upto blastRefusesSpec)

end Rows
end Go.Proofs.YtcbkbpjlbmalmaaGreatDoor
