/-
  The schedules that the program and its reference make: both are the greedy one.
-/
import Derived.Test.Ytinfniggaldheabs
import Derived.Test.Ytinfniggaldheabq
namespace Go.Proofs.Ytinfniggaldheab
open Go Go.X Go.Vs

def ci (l : List Nat) : List Int := l.map fun (j : Nat) => (j : Int)
theorem ci_len {l : List Nat} : (ci l).length = l.length := by simp [ci]
theorem ci_get {l : List Nat} {i : Nat} (h : i < (ci l).length) : (ci l)[i] = ((l[i]'(by simpa [ci] using h) : Nat) : Int) := by simp [ci]
theorem ci_app {a b : List Nat} : ci (a ++ b) = ci a ++ ci b := by simp [ci]

def refSteps (parts : List (List Int)) (gone : List Int) (fin : List Nat) (n : Nat) : List Ref42_Step := (List.range n).map fun i => ⟨(fin.getD i 0 : Nat), outOf parts gone fin i⟩
theorem refSteps_succ {parts : List (List Int)} {gone : List Int} {fin : List Nat} {n : Nat} : refSteps parts gone fin (n + 1) = refSteps parts gone fin n ++ [⟨(fin.getD n 0 : Nat), outOf parts gone fin n⟩] := by
  unfold refSteps; rw [List.range_succ, List.map_append]; rfl

def finOf (parts : List (List Int)) (out : List Int) : List Nat := planSeq parts (setOf out) parts.length (List.range parts.length) []

end Go.Proofs.Ytinfniggaldheab
