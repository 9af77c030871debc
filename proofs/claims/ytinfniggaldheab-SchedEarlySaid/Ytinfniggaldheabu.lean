/-
  The schedule that the program makes.
-/
import Derived.Test.Ytinfniggaldheabt
namespace Go.Proofs.Ytinfniggaldheab
open Go Go.X Go.Vs

def cmpC (a b : Sched_choice) : Int := orI [cmpI b.out.length a.out.length, cmpI a.come b.come, cmpI a.part b.part]
theorem sched_Plan_1_ok {a b : Sched_choice} {Q : Int → Prop} (h : Q (cmpC a b)) : sched_Plan_1 a b Q := sched_Plan_1_w (by
  unfold sched_Plan_1_v; intro _ _ _ _ _ _
  exact cmp_Compare_ok fun _ => cmp_Compare_ok fun _ => cmp_Compare_ok fun _ => cmp_Or_ok fun _ => h)

theorem eta_choice (c : Sched_choice) : (⟨c.part, c.out, c.come⟩ : Sched_choice) = c := rfl
/-- The first in the order of cmpC, by its place among the first n. -/
def firstTo (l : List Sched_choice) : Nat → Nat
  | 0 => 0
  | n + 1 => if n = 0 then 0 else if cmpC (l.getD n ⟨0, [], 0⟩) (l.getD (firstTo l n) ⟨0, [], 0⟩) < 0 then n else firstTo l n
theorem gDc {l : List Sched_choice} {i : Nat} (h : i < l.length) : l.getD i ⟨0, [], 0⟩ = l[i] := by simp [List.getD, h]
theorem firstTo_lt {l : List Sched_choice} : ∀ {n : Nat}, 0 < n → firstTo l n < n
  | n + 1, _ => by
    unfold firstTo
    split
    · omega
    · split
      · omega
      · have := firstTo_lt (l := l) (n := n) (by omega); omega
theorem sched_first_ok {l : List Sched_choice} {F : Sched_choice × Sched_choice × Unit → (Int → Prop) → Prop} {Q : Sched_choice → Prop} (hF : ∀ a b Q, Q (cmpC a b) → F (a, b, ()) Q) (hl : 0 < l.length) (h : Q (l.getD (firstTo l l.length) ⟨0, [], 0⟩)) :
    sched_first_choice l F () Q := sched_first_choice_w (by
  unfold sched_first_choice_v
  refine ⟨hl, hl, fun _ => ?_⟩
  refine ⟨fun j x y z => (⟨x, y, z⟩ : Sched_choice) = l.getD (firstTo l (j + 1)) ⟨0, [], 0⟩, ?_, ?_, ?_⟩
  · show l[0] = _
    rw [show firstTo l (0 + 1) = 0 from rfl, gDc hl]
  · rintro j hj x y z hI _ _
    have hj' : j + 1 < l.length := by simp at hj; omega
    have hd : (l.drop 1)[j] = l[j + 1] := by simp [Nat.add_comm]
    have hst : firstTo l (j + 1 + 1) = if cmpC l[j + 1] (l.getD (firstTo l (j + 1)) ⟨0, [], 0⟩) < 0 then j + 1 else firstTo l (j + 1) := by rw [firstTo, if_neg (by omega), gDc hj']
    refine ⟨hj, hF _ _ _ fun _ => ⟨fun c => ?_, fun c => ?_⟩⟩
    · rw [hI, hd] at c
      show (l.drop 1)[j] = _
      rw [hd, hst, if_pos c, gDc hj']
    · rw [hI, hd] at c
      show (⟨x, y, z⟩ : Sched_choice) = _
      rw [hI, hst, if_neg c]
  · rintro x y z hI _ _
    have : (l.drop 1).length + 1 = l.length := by simp; omega
    rw [this] at hI
    rw [hI]; exact h)

def schSteps (parts : List (List Int)) (gone : List Int) (fin : List Nat) (n : Nat) : List Sched_Step := (List.range n).map fun i => ⟨(fin.getD i 0 : Nat), outOf parts gone fin i⟩
theorem schSteps_succ {parts : List (List Int)} {gone : List Int} {fin : List Nat} {n : Nat} : schSteps parts gone fin (n + 1) = schSteps parts gone fin n ++ [⟨(fin.getD n 0 : Nat), outOf parts gone fin n⟩] := by
  unfold schSteps; rw [List.range_succ, List.map_append]; rfl

/-- How many of the parts left have v. -/
def cnt (parts : List (List Int)) (left : List Nat) (v : Int) : Nat := (left.filter fun j => decide (v ∈ pt parts j)).length
theorem cnt_le {parts : List (List Int)} {left : List Nat} {v : Int} : cnt parts left v ≤ left.length := List.length_filter_le _ _
theorem cnt_zero {parts : List (List Int)} {left : List Nat} {v : Int} : cnt parts left v = 0 ↔ ∀ j ∈ left, v ∉ pt parts j := by
  unfold cnt; rw [List.length_eq_zero_iff, List.filter_eq_nil_iff]; simp
theorem cnt_erase {parts : List (List Int)} {left : List Nat} {v : Int} {b : Nat} (hb : b < left.length) : cnt parts left v = cnt parts (left.eraseIdx b) v + if v ∈ pt parts left[b] then 1 else 0 := by
  have hp := ((erase_perm hb).filter fun j => decide (v ∈ pt parts j)).length_eq
  unfold cnt
  rw [← hp, List.filter_cons]
  split <;> rename_i h <;> simp only [decide_eq_true_eq] at h <;> simp [h]
theorem cnt_one {parts : List (List Int)} {left : List Nat} {v : Int} {k : Nat} (hnd : left.Nodup) (hk : k ∈ left) (hv : v ∈ pt parts k) : cnt parts left v = 1 ↔ ∀ j ∈ left, j ≠ k → v ∉ pt parts j := by
  obtain ⟨b, hb, rfl⟩ := List.getElem_of_mem hk
  rw [cnt_erase hb, if_pos hv]
  rw [show (cnt parts (left.eraseIdx b) v + 1 = 1) = (cnt parts (left.eraseIdx b) v = 0) by simp, cnt_zero]
  constructor
  · intro h j hj hne
    exact h j ((mem_erase hnd hb j).2 ⟨hj, hne⟩)
  · intro h j hj
    have := (mem_erase hnd hb j).1 hj
    exact h j this.1 this.2

/-- The choice of part k. -/
def choiceOf (parts : List (List Int)) (gone : List Int) (left ahead : List Nat) (k : Nat) : Sched_choice := ⟨k, gone.filter (aloneP parts left k), freshN parts ahead k⟩

theorem cmpI_neg {a b : Int} : cmpI a b < 0 ↔ a < b := by
  unfold cmpI
  by_cases h1 : a < b
  · rw [if_pos h1]; omega
  · rw [if_neg h1]
    by_cases h2 : b < a
    · rw [if_pos h2]; omega
    · rw [if_neg h2]; omega
theorem cmpI_zero {a b : Int} : cmpI a b = 0 ↔ a = b := by
  unfold cmpI
  by_cases h1 : a < b
  · rw [if_pos h1]; omega
  · rw [if_neg h1]
    by_cases h2 : b < a
    · rw [if_pos h2]; omega
    · rw [if_neg h2]; omega
theorem cmpC_neg {a b : Sched_choice} (h : b.part < a.part) : cmpC a b < 0 ↔ b.out.length < a.out.length ∨ (a.out.length = b.out.length ∧ a.come < b.come) := by
  have e : cmpI a.part b.part = 1 := by unfold cmpI; rw [if_neg (by omega), if_pos h]
  unfold cmpC orI
  by_cases h1 : cmpI b.out.length a.out.length = 0
  · rw [if_pos h1]
    have h1' := cmpI_zero.1 h1
    unfold orI
    by_cases h2 : cmpI a.come b.come = 0
    · rw [if_pos h2]
      have h2' := cmpI_zero.1 h2
      unfold orI
      rw [e]; simp; omega
    · rw [if_neg h2, cmpI_neg]; omega
  · rw [if_neg h1, cmpI_neg]
    have : ¬ ((b.out.length : Int) = a.out.length) := fun h => h1 (cmpI_zero.2 h)
    omega

theorem firstTo_best {parts : List (List Int)} {gone : List Int} {left ahead : List Nat} (hs : left.Pairwise (· < ·)) : ∀ n, n ≤ left.length → firstTo (left.map (choiceOf parts gone left ahead)) n = bestTo parts gone left ahead n
  | 0, _ => rfl
  | n + 1, h => by
    have ih := firstTo_best (parts := parts) (gone := gone) (ahead := ahead) hs n (by omega)
    have hn : n < left.length := by omega
    unfold firstTo bestTo
    rw [ih]
    by_cases h0 : n = 0
    · subst h0
      rw [if_pos rfl]; unfold bestTo; split <;> rfl
    · rw [if_neg h0]
      have hb : bestTo parts gone left ahead n < n := bestTo_lt (by omega)
      rw [gDc (by simpa using hn), gDc (by simp; omega), gD hn, gD (by omega)]
      simp only [List.getElem_map]
      have hlt : left[bestTo parts gone left ahead n] < left[n] := List.pairwise_iff_getElem.1 hs _ _ _ _ hb
      have := cmpC_neg (a := choiceOf parts gone left ahead left[n]) (b := choiceOf parts gone left ahead left[bestTo parts gone left ahead n]) (by unfold choiceOf; simp; omega)
      have e2 : better parts gone left ahead left[n] left[bestTo parts gone left ahead n] = true ↔ cmpC (choiceOf parts gone left ahead left[n]) (choiceOf parts gone left ahead left[bestTo parts gone left ahead n]) < 0 := by
        rw [this]; unfold better choiceOf aloneN; simp only [Bool.or_eq_true, Bool.and_eq_true, decide_eq_true_eq]; omega
      by_cases hbt : better parts gone left ahead left[n] left[bestTo parts gone left ahead n] = true
      · rw [if_pos (e2.1 hbt), if_pos hbt]
      · rw [if_neg (fun h => hbt (e2.2 h)), if_neg hbt]

theorem len_flat {parts : List (List Int)} (hp : ∀ p ∈ parts, p.length ≤ 10) : ∀ l : List Nat, ((l.map (pt parts)).flatten).length ≤ l.length * 10
  | [] => by simp
  | j :: l => by
    have h1 : (pt parts j).length ≤ 10 := by
      unfold pt
      cases h : parts[j]? with
      | none => simp
      | some p => exact hp p (List.mem_of_getElem? h)
    have := len_flat hp l
    rw [List.map_cons, List.flatten_cons, List.length_append, List.length_cons]; omega
end Go.Proofs.Ytinfniggaldheab
