/-
  Plain Lean: the greedy schedule, as the program and its reference make it.
-/
import Derived.Test.Ytinfniggaldheabp
import Derived.Test.Ytinfniggaldheabk
namespace Go.Vs
open Go.X

theorem mget_mset {κ β : Type} [DecidableEq κ] (k : κ) (x : β) (v : κ) : ∀ m : List (κ × β), mget (mset m k x) v = if v = k then some x else mget m v
  | [] => by
    by_cases h : v = k
    · subst h; simp [mset, mget]
    · simp [mset, mget, h, Ne.symm h]
  | p :: m => by
    unfold mset
    by_cases hp : p.1 = k
    · rw [if_pos hp, mget]
      by_cases h : v = k
      · subst h; simp [hp]
      · have : ¬ p.1 = v := fun e => h (e ▸ hp)
        simp [h, this, mget]
    · rw [if_neg hp, mget, mget, mget_mset k x v m]
      by_cases h : p.1 = v
      · have : ¬ v = k := fun e => hp (h ▸ e)
        simp [h, this]
      · simp [h]

theorem setOf_inc {l : List Int} (h : inc l = true) : setOf l = l := inc_ext (inc_setOf _) h (fun y => mem_setOf l)
theorem inc_filter {p : Int → Bool} : ∀ {l : List Int}, inc l = true → inc (l.filter p) = true
  | [], _ => rfl
  | x :: l, h => by
    rw [List.filter_cons]
    split
    · exact inc_cons (inc_filter (inc_tail h)) (fun y hy => inc_lt h y (List.mem_filter.1 hy).1)
    · exact inc_filter (inc_tail h)
theorem inc_nodup {l : List Int} (h : inc l = true) : l.Nodup := by
  induction l with
  | nil => simp
  | cons x l ih => exact List.nodup_cons.2 ⟨fun hx => by have := inc_lt h x hx; omega, ih (inc_tail h)⟩

theorem gD {l : List Nat} {i : Nat} (h : i < l.length) : l.getD i 0 = l[i] := by simp [List.getD, h]
theorem erase_perm {l : List Nat} {i : Nat} (h : i < l.length) : (l[i] :: l.eraseIdx i).Perm l := by
  rw [List.eraseIdx_eq_take_drop_succ]
  have e : l.take i ++ l[i] :: l.drop (i + 1) = l := by rw [← List.drop_eq_getElem_cons h, List.take_append_drop]
  exact List.perm_middle.symm.trans (List.Perm.of_eq e)
theorem mem_erase {l : List Nat} (hnd : l.Nodup) {i : Nat} (h : i < l.length) (j : Nat) : j ∈ l.eraseIdx i ↔ j ∈ l ∧ j ≠ l[i] := by
  have hp := erase_perm h
  have hn := hp.symm.nodup hnd
  have hm : j ∈ l ↔ j = l[i] ∨ j ∈ l.eraseIdx i := by rw [← hp.mem_iff, List.mem_cons]
  rw [hm]
  constructor
  · intro hj
    exact ⟨.inr hj, fun e => (List.nodup_cons.1 hn).1 (e ▸ hj)⟩
  · rintro ⟨h1 | h1, h2⟩
    · exact absurd h1 h2
    · exact h1
/-- The variables of part i. -/
def pt (parts : List (List Int)) (i : Nat) : List Int := (parts[i]?).getD []
theorem pt_get {parts : List (List Int)} {i : Nat} (h : i < parts.length) : parts[i] = pt parts i := by simp [pt, h]

def aloneP (parts : List (List Int)) (left : List Nat) (k : Nat) (v : Int) : Bool := decide (v ∈ pt parts k) && !(left.any fun j => !decide (j = k) && decide (v ∈ pt parts j))
def aloneN (parts : List (List Int)) (left : List Nat) (k : Nat) (gone : List Int) : Nat := (gone.filter (aloneP parts left k)).length
def freshP (parts : List (List Int)) (ahead : List Nat) (v : Int) : Bool := !(ahead.any fun j => decide (v ∈ pt parts j))
def freshN (parts : List (List Int)) (ahead : List Nat) (k : Nat) : Nat := ((setOf (pt parts k)).filter (freshP parts ahead)).length

def better (parts : List (List Int)) (gone : List Int) (left ahead : List Nat) (a b : Nat) : Bool :=
  decide (aloneN parts left b gone < aloneN parts left a gone) || (decide (aloneN parts left a gone = aloneN parts left b gone) && decide (freshN parts ahead a < freshN parts ahead b))

/-- The place of the best among the first n of left. -/
def bestTo (parts : List (List Int)) (gone : List Int) (left ahead : List Nat) : Nat → Nat
  | 0 => 0
  | n + 1 => if better parts gone left ahead (left.getD n 0) (left.getD (bestTo parts gone left ahead n) 0) then n else bestTo parts gone left ahead n
def bestPos (parts : List (List Int)) (gone : List Int) (left ahead : List Nat) : Nat := bestTo parts gone left ahead left.length

theorem better_self (parts : List (List Int)) (gone : List Int) (left ahead : List Nat) (a : Nat) : better parts gone left ahead a a = false := by simp [better]
theorem bestTo_lt {parts : List (List Int)} {gone : List Int} {left ahead : List Nat} : ∀ {n : Nat}, 0 < n → bestTo parts gone left ahead n < n
  | n + 1, _ => by
    unfold bestTo
    split
    · omega
    · rcases Nat.eq_zero_or_pos n with rfl | h
      · simp [bestTo]
      · have := bestTo_lt (parts := parts) (gone := gone) (left := left) (ahead := ahead) h; omega

def planSeq (parts : List (List Int)) (gone : List Int) : Nat → List Nat → List Nat → List Nat
  | 0, _, ahead => ahead
  | n + 1, left, ahead => planSeq parts gone n (left.eraseIdx (bestPos parts gone left ahead)) (ahead ++ [left.getD (bestPos parts gone left ahead) 0])

theorem planSeq_perm {parts : List (List Int)} {gone : List Int} : ∀ (n : Nat) (left ahead : List Nat), left.length = n → ∃ rest, planSeq parts gone n left ahead = ahead ++ rest ∧ rest.Perm left
  | 0, left, ahead, h => ⟨[], by simp [planSeq], by have := List.eq_nil_of_length_eq_zero h; subst this; exact List.Perm.refl _⟩
  | n + 1, left, ahead, h => by
    have hb : bestPos parts gone left ahead < left.length := bestTo_lt (by omega)
    obtain ⟨rest, h1, h2⟩ := planSeq_perm n (left.eraseIdx (bestPos parts gone left ahead)) (ahead ++ [left.getD (bestPos parts gone left ahead) 0]) (by rw [List.length_eraseIdx_of_lt hb]; omega)
    refine ⟨left.getD (bestPos parts gone left ahead) 0 :: rest, by rw [planSeq, h1, List.append_assoc]; rfl, ?_⟩
    rw [gD hb]
    exact (List.Perm.cons _ h2).trans (erase_perm hb)

/-- The last place of fin whose part has v, or 0. -/
def lastTo (parts : List (List Int)) (fin : List Nat) (v : Int) : Nat → Nat
  | 0 => 0
  | n + 1 => if v ∈ pt parts (fin.getD n 0) then n else lastTo parts fin v n
def lastOf (parts : List (List Int)) (fin : List Nat) (v : Int) : Nat := lastTo parts fin v fin.length

theorem lastTo_skip {parts : List (List Int)} {fin : List Nat} {v : Int} {m : Nat} : ∀ (d : Nat), (∀ k, m ≤ k → k < m + d → v ∉ pt parts (fin.getD k 0)) → lastTo parts fin v (m + d) = lastTo parts fin v m
  | 0, _ => rfl
  | d + 1, h => by rw [← Nat.add_assoc, lastTo, if_neg (h _ (by omega) (by omega))]; exact lastTo_skip d (fun k h1 h2 => h k h1 (by omega))
theorem lastTo_le {parts : List (List Int)} {fin : List Nat} {v : Int} : ∀ (n : Nat), lastTo parts fin v n ≤ n - 1
  | 0 => Nat.le_refl _
  | n + 1 => by unfold lastTo; split; omega; have := lastTo_le (parts := parts) (fin := fin) (v := v) n; omega
theorem lastTo_spec {parts : List (List Int)} {fin : List Nat} {v : Int} : ∀ (n : Nat), (v ∈ pt parts (fin.getD (lastTo parts fin v n) 0) ∧ lastTo parts fin v n < n ∨ lastTo parts fin v n = 0 ∧ ∀ k, k < n → v ∉ pt parts (fin.getD k 0)) ∧ ∀ k, lastTo parts fin v n < k → k < n → v ∉ pt parts (fin.getD k 0)
  | 0 => ⟨.inr ⟨rfl, fun k h => by omega⟩, fun k _ h => by omega⟩
  | n + 1 => by
    have ih := lastTo_spec (parts := parts) (fin := fin) (v := v) n
    unfold lastTo
    split
    · rename_i h
      exact ⟨.inl ⟨h, by omega⟩, fun k h1 h2 => by omega⟩
    · rename_i h
      refine ⟨?_, fun k h1 h2 => ?_⟩
      · rcases ih.1 with h1 | h1
        · exact .inl ⟨h1.1, by omega⟩
        · refine .inr ⟨h1.1, fun k hk => ?_⟩
          rcases Nat.lt_or_ge k n with h2 | h2
          · exact h1.2 k h2
          · have : k = n := by omega
            subst this; exact h
      · rcases Nat.lt_or_ge k n with h3 | h3
        · exact ih.2 k h1 h3
        · have : k = n := by omega
          subst this; exact h

theorem lastOf_iff {parts : List (List Int)} {ahead rest : List Nat} {k : Nat} {v : Int} : lastOf parts (ahead ++ k :: rest) v = ahead.length ↔ (v ∈ pt parts k ∧ ∀ j ∈ rest, v ∉ pt parts j) ∨ (ahead = [] ∧ v ∉ pt parts k ∧ ∀ j ∈ rest, v ∉ pt parts j) := by
  have hs := lastTo_spec (parts := parts) (fin := ahead ++ k :: rest) (v := v) (ahead ++ k :: rest).length
  have hk : (ahead ++ k :: rest).getD ahead.length 0 = k := by simp
  have hr : ∀ j ∈ rest, ∃ i, ahead.length < i ∧ i < (ahead ++ k :: rest).length ∧ (ahead ++ k :: rest).getD i 0 = j := fun j hj => by
    obtain ⟨i, hi, rfl⟩ := List.getElem_of_mem hj
    exact ⟨ahead.length + 1 + i, by omega, by simp; omega, by rw [gD (by simp; omega), List.getElem_append_right (by omega)]; simp [Nat.add_assoc, Nat.add_comm 1 i]⟩
  constructor
  · intro h
    unfold lastOf at h
    rw [h, hk] at hs
    have h2 : ∀ j ∈ rest, v ∉ pt parts j := fun j hj => by
      obtain ⟨i, h1, h2, h3⟩ := hr j hj
      exact h3 ▸ hs.2 i h1 h2
    rcases hs.1 with h1 | h1
    · exact .inl ⟨h1.1, h2⟩
    · exact .inr ⟨List.eq_nil_of_length_eq_zero h1.1, hk ▸ h1.2 ahead.length (by simp), h2⟩
  · have up : (∀ j ∈ rest, v ∉ pt parts j) → lastOf parts (ahead ++ k :: rest) v = lastTo parts (ahead ++ k :: rest) v (ahead.length + 1) := fun h => by
      unfold lastOf
      rw [show (ahead ++ k :: rest).length = ahead.length + 1 + rest.length by simp; omega]
      refine lastTo_skip _ (fun i h1 h2 => ?_)
      have := h rest[i - (ahead.length + 1)] (List.getElem_mem (by omega))
      rw [gD (by simp; omega), List.getElem_append_right (by omega)]
      simp only [List.getElem_cons, show ¬ i - ahead.length = 0 by omega, dite_false]
      simpa [show i - ahead.length - 1 = i - (ahead.length + 1) by omega] using this
    rintro (⟨h1, h2⟩ | ⟨h1, h2, h3⟩)
    · rw [up h2, lastTo, if_pos (by rw [hk]; exact h1)]
    · subst h1
      rw [up h3, lastTo, if_neg (by rw [hk]; exact h2)]; rfl

/-- The steps, up to the first n of fin: part and variables. -/
def outOf (parts : List (List Int)) (gone : List Int) (fin : List Nat) (i : Nat) : List Int := gone.filter fun v => decide (lastOf parts fin v = i)
def stepsTo (parts : List (List Int)) (gone : List Int) (fin : List Nat) (n : Nat) : List (Int × List Int) := (List.range n).map fun i => ((fin.getD i 0 : Nat), outOf parts gone fin i)

/-- What is known while the schedule is made. -/
structure Plan (parts : List (List Int)) (gone : List Int) (left ahead : List Nat) : Prop where
  sorted : left.Pairwise (· < ·)
  small : ∀ j ∈ left ++ ahead, j < parts.length
  fin : planSeq parts gone left.length left ahead = planSeq parts gone parts.length (List.range parts.length) []
  all : left.length + ahead.length = parts.length
  perm : (ahead ++ left).Perm (List.range parts.length)

theorem Plan.start {parts : List (List Int)} {gone : List Int} : Plan parts gone (List.range parts.length) [] :=
  ⟨List.pairwise_lt_range, fun j hj => by simpa using hj, by simp, by simp, by simp⟩

theorem Plan.next {parts : List (List Int)} {gone : List Int} {left ahead : List Nat} (h : Plan parts gone left ahead) (hl : 0 < left.length) :
    Plan parts gone (left.eraseIdx (bestPos parts gone left ahead)) (ahead ++ [left.getD (bestPos parts gone left ahead) 0]) := by
  have hb : bestPos parts gone left ahead < left.length := bestTo_lt hl
  have hg := gD (l := left) hb
  refine ⟨h.sorted.sublist (List.eraseIdx_sublist _ _), fun j hj => ?_, ?_, ?_, ?_⟩
  · apply h.small
    simp only [List.mem_append, List.mem_singleton] at hj ⊢
    rcases hj with hj | hj | hj
    · exact .inl (List.mem_of_mem_eraseIdx hj)
    · exact .inr hj
    · exact .inl (hj ▸ hg ▸ List.getElem_mem hb)
  · rw [← h.fin, List.length_eraseIdx_of_lt hb]
    obtain ⟨n, hn⟩ : ∃ n, left.length = n + 1 := ⟨left.length - 1, by omega⟩
    rw [hn, planSeq, Nat.add_sub_cancel]
  · rw [List.length_eraseIdx_of_lt hb, List.length_append, List.length_singleton]; have := h.all; omega
  · refine List.Perm.trans ?_ h.perm
    rw [List.append_assoc, List.singleton_append, hg]
    exact List.Perm.append_left _ (erase_perm hb)

theorem Plan.fin_eq {parts : List (List Int)} {gone : List Int} {left ahead : List Nat} (h : Plan parts gone left ahead) (hl : 0 < left.length) :
    ∃ rest, planSeq parts gone parts.length (List.range parts.length) [] = ahead ++ left.getD (bestPos parts gone left ahead) 0 :: rest ∧ rest.Perm (left.eraseIdx (bestPos parts gone left ahead)) := by
  have hn := h.next hl
  obtain ⟨rest, h1, h2⟩ := planSeq_perm (parts := parts) (gone := gone) _ (left.eraseIdx (bestPos parts gone left ahead)) (ahead ++ [left.getD (bestPos parts gone left ahead) 0]) rfl
  refine ⟨rest, ?_, h2⟩
  rw [← hn.fin, h1, List.append_assoc, List.singleton_append]

/-- The variables that go with the next part. -/
theorem outOf_next {parts : List (List Int)} {gone : List Int} {left ahead : List Nat} (h : Plan parts gone left ahead) (hl : 0 < left.length) (v : Int) :
    v ∈ outOf parts gone (planSeq parts gone parts.length (List.range parts.length) []) ahead.length ↔ v ∈ gone ∧ (aloneP parts left (left.getD (bestPos parts gone left ahead) 0) v = true ∨ (ahead = [] ∧ ∀ j ∈ left, v ∉ pt parts j)) := by
  have hb : bestPos parts gone left ahead < left.length := bestTo_lt hl
  have hg := gD (l := left) hb
  obtain ⟨rest, h1, h2⟩ := h.fin_eq hl
  generalize left.getD (bestPos parts gone left ahead) 0 = k at *
  have hm : ∀ j, j ∈ rest ↔ j ∈ left ∧ j ≠ k := fun j => by
    rw [h2.mem_iff, hg]
    have hnd : left.Nodup := h.sorted.imp (fun h => by omega)
    exact mem_erase hnd hb j
  have hk : k ∈ left := hg ▸ List.getElem_mem hb
  unfold outOf
  rw [List.mem_filter, decide_eq_true_eq, h1, lastOf_iff]
  unfold aloneP
  simp only [Bool.and_eq_true, decide_eq_true_eq, Bool.not_eq_true', List.any_eq_false, Bool.not_eq_eq_eq_not, Bool.not_true, decide_eq_false_iff_not, not_and, hm]
  constructor
  · rintro ⟨hv, h | h⟩
    · exact ⟨hv, .inl ⟨h.1, fun j hj hne => h.2 j ⟨hj, hne⟩⟩⟩
    · exact ⟨hv, .inr ⟨h.1, fun j hj => by
        by_cases he : j = k
        · exact he ▸ h.2.1
        · exact h.2.2 j ⟨hj, he⟩⟩⟩
  · rintro ⟨hv, h | h⟩
    · exact ⟨hv, .inl ⟨h.1, fun j hj => h.2 j hj.1 hj.2⟩⟩
    · exact ⟨hv, .inr ⟨h.1, h.2 k hk, fun j hj => h.2 j hj.1⟩⟩
end Go.Vs
