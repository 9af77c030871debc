/-
  The schedules that the program and its reference make: both are the greedy one.
-/
import Derived.Test.Ytinfniggaldheaas
import Derived.Test.Ytinfniggaldheaaq
namespace Go.Proofs.Ytinfniggaldheaa
open Go Go.X Go.Vs

def ci (l : List Nat) : List Int := l.map fun (j : Nat) => (j : Int)
theorem ci_len {l : List Nat} : (ci l).length = l.length := by simp [ci]
theorem ci_get {l : List Nat} {i : Nat} (h : i < (ci l).length) : (ci l)[i] = ((l[i]'(by simpa [ci] using h) : Nat) : Int) := by simp [ci]
theorem ci_app {a b : List Nat} : ci (a ++ b) = ci a ++ ci b := by simp [ci]

theorem ref42_alone_ok {parts : List (List Int)} {left : List Nat} {k : Nat} {out : List Int} {Q : Int → Prop} (hk : k < parts.length) (hl : ∀ j ∈ left, j < parts.length) (ho : out.length ≤ 1000000) (h : Q (aloneN parts left k out)) :
    ref42_alone parts (ci left) k out Q := ref42_alone_w fun _ => by
  unfold ref42_alone_v
  simp only [Int.toNat_natCast]
  refine ⟨fun j n => n = ((out.take j).filter (aloneP parts left k)).length, by simp, ?_, ?_⟩
  · rintro j hj n rfl _
    have hb : ((out.take j).filter (aloneP parts left k)).length ≤ j := Nat.le_trans (List.length_filter_le _ _) (by simp; omega)
    have hs : ((out.take (j + 1)).filter (aloneP parts left k)).length = ((out.take j).filter (aloneP parts left k)).length + if aloneP parts left k out[j] then 1 else 0 := by
      rw [List.take_succ_eq_append_getElem hj, List.filter_append, List.length_append, List.filter_cons]
      split <;> rfl
    refine ⟨by omega, hk, hj, fun _ => ref42_In_ok ⟨fun c => ?_, fun c => ?_⟩⟩
    · dsimp only
      rw [hs, if_neg]; rfl
      rw [pt_get hk] at c
      have c : ¬ out[j] ∈ pt parts k := by simpa using c
      simp [aloneP, c]
    · rw [pt_get hk] at c
      have c : out[j] ∈ pt parts k := by simpa using c
      refine ⟨fun i o => o = (left.take i).any fun j' => !decide (j' = k) && decide (out[j] ∈ pt parts j'), by simp, ?_, ?_⟩
      · intro i hi o ho'
        have hi' : i < left.length := ci_len ▸ hi
        have hst : ((left.take (i + 1)).any fun j' => !decide (j' = k) && decide (out[j] ∈ pt parts j')) = (o || (!decide (left[i] = k) && decide (out[j] ∈ pt parts left[i]))) := by
          rw [List.take_succ_eq_append_getElem hi', List.any_append, ho']; simp
        have hlt := hl _ (List.getElem_mem hi')
        simp only [ci_get, Int.toNat_natCast]
        rw [hst]
        refine ⟨fun e => by rw [e]; simp, fun e => ⟨hi, fun _ => ⟨fun ne => ⟨hi, fun _ => ⟨by omega, hlt, hj, fun _ => ref42_In_ok ?_⟩⟩, fun eq => ?_⟩⟩⟩
        · have : left[i] ≠ k := fun e => ne (by rw [e])
          rw [pt_get hlt, e]; simp [this]
        · have : left[i] = k := by omega
          rw [e]; simp [this]
      · rintro o rfl
        rw [ci_len, List.take_length]
        have ha : aloneP parts left k out[j] = !(left.any fun j' => !decide (j' = k) && decide (out[j] ∈ pt parts j')) := by simp [aloneP, c]
        refine ⟨fun e => ⟨by unfold InR; omega, ?_⟩, fun e => ?_⟩
        · dsimp only
          rw [hs, if_pos (by rw [ha]; exact e)]; rfl
        · dsimp only
          rw [hs, if_neg (by rw [ha, e]; simp)]; rfl
  · rintro n rfl _
    rw [List.take_length]; exact h

theorem ref42_fresh_ok {parts : List (List Int)} {ahead : List Nat} {k : Nat} {Q : Int → Prop} (hk : k < parts.length) (hl : ∀ j ∈ ahead, j < parts.length) (hp : ∀ p ∈ parts, p.length ≤ 1000000) (h : Q (freshN parts ahead k)) :
    ref42_fresh parts (ci ahead) k Q := ref42_fresh_w fun _ => by
  unfold ref42_fresh_v
  simp only [Int.toNat_natCast]
  refine ⟨by omega, hk, ref42_set_ok (hp _ (List.getElem_mem hk)) ?_⟩
  rw [pt_get hk, ← setOf_eq]
  have hlen := Nat.le_trans (length_setOf (pt parts k)) (by rw [← pt_get hk]; exact hp _ (List.getElem_mem hk))
  refine ⟨fun j n => n = (((setOf (pt parts k)).take j).filter (freshP parts ahead)).length, by simp, ?_, ?_⟩
  · rintro j hj n rfl _
    have hb : (((setOf (pt parts k)).take j).filter (freshP parts ahead)).length ≤ j := Nat.le_trans (List.length_filter_le _ _) (by simp; omega)
    have hs : (((setOf (pt parts k)).take (j + 1)).filter (freshP parts ahead)).length = (((setOf (pt parts k)).take j).filter (freshP parts ahead)).length + if freshP parts ahead (setOf (pt parts k))[j] then 1 else 0 := by
      rw [List.take_succ_eq_append_getElem hj, List.filter_append, List.length_append, List.filter_cons]
      split <;> rfl
    refine ⟨fun i o => o = (ahead.take i).any fun j' => decide ((setOf (pt parts k))[j] ∈ pt parts j'), by simp, ?_, ?_⟩
    · intro i hi o ho'
      have hi' : i < ahead.length := ci_len ▸ hi
      have hst : ((ahead.take (i + 1)).any fun j' => decide ((setOf (pt parts k))[j] ∈ pt parts j')) = (o || decide ((setOf (pt parts k))[j] ∈ pt parts ahead[i])) := by
        rw [List.take_succ_eq_append_getElem hi', List.any_append, ho']; simp
      have hlt := hl _ (List.getElem_mem hi')
      simp only [ci_get, Int.toNat_natCast]
      rw [hst]
      refine ⟨fun e => by rw [e]; simp, fun e => ⟨hi, fun _ => ⟨by omega, hlt, hj, fun _ => ref42_In_ok ?_⟩⟩⟩
      rw [pt_get hlt, e]; simp
    · rintro o rfl
      rw [ci_len, List.take_length]
      refine ⟨fun e => ⟨by unfold InR; omega, ?_⟩, fun e => ?_⟩
      · dsimp only
        rw [hs, if_pos (by unfold freshP; exact e)]; rfl
      · dsimp only
        rw [hs, if_neg (by unfold freshP; rw [e]; simp)]; rfl
  · rintro n rfl _
    rw [List.take_length]; exact h

def refSteps (parts : List (List Int)) (gone : List Int) (fin : List Nat) (n : Nat) : List Ref42_Step := (List.range n).map fun i => ⟨(fin.getD i 0 : Nat), outOf parts gone fin i⟩
theorem refSteps_succ {parts : List (List Int)} {gone : List Int} {fin : List Nat} {n : Nat} : refSteps parts gone fin (n + 1) = refSteps parts gone fin n ++ [⟨(fin.getD n 0 : Nat), outOf parts gone fin n⟩] := by
  unfold refSteps; rw [List.range_succ, List.map_append]; rfl

def finOf (parts : List (List Int)) (out : List Int) : List Nat := planSeq parts (setOf out) parts.length (List.range parts.length) []

theorem ref42_Plan_ok {parts : List (List Int)} {out : List Int} {Q : List Ref42_Step → Prop} (hn : parts.length ≤ 1000000) (hp : ∀ p ∈ parts, p.length ≤ 1000000) (ho : out.length ≤ 1000000) (h : Q (refSteps parts (setOf out) (finOf parts out) parts.length)) : ref42_Plan parts out Q := ref42_Plan_w (by
  unfold ref42_Plan_v
  refine ref42_set_ok ho ?_
  rw [← setOf_eq]
  have hgl := Nat.le_trans (length_setOf out) ho
  unfold finOf at h
  generalize setOf out = gone at *
  refine ⟨fun j l => l = ci (List.range j), by simp [ci], ?_, ?_⟩
  · rintro j hj l rfl
    exact ⟨by simp [ci]; omega, by simp [ci, List.range_succ]⟩
  rintro l rfl
  refine ⟨fun n l a => ∃ left ahead, l = ci left ∧ a = ci ahead ∧ Plan parts gone left ahead ∧ n = left.length, parts.length, ⟨_, [], rfl, rfl, Plan.start, by simp⟩, ?_⟩
  rintro n l a ⟨left, ahead, rfl, rfl, hP, rfl⟩ _
  have hcl : (ci left).length = left.length := ci_len
  refine ⟨fun c => ?_, fun c => ?_⟩
  · have hl0 : 0 < left.length := by omega
    have hsm := hP.small
    have hla : left.length ≤ parts.length := by have := hP.all; omega
    refine ⟨fun m i b => ∃ x : Nat, i = x ∧ b = (bestTo parts gone left ahead x : Nat) ∧ 1 ≤ x ∧ x ≤ left.length ∧ m = left.length - x, left.length - 1, ⟨1, rfl, ?_, Nat.le_refl _, hl0, rfl⟩, ?_⟩
    · have : bestTo parts gone left ahead 1 = 0 := by unfold bestTo; split <;> rfl
      rw [this]; rfl
    rintro m i b ⟨x, rfl, rfl, h1, h2, rfl⟩ _ _ _
    have hbx : bestTo parts gone left ahead x < x := bestTo_lt h1
    have hbl : bestTo parts gone left ahead x < left.length := by omega
    have e1 : ((bestTo parts gone left ahead x : Int) + 1).toNat = bestTo parts gone left ahead x + 1 := by omega
    have hci : ∀ {i : Nat}, i < left.length → i < (ci left).length := fun h => by rw [ci_len]; exact h
    simp only [Int.toNat_natCast, ci_get, e1]
    refine ⟨fun c => ?_, fun c => ?_⟩
    · have hx : x < left.length := by omega
      have sx := hsm _ (List.mem_append_left _ (List.getElem_mem hx))
      have sb := hsm _ (List.mem_append_left _ (List.getElem_mem hbl))
      have hstep : bestTo parts gone left ahead (x + 1) = if better parts gone left ahead left[x] left[bestTo parts gone left ahead x] then x else bestTo parts gone left ahead x := by
        rw [bestTo, gD hx, gD hbl]
      have hll : ∀ j ∈ left, j < parts.length := fun j hj => hsm j (List.mem_append_left _ hj)
      have hal : ∀ j ∈ ahead, j < parts.length := fun j hj => hsm j (List.mem_append_right _ hj)
      have fin : ∀ z : Nat, z = bestTo parts gone left ahead (x + 1) → InR ((x : Int) + 1) ∧ ∃ m', m' < left.length - x ∧ ∃ y : Nat, (x : Int) + 1 = y ∧ (z : Int) = (bestTo parts gone left ahead y : Nat) ∧ 1 ≤ y ∧ y ≤ left.length ∧ m' = left.length - y := fun z hz =>
        ⟨by unfold InR; omega, _, by omega, x + 1, by omega, by rw [hz], by omega, by omega, rfl⟩
      refine ⟨by omega, hci hx, fun _ => ⟨by omega, hci hbl, fun _ => ref42_alone_ok sx hll hgl fun _ => ref42_alone_ok sb hll hgl fun _ => ⟨fun c1 => fin x ?_, fun c1 => ⟨fun c2 => ⟨by omega, hci hx, fun _ => ⟨by omega, hci hbl, fun _ => ref42_fresh_ok sx hal hp fun _ => ref42_fresh_ok sb hal hp fun _ => ⟨fun c3 => fin x ?_, fun c3 => fin _ ?_⟩⟩⟩, fun c2 => fin _ ?_⟩⟩⟩⟩
      · rw [hstep, if_pos]; unfold better; rw [decide_eq_true (by omega), Bool.true_or]
      · rw [hstep, if_pos]; unfold better; rw [decide_eq_true (p := _ = _) (by omega), decide_eq_true (p := freshN _ _ _ < _) (by omega)]; simp
      · rw [hstep, if_neg]; unfold better; rw [decide_eq_false (by omega), decide_eq_false (p := freshN _ _ _ < _) (by omega)]; simp
      · rw [hstep, if_neg]; unfold better; rw [decide_eq_false (by omega), decide_eq_false (p := _ = _) (by omega)]; simp
    · have hx : x = left.length := by omega
      subst hx
      have hle : (ahead.length + 1) ≤ 1000001 := by have := hP.all; omega
      refine ⟨by omega, hci hbl, fun _ => ⟨by rw [ci_len]; omega, by omega, by rw [ci_len]; omega, by unfold InR; omega, by omega, by rw [ci_len]; omega, by simp [ci]; omega, by simp [ci]; omega, ?_⟩⟩
      refine ⟨_, ?_, _, _, ?_, ?_, hP.next hl0, rfl⟩
      · rw [List.length_eraseIdx_of_lt (show bestPos parts gone left ahead < left.length from hbl)]; omega
      · rw [List.eraseIdx_eq_take_drop_succ]; simp [ci, bestPos]
      · rw [ci_app, show bestPos parts gone left ahead = bestTo parts gone left ahead left.length from rfl, gD hbl]; rfl
  · have hl0 : left = [] := List.eq_nil_of_length_eq_zero (by omega)
    subst hl0
    have hfin : ahead = planSeq parts gone parts.length (List.range parts.length) [] := hP.fin
    have hlen : ahead.length = parts.length := by have := hP.all; simpa using this
    rw [← hfin, ← hlen] at h
    have hal : ∀ j ∈ ahead, j < parts.length := fun j hj => hP.small j (List.mem_append_right _ hj)
    refine ⟨fun i l => l = refSteps parts gone ahead i, rfl, ?_, ?_⟩
    · rintro i hi l rfl
      have hi' : i < ahead.length := ci_len ▸ hi
      simp only [ci_get]
      refine ⟨hi, fun _ => ?_⟩
      refine ⟨fun k o => o = (gone.take k).filter fun v => decide (lastOf parts ahead v = i), by simp, ?_, ?_⟩
      · rintro k hk o rfl
        refine ⟨fun m x => x = (lastTo parts ahead gone[k] m : Nat), rfl, ?_, ?_⟩
        · rintro m hm x rfl _
          have hm' : m < ahead.length := ci_len ▸ hm
          have hlt := hal _ (List.getElem_mem hm')
          simp only [ci_get, Int.toNat_natCast]
          refine ⟨hm, fun _ => ⟨by omega, hlt, hk, fun _ => ref42_In_ok ?_⟩⟩
          rw [pt_get hlt]
          have hst : lastTo parts ahead gone[k] (m + 1) = if gone[k] ∈ pt parts ahead[m] then m else lastTo parts ahead gone[k] m := by rw [lastTo, gD hm']
          refine ⟨fun e => ?_, fun e => ?_⟩
          · rw [hst, if_pos (by simpa using e)]
          · rw [hst, if_neg (by simpa using e)]
        · rintro x rfl _
          rw [ci_len]
          have hb : ((gone.take k).filter fun v => decide (lastOf parts ahead v = i)).length ≤ 1000000 := Nat.le_trans (List.length_filter_le _ _) (by simp; omega)
          have hs : (gone.take (k + 1)).filter (fun v => decide (lastOf parts ahead v = i)) = (gone.take k).filter (fun v => decide (lastOf parts ahead v = i)) ++ if lastOf parts ahead gone[k] = i then [gone[k]] else [] := by
            rw [List.take_succ_eq_append_getElem hk, List.filter_append, List.filter_cons]; by_cases e : lastOf parts ahead gone[k] = i <;> simp [e]
          refine ⟨fun e => ?_, fun e => ?_⟩
          · refine ⟨fun o => o = (gone.take (k + 1)).filter fun v => decide (lastOf parts ahead v = i), fun _ h => h, hk, fun _ => ⟨by simp only [List.length_singleton]; omega, ?_⟩⟩
            rw [hs, if_pos (by unfold lastOf; omega)]
          · dsimp only
            rw [hs, if_neg (by unfold lastOf; omega), List.append_nil]
      · rintro o rfl
        rw [List.take_length]
        refine ⟨?_, ?_⟩
        · simp [refSteps]; omega
        · rw [refSteps_succ, gD hi']; rfl
    · rintro l rfl
      rw [ci_len]; exact h)
end Go.Proofs.Ytinfniggaldheaa
