/-
  Plan, in the program, is the greedy schedule.
-/
import Derived.Test.Ytinfniggaldheabu
namespace Go.Proofs.Ytinfniggaldheab
open Go Go.X Go.Vs

theorem inc_ci : ∀ {l : List Nat}, l.Pairwise (· < ·) → inc (ci l) = true
  | [], _ => rfl
  | j :: l, h => inc_cons (inc_ci (List.pairwise_cons.1 h).2) (fun y hy => by
      obtain ⟨i, hi, rfl⟩ := List.mem_map.1 hy
      have := (List.pairwise_cons.1 h).1 i hi
      show (j : Int) < (i : Int); omega)
theorem mem_ci {l : List Nat} {j : Nat} : (j : Int) ∈ ci l ↔ j ∈ l := by
  unfold ci; rw [List.mem_map]
  constructor
  · rintro ⟨i, hi, he⟩; have : i = j := by omega
    exact this ▸ hi
  · exact fun h => ⟨j, h, rfl⟩
theorem inc_outOf {parts : List (List Int)} {gone : List Int} {fin : List Nat} {i : Nat} (h : inc gone = true) : inc (outOf parts gone fin i) = true := inc_filter h

theorem sched_Plan_ok {parts : List (List Int)} {out : List Int} {Q : List Sched_Step → Prop} (hn : parts.length ≤ 8) (hp : ∀ p ∈ parts, p.length ≤ 10) (ho : out.length ≤ 12) (h : Q (schSteps parts (setOf out) (finOf parts out) parts.length)) : sched_Plan parts out Q := sched_Plan_w (by
  unfold sched_Plan_v
  refine sched_sets_ok (by omega) (fun p hx => by have := hp p hx; omega) (vset_Of_ok (by omega) ?_)
  have hgi := inc_setOf out
  have hgl := Nat.le_trans (length_setOf out) ho
  unfold finOf at h
  generalize setOf out = gone at *
  have hx1l : (parts.map setOf).length = parts.length := by simp
  have hx1 : ∀ {i : Nat} (hi : i < (parts.map setOf).length), (parts.map setOf)[i] = setOf (pt parts i) := fun {i} hi => by
    rw [List.getElem_map, pt_get]
  have hptl : ∀ i, (pt parts i).length ≤ 10 := fun i => by
    unfold pt
    cases hh : parts[i]? with
    | none => simp
    | some p => exact hp p (List.mem_of_getElem? hh)
  have hsl : ∀ i, (setOf (pt parts i)).length ≤ 10 := fun i => Nat.le_trans (length_setOf _) (hptl i)
  intro _
  -- how many parts have v
  refine ⟨fun j m => ∀ v, (mget m v).getD 0 = (cnt parts (List.range j) v : Int), fun v => by simp [mget, cnt], ?_, ?_⟩
  · rintro j hj m hm
    refine ⟨hj, fun _ => ?_⟩
    rw [hx1]
    refine ⟨fun i m' => ∀ v, (mget m' v).getD 0 = (cnt parts (List.range j) v : Int) + if v ∈ (setOf (pt parts j)).take i then 1 else 0, fun v => by simpa using hm v, ?_, ?_⟩
    · rintro i hi m' hm' 
      have hnd := inc_nodup (inc_setOf (pt parts j))
      have hni : (setOf (pt parts j))[i] ∉ (setOf (pt parts j)).take i := fun hc => by
        obtain ⟨k, hk, he⟩ := List.getElem_of_mem hc
        simp only [List.length_take] at hk
        rw [List.getElem_take] at he
        have := inc_get (inc_setOf (pt parts j)) (a := k) (b := i) hi (by omega)
        omega
      have hc := cnt_le (parts := parts) (left := List.range j) (v := (setOf (pt parts j))[i])
      rw [List.length_range] at hc
      have h0 := hm' (setOf (pt parts j))[i]
      rw [if_neg hni] at h0
      refine ⟨hi, fun _ _ => ⟨by rw [h0]; unfold InR; omega, fun v => ?_⟩⟩
      have hti : v ∈ (setOf (pt parts j)).take (i + 1) ↔ v ∈ (setOf (pt parts j)).take i ∨ v = (setOf (pt parts j))[i] := by rw [List.take_succ_eq_append_getElem hi, List.mem_append, List.mem_singleton]
      rw [mget_mset]
      by_cases hv : v = (setOf (pt parts j))[i]
      · rw [if_pos hv, if_pos (hti.2 (.inr hv)), Option.getD_some, h0, hv]; omega
      · rw [if_neg hv, hm' v]
        by_cases h3 : v ∈ (setOf (pt parts j)).take i
        · rw [if_pos h3, if_pos (hti.2 (.inl h3))]
        · rw [if_neg h3, if_neg (fun hh => (hti.1 hh).elim h3 hv)]
    · rintro m' hm' v
      have := hm' v
      rw [this, List.take_length, List.range_succ]
      unfold cnt
      rw [List.filter_append, List.length_append, List.filter_cons]
      by_cases hv : v ∈ pt parts j
      · rw [if_pos ((mem_setOf _).2 hv), if_pos (by simpa using hv)]; simp
      · rw [if_neg (fun hh => hv ((mem_setOf _).1 hh)), if_neg (by simpa using hv)]; simp
  rintro m0 hm0 _
  rw [hx1l] at hm0
  -- the numbers of the parts
  refine ⟨fun j l => l = ci (List.range j), by simp [ci], ?_, ?_⟩
  · rintro j hj l rfl
    exact ⟨by simp [ci]; omega, by simp [ci, List.range_succ]⟩
  rintro l rfl _
  rw [show ci (List.range (parts.map setOf).length) = ci (List.range parts.length) by rw [hx1l]]
  refine ⟨fun j l => l = (gone.take j).filter fun v => decide (cnt parts (List.range parts.length) v = 0), by simp, ?_, ?_⟩
  · rintro j hj l rfl
    have hb : ((gone.take j).filter fun v => decide (cnt parts (List.range parts.length) v = 0)).length ≤ 12 := Nat.le_trans (List.length_filter_le _ _) (by simp; omega)
    have hs : (gone.take (j + 1)).filter (fun v => decide (cnt parts (List.range parts.length) v = 0)) = (gone.take j).filter (fun v => decide (cnt parts (List.range parts.length) v = 0)) ++ if cnt parts (List.range parts.length) gone[j] = 0 then [gone[j]] else [] := by
      rw [List.take_succ_eq_append_getElem hj, List.filter_append, List.filter_cons]
      by_cases e : cnt parts (List.range parts.length) gone[j] = 0 <;> simp [e]
    have h0 := hm0 gone[j]
    refine ⟨hj, fun _ _ => ⟨fun c => ⟨by omega, ?_⟩, fun c => ?_⟩⟩
    · try dsimp only
      rw [hs, if_pos (by omega)]
    · try dsimp only
      rw [hs, if_neg (by omega), List.append_nil]
  rintro wi rfl
  rw [List.take_length]
  generalize hfin : planSeq parts gone parts.length (List.range parts.length) [] = fin at h
  refine ⟨fun n l w s st m => ∃ left ahead, l = ci left ∧ Plan parts gone left ahead ∧ n = left.length ∧ w = (if ahead = [] then gone.filter (fun v => decide (cnt parts (List.range parts.length) v = 0)) else []) ∧ s = setOf ((ahead.map (pt parts)).flatten) ∧ st = schSteps parts gone fin ahead.length ∧ ∀ v, (mget m v).getD 0 = (cnt parts left v : Int),
    parts.length, ⟨_, [], rfl, Plan.start, by simp, rfl, rfl, rfl, hm0⟩, ?_⟩
  rintro n l w s st m ⟨left, ahead, rfl, hP, rfl, hw, hs, rfl, hm⟩ _
  have hcl : (ci left).length = left.length := ci_len
  have hla : left.length + ahead.length = parts.length := hP.all
  refine ⟨fun c _ => ?_, fun c => by
    have hl0 : left = [] := List.eq_nil_of_length_eq_zero (by omega)
    subst hl0
    have : ahead.length = parts.length := by simpa using hla
    rw [this]; exact h⟩
  have hl0 : 0 < left.length := by omega
  have hnd : left.Nodup := hP.sorted.imp (fun h => by omega)
  have hseen : ∀ v, v ∈ s ↔ ∃ j ∈ ahead, v ∈ pt parts j := fun v => by
    subst s; rw [mem_setOf, List.mem_flatten]
    constructor
    · rintro ⟨p, hpm, hv⟩
      obtain ⟨j, hj, rfl⟩ := List.mem_map.1 hpm
      exact ⟨j, hj, hv⟩
    · rintro ⟨j, hj, hv⟩
      exact ⟨_, List.mem_map_of_mem hj, hv⟩
  have hslen : s.length ≤ 80 := by
    subst s
    have := Nat.le_trans (length_setOf _) (len_flat hp ahead)
    omega
  refine ⟨fun j l => l = (left.take j).map (choiceOf parts gone left ahead), by simp, ?_, ?_⟩
  · rintro j hj l rfl
    have hj' : j < left.length := ci_len ▸ hj
    have hlt := hP.small _ (List.mem_append_left _ (List.getElem_mem hj'))
    simp only [ci_get, Int.toNat_natCast]
    refine ⟨hj, fun _ => ⟨by omega, by rw [hx1l]; exact hlt, ?_⟩⟩
    have hk : left[j] ∈ left := List.getElem_mem hj'
    obtain ⟨k, hkk⟩ : ∃ k, k = left[j] := ⟨_, rfl⟩
    simp only [hx1, ← hkk] at hlt hk ⊢
    refine vset_Less_ok (by have := hsl k; omega) ?_
    have e1 : setOf ((setOf (pt parts k)).filter fun v => !(decide (v ∈ s))) = (setOf (pt parts k)).filter (freshP parts ahead) := by
      rw [setOf_inc (inc_filter (inc_setOf _))]
      apply List.filter_congr
      intro v _
      unfold freshP
      congr 1
      rw [Bool.eq_iff_iff, decide_eq_true_eq, hseen, List.any_eq_true]
      simp
    rw [e1]
    intro _
    refine ⟨by omega, by rw [hx1l]; exact hlt, vset_Meet_ok (by have := hsl k; omega) ?_⟩
    have e2 : setOf ((setOf (pt parts k)).filter fun v => decide (v ∈ gone)) = (setOf (pt parts k)).filter fun v => decide (v ∈ gone) := setOf_inc (inc_filter (inc_setOf _))
    rw [e2]
    intro _
    have hml : ((setOf (pt parts k)).filter fun v => decide (v ∈ gone)).length ≤ 10 := Nat.le_trans (List.length_filter_le _ _) (hsl k)
    refine ⟨fun i o => o = (((setOf (pt parts k)).filter fun v => decide (v ∈ gone)).take i).filter fun v => decide (cnt parts left v = 1), by simp, ?_, ?_⟩
    · rintro i hi o rfl
      have hb := Nat.le_trans (List.length_filter_le (fun v => decide (cnt parts left v = 1)) (((setOf (pt parts k)).filter fun v => decide (v ∈ gone)).take i)) (by rw [List.length_take]; exact Nat.min_le_left _ _)
      have h0 := hm ((setOf (pt parts k)).filter fun v => decide (v ∈ gone))[i]
      have hst : (((setOf (pt parts k)).filter fun v => decide (v ∈ gone)).take (i + 1)).filter (fun v => decide (cnt parts left v = 1)) = (((setOf (pt parts k)).filter fun v => decide (v ∈ gone)).take i).filter (fun v => decide (cnt parts left v = 1)) ++ if cnt parts left ((setOf (pt parts k)).filter fun v => decide (v ∈ gone))[i] = 1 then [((setOf (pt parts k)).filter fun v => decide (v ∈ gone))[i]] else [] := by
        rw [List.take_succ_eq_append_getElem hi, List.filter_append, List.filter_cons]
        split <;> rename_i e <;> simp only [decide_eq_true_eq] at e <;> simp [e]
      refine ⟨hi, fun _ _ => ⟨fun c => ⟨by omega, ?_⟩, fun c => ?_⟩⟩
      · try dsimp only
        rw [hst, if_pos (by omega)]
      · try dsimp only
        rw [hst, if_neg (by omega), List.append_nil]
    · rintro o rfl
      rw [List.take_length]
      have e3 : (((setOf (pt parts k)).filter fun v => decide (v ∈ gone)).filter fun v => decide (cnt parts left v = 1)) = gone.filter (aloneP parts left k) := by
        apply inc_ext (inc_filter (inc_filter (inc_setOf _))) (inc_filter hgi)
        intro v
        simp only [List.mem_filter, mem_setOf, decide_eq_true_eq]
        unfold aloneP
        simp only [Bool.and_eq_true, decide_eq_true_eq, Bool.not_eq_eq_eq_not, Bool.not_true, List.any_eq_false, decide_eq_false_iff_not, not_and]
        constructor
        · rintro ⟨⟨hv, hg⟩, hc⟩
          exact ⟨hg, hv, (cnt_one hnd hk hv).1 hc⟩
        · rintro ⟨hg, hv, hc⟩
          exact ⟨⟨hv, hg⟩, (cnt_one hnd hk hv).2 hc⟩
      rw [e3]
      refine ⟨by simp; omega, ?_⟩
      rw [List.take_succ_eq_append_getElem hj', List.map_append, List.map_singleton, ← hkk]; rfl
  · rintro l rfl
    rw [hcl, List.take_length]
    have hb : bestPos parts gone left ahead < left.length := bestTo_lt hl0
    refine sched_first_ok (fun a b Q h => sched_Plan_1_ok h) (by simp; omega) ?_
    have hc : (left.map (choiceOf parts gone left ahead)).getD (firstTo (left.map (choiceOf parts gone left ahead)) (left.map (choiceOf parts gone left ahead)).length) ⟨0, [], 0⟩ = choiceOf parts gone left ahead (left.getD (bestPos parts gone left ahead) 0) := by
      rw [List.length_map, firstTo_best hP.sorted _ (Nat.le_refl _), gDc (by simpa [bestPos] using hb), gD hb]
      simp [bestPos]
    rw [hc]
    have hN := hP.next hl0
    have hO := outOf_next hP hl0
    have hgk := gD (l := left) hb
    have hk : left.getD (bestPos parts gone left ahead) 0 ∈ left := hgk ▸ List.getElem_mem hb
    have hme := mem_erase hnd hb
    have hce : ∀ v, cnt parts left v = cnt parts (left.eraseIdx (bestPos parts gone left ahead)) v + if v ∈ pt parts left[bestPos parts gone left ahead] then 1 else 0 := fun v => cnt_erase hb
    rw [hfin] at hO
    rw [← hgk] at hme
    simp only [← hgk] at hce
    generalize left.getD (bestPos parts gone left ahead) 0 = k at *
    have hlt : k < parts.length := hP.small _ (List.mem_append_left _ hk)
    have hlt' : k < (parts.map setOf).length := by rw [hx1l]; exact hlt
    intro _
    have hcl1 : (choiceOf parts gone left ahead k).out.length ≤ 12 := Nat.le_trans (List.length_filter_le _ _) hgl
    have hwl : w.length ≤ 12 := by
      subst w; split
      · exact Nat.le_trans (List.length_filter_le _ _) hgl
      · simp
    have hcp : (choiceOf parts gone left ahead k).part = (k : Int) := rfl
    simp only [hcp, Int.toNat_natCast, hx1]
    refine vset_Union_ok (by simp; omega) ?_
    have hout : setOf [(choiceOf parts gone left ahead k).out, w].flatten = outOf parts gone fin ahead.length := by
      apply inc_ext (inc_setOf _) (inc_outOf hgi)
      intro v
      rw [hO, mem_setOf]
      subst w
      simp only [List.flatten_cons, List.flatten_nil, List.append_nil, List.mem_append]
      show v ∈ gone.filter (aloneP parts left k) ∨ _ ↔ _
      rw [List.mem_filter]
      constructor
      · rintro (⟨h1, h2⟩ | h1)
        · exact ⟨h1, .inl h2⟩
        · split at h1
          · rename_i ha
            subst ha
            simp only [List.mem_filter, decide_eq_true_eq] at h1
            refine ⟨h1.1, .inr ⟨rfl, fun j hj => ?_⟩⟩
            have := cnt_zero.1 h1.2 j
            exact this (by have := hP.small j (List.mem_append_left _ hj); simpa using this)
          · simp at h1
      · rintro ⟨h1, h2 | ⟨h2, h3⟩⟩
        · exact .inl ⟨h1, h2⟩
        · refine .inr ?_
          subst h2
          rw [if_pos rfl, List.mem_filter, decide_eq_true_eq, cnt_zero]
          refine ⟨h1, fun j hj => h3 j ?_⟩
          have := hP.perm.mem_iff (a := j)
          simp at this
          exact this.2 (by simpa using hj)
    rw [hout]
    refine ⟨by simp [schSteps]; omega, fun _ => ⟨by omega, hlt', vset_Union_ok (by have := hsl k; simp; omega) fun _ => ⟨by omega, hlt', fun _ => ?_⟩⟩⟩
    have hseen' : setOf [s, setOf (pt parts k)].flatten = setOf (((ahead ++ [k]).map (pt parts)).flatten) := by
      apply inc_ext (inc_setOf _) (inc_setOf _)
      intro v
      rw [mem_setOf, mem_setOf]
      simp only [List.flatten_cons, List.flatten_nil, List.append_nil, List.mem_append, hseen, mem_setOf, List.map_append, List.flatten_append, List.map_singleton, List.mem_flatten]
      constructor
      · rintro (⟨j, hj, hv⟩ | hv)
        · exact .inl ⟨_, List.mem_map_of_mem hj, hv⟩
        · exact .inr hv
      · rintro (⟨q, hq, hv⟩ | hv)
        · obtain ⟨j, hj, rfl⟩ := List.mem_map.1 hq
          exact .inl ⟨j, hj, hv⟩
        · exact .inr hv
    refine ⟨fun i m' => ∀ v, (mget m' v).getD 0 = (cnt parts left v : Int) - if v ∈ (setOf (pt parts k)).take i then 1 else 0, fun v => by simpa using hm v, ?_, ?_⟩
    · rintro i hi0 m' hm'
      have hi : i < (setOf (pt parts k)).length := by rw [← hx1 hlt']; exact hi0
      have hni : (setOf (pt parts k))[i] ∉ (setOf (pt parts k)).take i := fun hc => by
        obtain ⟨k', hk', he⟩ := List.getElem_of_mem hc
        simp only [List.length_take] at hk'
        rw [List.getElem_take] at he
        have := inc_get (inc_setOf (pt parts k)) (a := k') (b := i) hi (by omega)
        omega
      have hc := cnt_le (parts := parts) (left := left) (v := (setOf (pt parts k))[i])
      have h0 := hm' (setOf (pt parts k))[i]
      rw [if_neg hni] at h0
      refine ⟨hi, fun _ _ => ⟨by rw [h0]; unfold InR; omega, fun v => ?_⟩⟩
      have hti : v ∈ (setOf (pt parts k)).take (i + 1) ↔ v ∈ (setOf (pt parts k)).take i ∨ v = (setOf (pt parts k))[i] := by rw [List.take_succ_eq_append_getElem hi, List.mem_append, List.mem_singleton]
      rw [mget_mset]
      by_cases hv : v = (setOf (pt parts k))[i]
      · rw [if_pos hv, if_pos (hti.2 (.inr hv)), Option.getD_some, h0, hv]; omega
      · rw [if_neg hv, hm' v]
        by_cases h3 : v ∈ (setOf (pt parts k)).take i
        · rw [if_pos h3, if_pos (hti.2 (.inl h3))]
        · rw [if_neg h3, if_neg (fun hh => (hti.1 hh).elim h3 hv)]
    · rintro m' hm' _
      refine vset_Less_ok (by omega) ?_
      refine ⟨_, ?_, _, _, ?_, hN, rfl, ?_, hseen', ?_, fun v => ?_⟩
      · rw [List.length_eraseIdx_of_lt hb]; omega
      · apply inc_ext (inc_setOf _) (inc_ci hN.sorted)
        intro v
        rw [mem_setOf, List.mem_filter]
        constructor
        · rintro ⟨h1, h2⟩
          obtain ⟨j, hj, rfl⟩ := List.mem_map.1 h1
          exact mem_ci.2 ((hme j).2 ⟨hj, fun e => by subst e; simp at h2⟩)
        · intro h1
          obtain ⟨j, hj, rfl⟩ := List.mem_map.1 h1
          have := (hme j).1 hj
          exact ⟨mem_ci.2 this.1, by simp; intro e; exact this.2 (by omega)⟩
      · rw [if_neg (by simp)]
      · obtain ⟨rest, hr, _⟩ := hP.fin_eq hl0
        rw [List.length_append, List.length_singleton, schSteps_succ]
        have : fin.getD ahead.length 0 = k := by
          obtain ⟨rest, h1, h2⟩ := planSeq_perm (parts := parts) (gone := gone) _ (left.eraseIdx (bestPos parts gone left ahead)) (ahead ++ [k]) rfl
          rw [← hfin, ← hN.fin, h1]; simp
        rw [this]
      · have := hm' v
        rw [List.take_of_length_le (show (setOf (pt parts k)).length ≤ (parts.map setOf)[(choiceOf parts gone left ahead k).part.toNat].length from Nat.le_of_eq (congrArg List.length (hx1 hlt')).symm)] at this
        rw [this, hce v]
        by_cases hv : v ∈ pt parts k
        · rw [if_pos ((mem_setOf _).2 hv), if_pos hv]; omega
        · rw [if_neg (fun hh => hv ((mem_setOf _).1 hh)), if_neg hv]; omega)
end Go.Proofs.Ytinfniggaldheab
