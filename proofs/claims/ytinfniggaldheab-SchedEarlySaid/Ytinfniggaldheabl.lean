/-
  Which lists of steps are right schedules, in the program and in its reference; the law SchedLives.
-/
import Derived.Test.Ytinfniggaldheabr
import Derived.Test.Ytinfniggaldheabm
namespace Go.Proofs.Ytinfniggaldheab
open Go Go.X Go.Vs

theorem nodup_le : ∀ (n : Nat) (l : List Nat), l.Nodup → (∀ x ∈ l, x < n) → l.length ≤ n
  | 0, l, _, h => by
    cases l with
    | nil => simp
    | cons x l => have := h x (by simp); omega
  | n + 1, l, hn, h => by
    have h1 := nodup_le n (l.erase n) (hn.erase n) (fun x hx => by
      have := h x (List.mem_of_mem_erase hx)
      have h2 : x ≠ n := fun e => by subst e; exact (List.Nodup.not_mem_erase hn) hx
      omega)
    have h2 := List.length_erase (a := n) (l := l)
    split at h2 <;> omega
theorem pigeon {n : Nat} {l : List Nat} (hn : l.Nodup) (hb : ∀ x ∈ l, x < n) (hl : l.length = n) (p : Nat) (hp : p < n) : p ∈ l := by
  by_cases h : p ∈ l
  · exact h
  · have := nodup_le n (p :: l) (List.nodup_cons.2 ⟨h, hn⟩) (fun x hx => by
      rcases List.mem_cons.1 hx with rfl | hx
      · exact hp
      · exact hb x hx)
    simp at this; omega

def cntR (P : Nat → Bool) (n : Nat) : Nat := ((List.range n).filter P).length
theorem cntR_succ {P : Nat → Bool} {n : Nat} : cntR P (n + 1) = cntR P n + if P n then 1 else 0 := by
  unfold cntR; rw [List.range_succ, List.filter_append, List.length_append, List.filter_cons]; split <;> rfl
theorem cntR_le {P : Nat → Bool} {n : Nat} : cntR P n ≤ n := by unfold cntR; exact Nat.le_trans (List.length_filter_le _ _) (by simp)
theorem cntR_zero {P : Nat → Bool} : ∀ {n : Nat}, cntR P n = 0 ↔ ∀ i, i < n → P i = false
  | 0 => ⟨fun _ i h => by omega, fun _ => rfl⟩
  | n + 1 => by
    rw [cntR_succ]
    have ih := cntR_zero (P := P) (n := n)
    constructor
    · intro h i hi
      by_cases hp : P n = true
      · rw [if_pos hp] at h; omega
      · rcases Nat.lt_or_ge i n with h1 | h1
        · exact ih.1 (by omega) i h1
        · have : i = n := by omega
          subst this; simpa using hp
    · intro h
      rw [if_neg (by rw [h n (by omega)]; simp), ih.2 (fun i hi => h i (by omega))]
theorem cntR_one {P : Nat → Bool} : ∀ {n : Nat}, cntR P n = 1 ↔ ∃ i, i < n ∧ P i = true ∧ ∀ j, j < n → P j = true → j = i
  | 0 => ⟨fun h => by simp [cntR] at h, fun ⟨i, h, _⟩ => by omega⟩
  | n + 1 => by
    rw [cntR_succ]
    by_cases hp : P n = true
    · rw [if_pos hp]
      constructor
      · intro h
        have h0 := cntR_zero.1 (show cntR P n = 0 by omega)
        refine ⟨n, by omega, hp, fun j hj hpj => ?_⟩
        rcases Nat.lt_or_ge j n with h1 | h1
        · rw [h0 j h1] at hpj; cases hpj
        · omega
      · rintro ⟨i, hi, hpi, hu⟩
        have hn := hu n (by omega) hp
        have : cntR P n = 0 := cntR_zero.2 (fun j hj => by
          by_cases h : P j = true
          · have := hu j (by omega) h; omega
          · simpa using h)
        omega
    · rw [if_neg hp, Nat.add_zero, cntR_one (P := P) (n := n)]
      constructor
      · rintro ⟨i, hi, hpi, hu⟩
        refine ⟨i, by omega, hpi, fun j hj hpj => ?_⟩
        rcases Nat.lt_or_ge j n with h1 | h1
        · exact hu j h1 hpj
        · have : j = n := by omega
          subst this; exact absurd hpj hp
      · rintro ⟨i, hi, hpi, hu⟩
        have : i ≠ n := fun e => by subst e; exact hp hpi
        exact ⟨i, by omega, hpi, fun j hj => hu j (by omega)⟩

def pAt (pa : List Int) (p : Int) (i : Nat) : Bool := decide (pa.getD i 0 = p)
def oAt (ou : List (List Int)) (v : Int) (i : Nat) : Bool := decide (v ∈ ou.getD i [])
/-- The steps are a right schedule. -/
structure RightP (parts : List (List Int)) (out : List Int) (pa : List Int) (ou : List (List Int)) : Prop where
  len : pa.length = parts.length
  once : ∀ p : Nat, p < parts.length → cntR (pAt pa p) pa.length = 1
  outs : 0 < pa.length → ∀ v ∈ out, cntR (oAt ou v) pa.length = 1
  last : ∀ i, i < pa.length → ∀ v ∈ ou.getD i [], v ∈ out ∧ ∀ k, i < k → k < pa.length → v ∉ pt parts (pa.getD k 0).toNat

/-- Every step has a part. -/
theorem parts_in {n : Nat} {pa : List Int} (hl : pa.length = n) (h : ∀ p : Nat, p < n → cntR (pAt pa p) pa.length = 1) (i : Nat) (hi : i < n) : ∃ p : Nat, p < n ∧ pa.getD i 0 = p := by
  have hc : ∀ p : Nat, ∃ j, p < n → j < n ∧ pa.getD j 0 = p := fun p => by
    by_cases hp : p < n
    · obtain ⟨j, h1, h2, _⟩ := cntR_one.1 (h p hp)
      exact ⟨j, fun _ => ⟨by omega, by simpa [pAt] using h2⟩⟩
    · exact ⟨0, fun hh => absurd hh hp⟩
  let pos : Nat → Nat := fun p => Classical.choose (hc p)
  have hpos : ∀ p, p < n → pos p < n ∧ pa.getD (pos p) 0 = p := fun p hp => Classical.choose_spec (hc p) hp
  have hnd : ((List.range n).map pos).Nodup := by
    unfold List.Nodup
    rw [List.pairwise_map]
    have hr : (List.range n).Pairwise (· < ·) := List.pairwise_lt_range
    refine List.Pairwise.imp_of_mem ?_ hr
    intro a b ha hb hab he
    have h1 := (hpos a (List.mem_range.1 ha)).2
    have h2 := (hpos b (List.mem_range.1 hb)).2
    rw [he] at h1
    omega
  have := pigeon hnd (fun x hx => by
    obtain ⟨p, hp, rfl⟩ := List.mem_map.1 hx
    exact (hpos p (List.mem_range.1 hp)).1) (by simp) i hi
  obtain ⟨p, hp, rfl⟩ := List.mem_map.1 this
  exact ⟨p, List.mem_range.1 hp, (hpos p (List.mem_range.1 hp)).2⟩

theorem gDi {l : List Int} {i : Nat} (h : i < l.length) : l.getD i 0 = l[i] := by simp [List.getD, h]
theorem gDl {l : List (List Int)} {i : Nat} (h : i < l.length) : l.getD i [] = l[i] := by simp [List.getD, h]

theorem sched_Right_ok {parts : List (List Int)} {out : List Int} {l : List Sched_Step} {Q : Bool → Prop} (hn : parts.length ≤ 8) (hp : ∀ p ∈ parts, p.length ≤ 10) (ho : out.length ≤ 12) (hl : l.length ≤ 10) (hlo : ∀ x ∈ l, x.Out.length ≤ 12)
    (h : ∀ b, (b = true ↔ RightP parts out (paS l) (ouS l)) → Q b) : sched_Right parts out l Q := sched_Right_w (by
  unfold sched_Right_v
  have hpl : (paS l).length = l.length := by simp [paS]
  have hol : (ouS l).length = l.length := by simp [ouS]
  have hpg : ∀ {j : Nat} (hj : j < l.length), l[j].Part = (paS l).getD j 0 := fun {j} hj => by rw [gDi (by omega)]; simp [paS]
  have hog : ∀ {j : Nat} (hj : j < l.length), l[j].Out = (ouS l).getD j [] := fun {j} hj => by rw [gDl (by omega)]; simp [ouS]
  have hob : ∀ j, ((ouS l).getD j []).length ≤ 12 := fun j => by
    rcases Nat.lt_or_ge j l.length with hj | hj
    · rw [← hog hj]; exact hlo _ (List.getElem_mem hj)
    · simp [List.getD, List.getElem?_eq_none (show (ouS l).length ≤ j by omega)]
  have no : ¬ RightP parts out (paS l) (ouS l) → Q false := fun hR => h false ⟨fun e => (by cases e), fun hh => absurd hh hR⟩
  refine sched_sets_ok (by omega) (fun p hx => by have := hp p hx; omega) (vset_Of_ok (by omega) ?_)
  have hxl : (parts.map setOf).length = parts.length := by simp
  have hx1 : ∀ {i : Nat} (hi : i < (parts.map setOf).length), (parts.map setOf)[i] = setOf (pt parts i) := fun {i} hi => by
    rw [List.getElem_map, pt_get]
  have hptl : ∀ i, (setOf (pt parts i)).length ≤ 10 := fun i => by
    refine Nat.le_trans (length_setOf _) ?_
    unfold pt
    cases hh : parts[i]? with
    | none => simp
    | some p => exact hp p (List.mem_of_getElem? hh)
  generalize hx : parts.map setOf = x1 at hxl hx1
  have hom : ∀ v, v ∈ setOf out ↔ v ∈ out := fun v => mem_setOf out
  have hos : (setOf out).length ≤ 12 := Nat.le_trans (length_setOf _) ho
  generalize setOf out = x2 at hom hos
  generalize hpa : paS l = pa at *
  generalize hou : ouS l = ou at *
  intro _ _
  refine ⟨fun c => no fun hR => by have := hR.len; omega, fun c _ => ?_⟩
  have hlen : l.length = parts.length := by omega
  refine ⟨fun j at' => (∀ i, i < j → mget at' (pa.getD i 0) = some (i : Int) ∧ ∃ p : Nat, p < parts.length ∧ pa.getD i 0 = p) ∧ ∀ p x, mget at' p = some x → ∃ i : Nat, i < j ∧ pa.getD i 0 = p, ⟨fun i hi => by omega, fun p x hpx => by simp [mget] at hpx⟩, ?_, ?_⟩
  · rintro j hj m ⟨hm1, hm2⟩
    refine ⟨hj, fun _ => ⟨fun e => no fun hR => ?_, fun e => ?_⟩⟩
    · rw [hpg hj] at e
      obtain ⟨x, hx⟩ := Option.isSome_iff_exists.1 e
      obtain ⟨i, hi, hij⟩ := hm2 _ _ hx
      obtain ⟨p, hp1, hp2⟩ := (hm1 i hi).2
      obtain ⟨k, _, _, hk⟩ := cntR_one.1 (hR.once p hp1)
      have h1 := hk i (by omega) (decide_eq_true hp2)
      have h2 := hk j (by omega) (decide_eq_true (hij.symm.trans hp2))
      omega
    · have hin := fun hR : RightP parts out pa ou => parts_in (pa := pa) (n := parts.length) (by omega) hR.once j (by omega)
      rw [hpg hj] at e ⊢
      refine ⟨fun e1 => no fun hR => ?_, fun e1 _ => ⟨fun e2 => no fun hR => ?_, fun e2 => ?_⟩⟩
      · obtain ⟨p, hp1, hp2⟩ := hin hR; omega
      · obtain ⟨p, hp1, hp2⟩ := hin hR; omega
      · dsimp only
        refine ⟨fun i hi => ?_, fun p x hpx => ?_⟩
        · rw [mget_mset]
          rcases Nat.lt_or_ge i j with h1 | h1
          · refine ⟨?_, (hm1 i h1).2⟩
            rw [if_neg, (hm1 i h1).1]
            intro hc
            rw [← hc, (hm1 i h1).1] at e; simp at e
          · have : i = j := by omega
            subst this
            exact ⟨if_pos rfl, (pa.getD i 0).toNat, by omega, by omega⟩
        · rw [mget_mset] at hpx
          split at hpx
          · rename_i hc; exact ⟨j, by omega, hc.symm⟩
          · obtain ⟨i, hi, hip⟩ := hm2 _ _ hpx
            exact ⟨i, by omega, hip⟩
  rintro m ⟨hm1, hm2⟩
  have hinj : ∀ i k, i < l.length → k < l.length → pa.getD i 0 = pa.getD k 0 → i = k := fun i k hi hk he => by
    have h1 := (hm1 i hi).1
    have h2 := (hm1 k hk).1
    rw [he, h2] at h1
    simp at h1; omega
  have hsur : ∀ p : Nat, p < parts.length → ∃ i, i < l.length ∧ pa.getD i 0 = p := fun p hp => by
    have := pigeon (n := parts.length) (l := (List.range l.length).map fun i => (pa.getD i 0).toNat) (by
      unfold List.Nodup
      rw [List.pairwise_map]
      have hr : (List.range l.length).Pairwise (· < ·) := List.pairwise_lt_range
      refine List.Pairwise.imp_of_mem ?_ hr
      intro a b ha hb hab he
      have ha := List.mem_range.1 ha
      have hb := List.mem_range.1 hb
      obtain ⟨p, hp1, hp2⟩ := (hm1 a ha).2
      obtain ⟨q, hq1, hq2⟩ := (hm1 b hb).2
      have := hinj a b ha hb (by rw [hp2, hq2] at he ⊢; omega)
      omega) (fun x hx => by
      obtain ⟨i, hi, rfl⟩ := List.mem_map.1 hx
      obtain ⟨p, hp1, hp2⟩ := (hm1 i (List.mem_range.1 hi)).2
      rw [hp2]; omega) (by simp; omega) p hp
    obtain ⟨i, hi, he⟩ := List.mem_map.1 this
    have hi := List.mem_range.1 hi
    obtain ⟨q, hq1, hq2⟩ := (hm1 i hi).2
    exact ⟨i, hi, by rw [hq2] at he ⊢; omega⟩
  have honce : ∀ p : Nat, p < parts.length → cntR (pAt pa p) pa.length = 1 := fun p hp => by
    obtain ⟨i, hi, he⟩ := hsur p hp
    refine cntR_one.2 ⟨i, by omega, decide_eq_true he, fun k hk hpk => hinj k i (by omega) hi ((of_decide_eq_true hpk).trans he.symm)⟩
  intro _
  refine ⟨fun e => h true ⟨fun _ => ⟨by omega, honce, fun h0 => by omega, fun i hi => by omega⟩, fun _ => rfl⟩, fun e _ => ?_⟩
  refine ⟨fun j g => (∀ v, v ∈ g ↔ ∃ i, i < j ∧ v ∈ ou.getD i []) ∧ g.length ≤ j * 12 ∧ (∀ i, i < j → ∀ v ∈ ou.getD i [], v ∈ out ∧ ∀ k, i < k → k < pa.length → v ∉ pt parts (pa.getD k 0).toNat) ∧ ∀ i k v, i < j → k < j → v ∈ ou.getD i [] → v ∈ ou.getD k [] → i = k, ⟨fun v => by simp, by simp, fun i hi => by omega, fun i k v hi => by omega⟩, ?_, ?_⟩
  · rintro j hj g ⟨hg, hgl, hC, hu⟩
    refine ⟨hj, ?_⟩
    rw [hog hj]
    have hoj := hob j
    refine vset_Of_ok (by omega) ?_
    have hxm : ∀ v, v ∈ setOf (ou.getD j []) ↔ v ∈ ou.getD j [] := fun v => mem_setOf _
    have hxn : (setOf (ou.getD j [])).length ≤ 12 := Nat.le_trans (length_setOf _) (hob j)
    generalize setOf (ou.getD j []) = x36 at hxm hxn
    refine vset_Within_ok (by omega) ⟨fun c1 => no fun hR => ?_, fun c1 => ?_⟩
    · have : (x36.all fun v => decide (v ∈ x2)) = true := List.all_eq_true.2 fun v hv => decide_eq_true ((hom v).2 (hR.last j (by omega) v ((hxm v).1 hv)).1)
      rw [this] at c1; cases c1
    · have c1 : (x36.all fun v => decide (v ∈ x2)) = true := by simpa using c1
      have hin : ∀ v ∈ ou.getD j [], v ∈ out := fun v hv => (hom v).1 (of_decide_eq_true (List.all_eq_true.1 c1 v ((hxm v).2 hv)))
      refine vset_Meet_ok (by omega) fun _ => ⟨fun c2 => no fun hR => ?_, fun c2 _ => ?_⟩
      · obtain ⟨v, hv⟩ := List.exists_mem_of_length_pos (l := setOf (x36.filter fun v => decide (v ∈ g))) (by omega)
        rw [mem_setOf, List.mem_filter] at hv
        obtain ⟨hv1, hv2⟩ := hv
        have hv1 := (hxm v).1 hv1
        obtain ⟨i, hi, hvi⟩ := (hg v).1 (of_decide_eq_true hv2)
        obtain ⟨k, _, _, hk⟩ := cntR_one.1 (hR.outs (by omega) v (hin v hv1))
        have h1 := hk i (by omega) (by simpa [oAt] using hvi)
        have h2 := hk j (by omega) (by simpa [oAt] using hv1)
        omega
      · have hnew : ∀ v ∈ ou.getD j [], v ∉ g := fun v hv hvg => by
          have : v ∈ setOf (x36.filter fun v => decide (v ∈ g)) := by
            rw [mem_setOf, List.mem_filter]; exact ⟨(hxm v).2 hv, decide_eq_true hvg⟩
          have := List.length_pos_of_mem this
          omega
        refine ⟨fun p => ∀ p' : Nat, p' < p → ∀ i, i < l.length → j < i → pa.getD i 0 = p' → ∀ v ∈ ou.getD j [], v ∉ pt parts p', fun p hp => by omega, ?_, ?_⟩
        · intro p hpp hI
          obtain ⟨i, hi, he⟩ := hsur p (by omega)
          have hmp : (mget m (p : Int)).getD 0 = i := by rw [← he, (hm1 i hi).1]; rfl
          rw [hmp]
          have hst : (j < i → ∀ v ∈ ou.getD j [], v ∉ pt parts p) → ∀ p' : Nat, p' < p + 1 → ∀ i, i < l.length → j < i → pa.getD i 0 = p' → ∀ v ∈ ou.getD j [], v ∉ pt parts p' := fun hh p' hp' i' hi' hji hpi => by
            rcases Nat.lt_or_ge p' p with h1 | h1
            · exact hI p' h1 i' hi' hji hpi
            · have : p' = p := by omega
              subst this
              have := hinj i' i hi' hi (by rw [hpi, he])
              subst this
              exact hh hji
          refine ⟨hpp, fun _ => ⟨fun c3 => ?_, fun c3 => hst fun hji => by omega⟩⟩
          rw [hx1 hpp]
          have := hptl p
          refine vset_Meet_ok (by omega) fun _ => ⟨fun c4 => no fun hR => ?_, fun c4 => hst fun _ v hv hvp => ?_⟩
          · obtain ⟨v, hv⟩ := List.exists_mem_of_length_pos (l := setOf ((setOf (pt parts p)).filter fun v => decide (v ∈ x36))) (by omega)
            rw [mem_setOf, List.mem_filter, mem_setOf] at hv
            have hv1 := (hxm v).1 (of_decide_eq_true hv.2)
            have := (hR.last j (by omega) v hv1).2 i (by omega) (by omega)
            rw [he, Int.toNat_natCast] at this
            exact this hv.1
          · have : v ∈ setOf ((setOf (pt parts p)).filter fun v => decide (v ∈ x36)) := by
              rw [mem_setOf, List.mem_filter, mem_setOf]; exact ⟨hvp, decide_eq_true ((hxm v).2 hv)⟩
            have := List.length_pos_of_mem this
            omega
        · intro hD
          have hfl : ([g, x36] : List (List Int)).flatten.length ≤ g.length + 12 := by simp; omega
          refine vset_Union_ok (by omega) ?_
          dsimp only
          refine ⟨fun v => ?_, ?_, ?_, ?_⟩
          · rw [mem_setOf]
            have : v ∈ ([g, x36] : List (List Int)).flatten ↔ v ∈ g ∨ v ∈ x36 := by simp
            rw [this, hg, hxm]
            constructor
            · rintro (⟨i, hi, hv⟩ | hv)
              · exact ⟨i, by omega, hv⟩
              · exact ⟨j, by omega, hv⟩
            · rintro ⟨i, hi, hv⟩
              rcases Nat.lt_or_ge i j with h1 | h1
              · exact Or.inl ⟨i, h1, hv⟩
              · have : i = j := by omega
                subst this; exact Or.inr hv
          · have := length_setOf ([g, x36] : List (List Int)).flatten
            omega
          · intro i hi v hv
            rcases Nat.lt_or_ge i j with h1 | h1
            · exact hC i h1 v hv
            · have : i = j := by omega
              subst this
              refine ⟨hin v hv, fun k hk hkl => ?_⟩
              obtain ⟨p, hp1, hp2⟩ := (hm1 k (by omega)).2
              have := hD p (by omega) k (by omega) hk hp2 v hv
              rw [hp2, Int.toNat_natCast]; exact this
          · intro i k v hi hk hvi hvk
            rcases Nat.lt_or_ge i j with h1 | h1
            · rcases Nat.lt_or_ge k j with h2 | h2
              · exact hu i k v h1 h2 hvi hvk
              · have : k = j := by omega
                subst this
                exact absurd ((hg v).2 ⟨i, h1, hvi⟩) (hnew v hvk)
            · have : i = j := by omega
              subst this
              rcases Nat.lt_or_ge k i with h2 | h2
              · exact absurd ((hg v).2 ⟨k, h2, hvk⟩) (hnew v hvi)
              · omega
  · rintro g ⟨hg, hgl, hC, hu⟩
    refine vset_Same_ok (by omega) (by omega) (h _ ?_)
    rw [Bool.and_eq_true, List.all_eq_true, List.all_eq_true]
    constructor
    · rintro ⟨_, h2⟩
      refine ⟨by omega, honce, fun h0 v hv => ?_, fun i hi => hC i (by omega)⟩
      obtain ⟨i, hi, hvi⟩ := (hg v).1 (of_decide_eq_true (h2 v ((hom v).2 hv)))
      refine cntR_one.2 ⟨i, by omega, by simpa [oAt] using hvi, fun k hk hvk => hu k i v (by omega) hi (by simpa [oAt] using hvk) hvi⟩
    · intro hR
      refine ⟨fun v hv => ?_, fun v hv => ?_⟩
      · obtain ⟨i, hi, hvi⟩ := (hg v).1 hv
        exact decide_eq_true ((hom v).2 (hC i hi v hvi).1)
      · obtain ⟨i, hi, hvi, _⟩ := cntR_one.1 (hR.outs (by omega) v ((hom v).1 hv))
        exact decide_eq_true ((hg v).2 ⟨i, by omega, by simpa [oAt] using hvi⟩))

theorem reads_Step : Reads Try.prog 36 Ref42_Step :=
  Reads.via (fun p : Ref42_Step => (p.Part, p.Out)) (fun y => ⟨y.1, y.2⟩) (fun _ => rfl) (Reads.pair Try.underlying36 (by kernel_rfl) rfl (by kernel_rfl) rfl (by kernel_rfl) (Reads.int Try.underlying3) (Reads.list Try.underlying23 (by kernel_rfl) (Reads.int Try.underlying3)))
end Go.Proofs.Ytinfniggaldheab
