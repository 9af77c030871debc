/-
  What the functions of vset, and the small ones of the laws of sched, compute.
-/
import Derived.Test.Ytinfniggaldheabw
import Derived.Test.Ytinfniggaldheabp
namespace Go.Proofs.Ytinfniggaldheab
open Go Go.X Go.Vs

theorem vset_Has_ok {l : List Int} {v : Int} {Q : Bool → Prop} (h : Q (decide (v ∈ l))) : vset_Has l v Q := vset_Has_w fun _ => by
  unfold vset_Has_v; intro _
  refine ⟨fun j => v ∉ l.take j, by simp, fun j hj hI => ⟨hj, fun _ => ⟨fun e => ?_, fun e => ?_⟩⟩, fun hI => ?_⟩
  · have : v ∈ l := e ▸ List.getElem_mem hj
    simpa [this] using h
  · dsimp only at *
    rw [List.take_succ_eq_append_getElem hj, List.mem_append, List.mem_singleton]; exact fun h => h.elim hI (fun h => e h.symm)
  · dsimp only at hI
    rw [List.take_length] at hI; simpa [hI] using h

theorem vset_Of_ok {l : List Int} {Q : List Int → Prop} (hl : l.length ≤ 1000000) (h : Q (setOf l)) : vset_Of l Q := vset_Of_w (by
  unfold vset_Of_v; intro _
  refine ⟨by omega, by rw [Int.toNat_natCast]; omega, fun _ => ?_⟩
  refine ⟨fun j out => out.length ≤ j ∧ (l.drop j).foldl (fun a v => ins v a) out = setOf l ∧ inc out = true, ⟨by simp, by simp [setOf], rfl⟩, ?_, ?_⟩
  · rintro j hj out ⟨h1, h2, h3⟩
    refine ⟨hj, fun _ _ => ?_⟩
    have hd := List.drop_eq_getElem_cons hj
    rw [hd, List.foldl_cons] at h2
    refine ⟨fun i => ∃ n : Nat, i = n ∧ n ≤ out.length ∧ (∀ x ∈ out.drop n, l[j] < x) ∧ (∀ (q : n - 1 < out.length), 0 < n → out[n - 1] ≤ l[j]), ?_, ?_⟩
    · rintro i ⟨n, rfl, i1, i2, i3⟩ hi
      have e1 : ((n : Int) + 1).toNat = n + 1 := by omega
      have e2 : ((n : Int) - 1).toNat = n - 1 := by omega
      simp only [e1, e2, Int.toNat_natCast]
      have fin : (∀ x ∈ out.take n, x < l[j]) → inc (ins l[j] out) = true ∧ ((out ++ [0]).take (n + 1) ++ ((out ++ [0]).drop n).take ((out ++ [0]).length - (n + 1))).set n l[j] = ins l[j] out := fun ht =>
        ⟨inc_ins h3, by rw [shift_ins i1, ins_at i1 ht i2]⟩
      have hlen : n < ((out ++ [0]).take (n + 1) ++ ((out ++ [0]).drop n).take ((out ++ [0]).length - (n + 1))).length := by simp; omega
      have hins := length_ins l[j] out
      have h1 : out.length ≤ j := h1
      refine ⟨fun c => ⟨by unfold InR; omega, by omega, by omega, fun _ => ⟨fun e => ?_, fun e => ?_⟩⟩, fun c => ?_⟩
      · have hm : l[j] ∈ out := e ▸ List.getElem_mem _
        rw [ins_mem h3 hm] at h2
        exact ⟨by omega, h2, h3⟩
      · have hlt : out[n - 1] < l[j] := by have := i3 (by omega) (by omega); omega
        obtain ⟨f1, f2⟩ := fin (take_lt h3 i1 (fun _ _ => hlt))
        refine ⟨by omega, by unfold InR; omega, by omega, by rw [List.length_append, List.length_singleton]; omega, by omega, by rw [List.length_append, List.length_singleton]; omega, by first | omega | trivial, by rw [List.length_append, List.length_singleton]; omega, by omega, hlen, ?_⟩
        rw [f2]; exact ⟨(by omega : (ins l[j] out).length ≤ j + 1), h2, f1⟩
      · have : n = 0 := by omega
        subst this
        obtain ⟨f1, f2⟩ := fin (by simp)
        refine ⟨by omega, by unfold InR; omega, by omega, by rw [List.length_append, List.length_singleton]; omega, by omega, by rw [List.length_append, List.length_singleton]; omega, by first | omega | trivial, by rw [List.length_append, List.length_singleton]; omega, by omega, hlen, ?_⟩
        rw [f2]; exact ⟨(by omega : (ins l[j] out).length ≤ j + 1), h2, f1⟩
    · refine ⟨fun m i => ∃ n : Nat, i = n ∧ m = n ∧ n ≤ out.length ∧ (∀ x ∈ out.drop n, l[j] < x), out.length, ⟨out.length, rfl, rfl, Nat.le_refl _, by simp⟩, ?_⟩
      rintro m i ⟨n, rfl, hmn, i1, i2⟩ hi
      subst m
      have e2 : ((n : Int) - 1).toNat = n - 1 := by omega
      simp only [e2]
      refine ⟨fun c => ⟨by unfold InR; omega, by omega, by omega, fun _ => ⟨fun e => ⟨by unfold InR; omega, n - 1, by omega, n - 1, by omega, rfl, by omega, ?_⟩, fun e => ⟨n, rfl, i1, i2, fun _ _ => by omega⟩⟩⟩, fun c => ⟨n, rfl, i1, i2, fun _ h => by omega⟩⟩
      intro x hx
      rw [List.drop_eq_getElem_cons (l := out) (i := n - 1) (by omega), Nat.sub_add_cancel (by omega)] at hx
      exact (List.mem_cons.1 hx).elim (fun e' => e' ▸ e) (i2 x)
  · rintro out ⟨h1, h2, h3⟩ _ _
    rw [List.drop_eq_nil_of_le (Nat.le_refl _)] at h2
    have h2 : out = setOf l := h2
    subst h2
    rw [Int.toNat_natCast, List.take_length]
    exact ⟨by omega, Nat.le_refl _, h⟩)

theorem vset_Union_ok {l : List (List Int)} {Q : List Int → Prop} (hl : l.flatten.length ≤ 1000000) (h : Q (setOf l.flatten)) : vset_Union l Q := vset_Union_w (by
  unfold vset_Union_v; intro _
  refine ⟨fun j out => out = (l.take j).flatten, by simp, ?_, ?_⟩
  · rintro j hj out rfl
    have e : (l.take (j + 1)).flatten = (l.take j).flatten ++ l[j] := by rw [List.take_succ_eq_append_getElem hj, List.flatten_append, List.flatten_singleton]
    have : (l.take (j + 1)).flatten.length ≤ l.flatten.length := by
      conv => rhs; rw [← List.take_append_drop (j + 1) l, List.flatten_append, List.length_append]
      omega
    rw [e, List.length_append] at this
    exact ⟨hj, by omega, e.symm⟩
  · rintro out rfl
    try dsimp only
    rw [List.take_length]
    exact vset_Of_ok hl h)

theorem vset_kept_ok {a b : List Int} {is : Bool} {Q : List Int → Prop} (hl : a.length ≤ 1000000) (h : Q (setOf (a.filter fun v => (decide (v ∈ b)) == is))) : vset_kept a b is Q := vset_kept_w (by
  unfold vset_kept_v; intro _
  refine ⟨fun j out => out = (a.take j).filter fun v => (decide (v ∈ b)) == is, by simp, ?_, ?_⟩
  · rintro j hj out rfl
    have h1 : ((a.take j).filter fun v => (decide (v ∈ b)) == is).length ≤ a.length := Nat.le_trans (List.length_filter_le _ _) (by simp; omega)
    refine ⟨hj, fun _ => vset_Has_ok ⟨fun e => ⟨by omega, ?_⟩, fun e => ?_⟩⟩ <;> (try dsimp only) <;> rw [List.take_succ_eq_append_getElem hj, List.filter_append, List.filter_cons] <;> simp only [e] <;> simp
  · rintro out rfl
    try dsimp only
    rw [List.take_length]
    exact vset_Of_ok (Nat.le_trans (List.length_filter_le _ _) hl) h)

theorem vset_Meet_ok {a b : List Int} {Q : List Int → Prop} (hl : a.length ≤ 1000000) (h : Q (setOf (a.filter fun v => decide (v ∈ b)))) : vset_Meet a b Q := vset_Meet_w (by
  unfold vset_Meet_v; exact vset_kept_ok hl (by simpa using h))
theorem vset_Less_ok {a b : List Int} {Q : List Int → Prop} (hl : a.length ≤ 1000000) (h : Q (setOf (a.filter fun v => !(decide (v ∈ b))))) : vset_Less a b Q := vset_Less_w (by
  unfold vset_Less_v; exact vset_kept_ok hl (by simpa using h))
theorem vset_Within_ok {a b : List Int} {Q : Bool → Prop} (hl : a.length ≤ 1000000) (h : Q (a.all fun v => decide (v ∈ b))) : vset_Within a b Q := vset_Within_w (by
  unfold vset_Within_v; exact vset_Less_ok hl (fun _ => by rw [within_eq]; exact h))
theorem vset_Same_ok {a b : List Int} {Q : Bool → Prop} (ha : a.length ≤ 1000000) (hb : b.length ≤ 1000000) (h : Q ((a.all fun v => decide (v ∈ b)) && (b.all fun v => decide (v ∈ a)))) : vset_Same a b Q := vset_Same_w (by
  unfold vset_Same_v; refine vset_Within_ok ha ⟨fun e => vset_Within_ok hb ?_, fun e => ?_⟩
  · rw [e] at h; simpa using h
  · rw [e] at h; simpa using h)

theorem sched_sets_ok {l : List (List Int)} {Q : List (List Int) → Prop} (hl : l.length ≤ 1000000) (hs : ∀ x ∈ l, x.length ≤ 1000000) (h : Q (l.map setOf)) : sched_sets l Q := sched_sets_w (by
  unfold sched_sets_v; intro _
  refine ⟨fun j out => out = (l.take j).map setOf, by simp, ?_, ?_⟩
  · rintro j hj out rfl
    exact ⟨hj, vset_Of_ok (hs _ (List.getElem_mem hj)) ⟨by simp; omega, by dsimp only; rw [List.take_succ_eq_append_getElem hj, List.map_append, List.map_singleton]⟩⟩
  · rintro out rfl
    try dsimp only
    rwa [List.take_length])

theorem cmp_isNaN_ok {x : Int} {Q : Bool → Prop} (h : Q false) : cmp_isNaN_int x Q := cmp_isNaN_int_w fun _ => by unfold cmp_isNaN_int_v; simpa using h
def cmpI (x y : Int) : Int := if x < y then -1 else if y < x then 1 else 0
theorem cmp_Compare_ok {x y : Int} {Q : Int → Prop} (h : Q (cmpI x y)) : cmp_Compare_int x y Q := cmp_Compare_int_w fun _ _ => by
  unfold cmp_Compare_int_v
  refine cmp_isNaN_ok (cmp_isNaN_ok ⟨by simp, fun _ => ⟨by simp, fun _ => ⟨fun c => ?_, fun c => ⟨fun d => ?_, fun d => ?_⟩⟩⟩⟩) <;> simpa [cmpI, *] using h
def orI : List Int → Int
  | [] => 0
  | x :: l => if x = 0 then orI l else x
theorem cmp_Or_ok {l : List Int} {Q : Int → Prop} (h : Q (orI l)) : cmp_Or_int l Q := cmp_Or_int_w (by
  unfold cmp_Or_int_v; intro _
  refine ⟨fun j => orI l = orI (l.drop j), by simp, fun j hj hI => ⟨hj, fun _ => ⟨fun e => ?_, fun e => ?_⟩⟩, fun hI => ?_⟩
  · rw [hI, List.drop_eq_getElem_cons hj, orI, if_neg e] at h; exact h
  · rw [hI, List.drop_eq_getElem_cons hj, orI, if_pos e]
  · rw [hI, List.drop_eq_nil_of_le (Nat.le_refl _)] at h; exact h)

def fewB (parts : List (List Int)) (out : List Int) (l : List Ref42_Step) : Bool := (parts.all fun p => decide (p.length ≤ 10)) && (l.all fun x => decide (x.Out.length ≤ 10)) && decide (parts.length ≤ 8) && decide (out.length ≤ 12) && decide (l.length ≤ 10)
theorem law42_few_ok {parts : List (List Int)} {out : List Int} {l : List Ref42_Step} {Q : Bool → Prop} (h : Q (fewB parts out l)) : law42_few parts out l Q := law42_few_w (by
  unfold law42_few_v; intro _
  refine ⟨fun j => ∀ p ∈ parts.take j, p.length ≤ 10, by simp, fun j hj hI => ⟨hj, fun _ => ⟨fun c => ?_, fun c => ?_⟩⟩, fun hI _ => ?_⟩
  · have : fewB parts out l = false := by
      unfold fewB
      have : (parts.all fun p => decide (p.length ≤ 10)) = false := by
        rw [List.all_eq_false]; exact ⟨_, List.getElem_mem hj, by simp; omega⟩
      rw [this]; rfl
    rwa [this] at h
  · dsimp only at *
    rw [List.take_succ_eq_append_getElem hj]
    intro p hp
    rcases List.mem_append.1 hp with hp | hp
    · exact hI p hp
    · simp at hp; subst hp; omega
  · dsimp only at hI
    rw [List.take_length] at hI
    have h1 : (parts.all fun p => decide (p.length ≤ 10)) = true := by simpa using hI
    refine ⟨fun j => ∀ p ∈ l.take j, p.Out.length ≤ 10, by simp, fun j hj hI => ⟨hj, fun _ => ⟨fun c => ?_, fun c => ?_⟩⟩, fun hI _ => ?_⟩
    · have : fewB parts out l = false := by
        unfold fewB
        have : (l.all fun x => decide (x.Out.length ≤ 10)) = false := by
          rw [List.all_eq_false]; exact ⟨_, List.getElem_mem hj, by simp; omega⟩
        rw [this]; simp
      rwa [this] at h
    · dsimp only at *
      rw [List.take_succ_eq_append_getElem hj]
      intro p hp
      rcases List.mem_append.1 hp with hp | hp
      · exact hI p hp
      · simp at hp; subst hp; omega
    · dsimp only at hI
      rw [List.take_length] at hI
      have h2 : (l.all fun x => decide (x.Out.length ≤ 10)) = true := by simpa using hI
      unfold fewB at h
      rw [h1, h2, Bool.true_and, Bool.true_and] at h
      refine ⟨fun c _ => ⟨fun d _ => ?_, fun d => ?_⟩, fun c => ?_⟩
      · rw [decide_eq_true (by omega), decide_eq_true (by omega), Bool.true_and, Bool.true_and] at h
        rwa [show decide ((l.length : Int) ≤ 10) = decide (l.length ≤ 10) from by apply decide_eq_decide.2; omega]
      · rwa [decide_eq_false (p := out.length ≤ 12) (by omega), Bool.and_false, Bool.false_and] at h
      · rwa [decide_eq_false (p := parts.length ≤ 8) (by omega), Bool.false_and, Bool.false_and] at h)

def ownS (l : List Ref42_Step) : List Sched_Step := l.map fun x => ⟨x.Part, x.Out⟩
end Go.Proofs.Ytinfniggaldheab
