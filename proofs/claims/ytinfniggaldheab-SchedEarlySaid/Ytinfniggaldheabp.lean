/-
  Plain Lean: what the functions of vset and of its reference compute, and that they agree.
-/
namespace Go.Vs

/-- Insertion into an increasing list, without repetition. -/
def ins (v : Int) : List Int → List Int
  | [] => [v]
  | x :: xs => if v < x then v :: x :: xs else if v = x then x :: xs else x :: ins v xs

def setOf (l : List Int) : List Int := l.foldl (fun a v => ins v a) []

/-- The reference's put. -/
def putL (v : Int) : List Int → List Int
  | [] => [v]
  | x :: xs => if v < x then v :: x :: xs else x :: putL v xs

def refStep (a : List Int) (v : Int) : List Int := if v ∈ a then a else putL v a
def refOf (l : List Int) : List Int := l.foldl refStep []

def inc : List Int → Bool
  | [] => true
  | [_] => true
  | x :: y :: l => decide (x < y) && inc (y :: l)

theorem inc_tail {x : Int} {l : List Int} (h : inc (x :: l) = true) : inc l = true := by
  cases l with
  | nil => rfl
  | cons y l => simp only [inc, Bool.and_eq_true] at h; exact h.2

theorem inc_lt {x : Int} : ∀ {l : List Int}, inc (x :: l) = true → ∀ y ∈ l, x < y
  | [], _, _, h => by simp at h
  | z :: l, h, y, hy => by
    simp only [inc, Bool.and_eq_true, decide_eq_true_eq] at h
    rcases List.mem_cons.1 hy with rfl | hy
    · exact h.1
    · have := inc_lt h.2 y hy; omega

theorem inc_cons {x : Int} {l : List Int} (h : inc l = true) (hx : ∀ y ∈ l, x < y) : inc (x :: l) = true := by
  cases l with
  | nil => rfl
  | cons y l => simp only [inc, Bool.and_eq_true, decide_eq_true_eq]; exact ⟨hx y (by simp), h⟩

theorem mem_ins {v y : Int} : ∀ {l : List Int}, y ∈ ins v l ↔ y = v ∨ y ∈ l
  | [] => by simp [ins]
  | x :: xs => by
    unfold ins
    split
    · simp
    · split
      · rename_i h; subst h; simp
      · simp only [List.mem_cons, mem_ins (l := xs)]
        constructor
        · rintro (h | h | h) <;> simp [h]
        · rintro (h | h | h) <;> simp [h]

theorem inc_ins {v : Int} : ∀ {l : List Int}, inc l = true → inc (ins v l) = true
  | [], _ => rfl
  | x :: xs, h => by
    unfold ins
    split
    · exact inc_cons h (fun y hy => by
        rcases List.mem_cons.1 hy with rfl | hy
        · assumption
        · have := inc_lt h y hy; omega)
    · split
      · exact h
      · refine inc_cons (inc_ins (inc_tail h)) (fun y hy => ?_)
        rcases mem_ins.1 hy with rfl | hy
        · omega
        · exact inc_lt h y hy

theorem ins_eq {v : Int} : ∀ {l : List Int}, inc l = true → ins v l = refStep l v
  | [], _ => by simp [ins, refStep, putL]
  | x :: xs, h => by
    have ih := ins_eq (v := v) (inc_tail h)
    have hl := inc_lt h
    unfold ins refStep
    by_cases h1 : v < x
    · have : v ∉ x :: xs := by
        intro hm
        rcases List.mem_cons.1 hm with rfl | hm
        · omega
        · have := hl v hm; omega
      rw [if_pos h1, if_neg this, putL, if_pos h1]
    · rw [if_neg h1]
      by_cases h2 : v = x
      · subst h2; simp
      · rw [if_neg h2, ih]
        unfold refStep
        by_cases hm : v ∈ xs
        · rw [if_pos hm, if_pos (List.mem_cons_of_mem _ hm)]
        · rw [if_neg hm, if_neg (by simp [h2, hm]), putL, if_neg h1]

theorem foldl_ins : ∀ (l a : List Int), inc a = true → inc (l.foldl (fun a v => ins v a) a) = true ∧ l.foldl (fun a v => ins v a) a = l.foldl refStep a
  | [], a, h => ⟨h, rfl⟩
  | v :: l, a, h => by
    have := foldl_ins l (ins v a) (inc_ins h)
    simp only [List.foldl_cons, ← ins_eq h]
    exact this

theorem inc_setOf (l : List Int) : inc (setOf l) = true := (foldl_ins l [] rfl).1
theorem setOf_eq (l : List Int) : setOf l = refOf l := (foldl_ins l [] rfl).2

theorem mem_foldl_ins {y : Int} : ∀ (l a : List Int), y ∈ l.foldl (fun a v => ins v a) a ↔ y ∈ l ∨ y ∈ a
  | [], a => by simp
  | v :: l, a => by
    rw [List.foldl_cons, mem_foldl_ins l, mem_ins, List.mem_cons]
    constructor
    · rintro (h | h | h) <;> simp [h]
    · rintro ((h | h) | h) <;> simp [h]
theorem mem_setOf {y : Int} (l : List Int) : y ∈ setOf l ↔ y ∈ l := by simp [setOf, mem_foldl_ins]

theorem inc_ext : ∀ {a b : List Int}, inc a = true → inc b = true → (∀ y, y ∈ a ↔ y ∈ b) → a = b
  | [], [], _, _, _ => rfl
  | [], y :: b, _, _, h => by have := (h y).2 (by simp); simp at this
  | x :: a, [], _, _, h => by have := (h x).1 (by simp); simp at this
  | x :: a, y :: b, ha, hb, h => by
    have hxy : x = y := by
      have h1 := (h x).1 (by simp)
      have h2 := (h y).2 (by simp)
      rcases List.mem_cons.1 h1 with h1 | h1
      · exact h1
      · rcases List.mem_cons.1 h2 with h2 | h2
        · exact h2.symm
        · have := inc_lt hb x h1; have := inc_lt ha y h2; omega
    subst hxy
    rw [inc_ext (inc_tail ha) (inc_tail hb) (fun z => ?_)]
    have hz := h z
    simp only [List.mem_cons] at hz
    constructor
    · intro hm
      rcases hz.1 (.inr hm) with rfl | hm'
      · exact absurd (inc_lt ha z hm) (by omega)
      · exact hm'
    · intro hm
      rcases hz.2 (.inr hm) with rfl | hm'
      · exact absurd (inc_lt hb z hm) (by omega)
      · exact hm'

theorem length_ins (v : Int) : ∀ l : List Int, (ins v l).length ≤ l.length + 1
  | [] => by simp [ins]
  | x :: xs => by
    unfold ins; split
    · simp
    · split
      · simp
      · have := length_ins v xs; simp; omega
theorem length_foldl_ins : ∀ (l a : List Int), (l.foldl (fun a v => ins v a) a).length ≤ l.length + a.length
  | [], a => by simp
  | v :: l, a => by
    have := length_foldl_ins l (ins v a); have := length_ins v a
    simp only [List.foldl_cons, List.length_cons]; omega
theorem length_setOf (l : List Int) : (setOf l).length ≤ l.length := by simpa [setOf] using length_foldl_ins l []
theorem length_putL (v : Int) : ∀ l : List Int, (putL v l).length = l.length + 1
  | [] => rfl
  | x :: xs => by unfold putL; split <;> simp [length_putL v xs]

theorem ins_mem {v : Int} {l : List Int} (h : inc l = true) (hv : v ∈ l) : ins v l = l := by
  rw [ins_eq h]; simp [refStep, hv]

theorem shift_ins {v z : Int} {out : List Int} {i : Nat} (hi : i ≤ out.length) :
    ((out ++ [z]).take (i + 1) ++ ((out ++ [z]).drop i).take ((out ++ [z]).length - (i + 1))).set i v = out.take i ++ v :: out.drop i := by
  have h1 : (out ++ [z]).length - (i + 1) = out.length - i := by simp
  rw [h1]
  have h2 : ((out ++ [z]).drop i).take (out.length - i) = out.drop i := by
    rw [List.drop_append_of_le_length hi, List.take_append_of_le_length (by simp)]
    exact List.take_of_length_le (by simp)
  rw [h2]
  have h3 : i < ((out ++ [z]).take (i + 1)).length := by simp; omega
  rw [List.set_append_left _ _ h3]
  have h4 : (out ++ [z]).take (i + 1) = out.take i ++ [(out ++ [z])[i]'(by simp; omega)] := by
    rw [List.take_succ_eq_append_getElem (by simp; omega), List.take_append_of_le_length hi]
  rw [h4, List.set_append_right _ _ (by simp; omega)]
  simp [Nat.min_eq_left hi]

theorem ins_at {v : Int} : ∀ {out : List Int} {i : Nat}, i ≤ out.length → (∀ x ∈ out.take i, x < v) → (∀ x ∈ out.drop i, v < x) → ins v out = out.take i ++ v :: out.drop i
  | [], i, _, _, _ => by simp [ins]
  | x :: xs, 0, _, _, h => by
    have := h x (by simp)
    simp [ins, this]
  | x :: xs, i + 1, hi, h1, h2 => by
    have hx := h1 x (by simp)
    have := ins_at (v := v) (out := xs) (i := i) (by simpa using hi) (fun y hy => h1 y (by simp [hy])) (fun y hy => h2 y (by simpa using hy))
    rw [ins, if_neg (by omega), if_neg (by omega), this]; simp

theorem inc_get {out : List Int} (h : inc out = true) : ∀ {a b : Nat} (hb : b < out.length) (hab : a < b), out[a] < out[b] := by
  induction out with
  | nil => intro a b hb; simp at hb
  | cons x xs ih =>
    intro a b hb hab
    cases b with
    | zero => omega
    | succ b =>
      cases a with
      | zero => exact inc_lt h _ (List.getElem_mem _)
      | succ a => exact ih (inc_tail h) (by simpa using hb) (by omega)

theorem take_lt {v : Int} {out : List Int} {i : Nat} (h : inc out = true) (hi : i ≤ out.length) (hv : ∀ (h : i - 1 < out.length), 0 < i → out[i - 1] < v) : ∀ x ∈ out.take i, x < v := by
  intro x hx
  obtain ⟨j, hj, rfl⟩ := List.getElem_of_mem hx
  simp only [List.length_take] at hj
  rw [List.getElem_take]
  have h0 := hv (by omega) (by omega)
  rcases Nat.lt_or_ge j (i - 1) with h1 | h1
  · have := inc_get h (a := j) (b := i - 1) (by omega) h1; omega
  · have : j = i - 1 := by omega
    subst this; exact h0

theorem within_eq {a b : List Int} : decide (((setOf (a.filter fun v => !(decide (v ∈ b)))).length : Int) = 0) = (a.all fun v => decide (v ∈ b)) := by
  by_cases h : ∀ v ∈ a, v ∈ b
  · have : a.filter (fun v => !(decide (v ∈ b))) = [] := by simpa using h
    rw [this]; simpa [setOf] using h
  · have h2 : (a.all fun v => decide (v ∈ b)) = false := by simpa using h
    rw [h2, decide_eq_false]
    intro h0
    apply h
    intro v hv
    by_cases hb : v ∈ b
    · exact hb
    · have : v ∈ setOf (a.filter fun v => !(decide (v ∈ b))) := (mem_setOf _).2 (by simp [hv, hb])
      have hn : setOf (a.filter fun v => !(decide (v ∈ b))) = [] := List.eq_nil_of_length_eq_zero (by omega)
      rw [hn] at this
      simp at this
theorem flat_le (n : Nat) : ∀ l : List (List Int), (∀ x ∈ l, x.length ≤ n) → l.flatten.length ≤ l.length * n
  | [], _ => by simp
  | x :: l, h => by
    have h1 := h x (by simp)
    have h2 := flat_le n l (fun y hy => h y (by simp [hy]))
    rw [List.flatten_cons, List.length_append, List.length_cons, Nat.add_mul]; omega
theorem two_same {a b : List Int} : (((a.all fun v => decide (v ∈ b)) && (b.all fun v => decide (v ∈ a))) == (refOf a == refOf b)) = true := by
  rw [beq_iff_eq, Bool.eq_iff_iff, beq_iff_eq, ← setOf_eq, ← setOf_eq]
  simp only [Bool.and_eq_true, List.all_eq_true, decide_eq_true_eq]
  constructor
  · intro h
    exact inc_ext (inc_setOf _) (inc_setOf _) (fun y => by rw [mem_setOf, mem_setOf]; exact ⟨h.1 y, h.2 y⟩)
  · intro h
    exact ⟨fun x hx => (mem_setOf b).1 (h ▸ (mem_setOf a).2 hx), fun x hx => (mem_setOf a).1 (h ▸ (mem_setOf b).2 hx)⟩
theorem t60 (l : List Int) : (l.take 60).length ≤ 500 := by rw [List.length_take]; omega
theorem sf60 (l : List Int) (p : Int → Bool) : (setOf ((l.take 60).filter p)).length ≤ 500 :=
  Nat.le_trans (length_setOf _) (Nat.le_trans (List.length_filter_le _ _) (t60 l))
theorem flat2 {x y : List Int} (hx : x.length ≤ 500) (hy : y.length ≤ 500) : [x, y].flatten.length ≤ 1000000 := by simp; omega
theorem flat3 {x y z : List Int} (hx : x.length ≤ 500) (hy : y.length ≤ 500) (hz : z.length ≤ 500) : [x, y, z].flatten.length ≤ 1000000 := by simp; omega
theorem flat4 {x y z v : List Int} (hx : x.length ≤ 500) (hy : y.length ≤ 500) (hz : z.length ≤ 500) (hv : v.length ≤ 500) : [x, y, z, v].flatten.length ≤ 1000000 := by simp; omega
theorem su2 (l m : List Int) : (setOf [l.take 60, m.take 60].flatten).length ≤ 500 := by
  have := length_setOf [l.take 60, m.take 60].flatten
  have h1 : (l.take 60).length ≤ 60 := by rw [List.length_take]; omega
  have h2 : (m.take 60).length ≤ 60 := by rw [List.length_take]; omega
  have h3 : [l.take 60, m.take 60].flatten.length = (l.take 60).length + (m.take 60).length := by
    rw [List.flatten_cons, List.flatten_cons, List.flatten_nil, List.length_append, List.append_nil]
  omega
theorem big {x : List Int} (h : x.length ≤ 500) : x.length ≤ 1000000 := by omega
theorem setOf_same {x y : List Int} (h : ∀ v, v ∈ x ↔ v ∈ y) : (setOf x == setOf y) = true :=
  beq_iff_eq.2 (inc_ext (inc_setOf _) (inc_setOf _) (fun v => by rw [mem_setOf, mem_setOf]; exact h v))
theorem same_all {x y : List Int} (h : ∀ v, v ∈ x ↔ v ∈ y) : ((x.all fun v => decide (v ∈ y)) && (y.all fun v => decide (v ∈ x))) = true := by
  simp only [Bool.and_eq_true, List.all_eq_true, decide_eq_true_eq]
  exact ⟨fun v hv => (h v).1 hv, fun v hv => (h v).2 hv⟩
theorem mem_parts {a b : List Int} (v : Int) : v ∈ setOf [setOf (a.filter fun v => decide (v ∈ b)), setOf (a.filter fun v => !(decide (v ∈ b)))].flatten ↔ v ∈ a := by
  rw [mem_setOf]
  simp only [List.flatten_cons, List.flatten_nil, List.append_nil, List.mem_append, mem_setOf, List.mem_filter, decide_eq_true_eq, Bool.not_eq_true', decide_eq_false_iff_not]
  by_cases h : v ∈ b <;> simp [h]
theorem parts_none {a b : List Int} : setOf ((setOf (a.filter fun v => decide (v ∈ b))).filter fun v => decide (v ∈ setOf (a.filter fun v => !(decide (v ∈ b))))) = [] := by
  have : (setOf (a.filter fun v => decide (v ∈ b))).filter (fun v => decide (v ∈ setOf (a.filter fun v => !(decide (v ∈ b))))) = [] := by
    rw [List.filter_eq_nil_iff]
    intro v hv h
    simp only [mem_setOf, List.mem_filter, decide_eq_true_eq, Bool.not_eq_true', decide_eq_false_iff_not] at hv h
    exact h.2 hv.2
  rw [this]; rfl
end Go.Vs
