/-
  The X layer, part e: blocks of the call's own: boxes, and slices that the call builds.
-/
import Derived.Test.Ytinfniggaldheabd
namespace Go.X
open Go Go.RowKit

/-- Cells that hold the elements of xs, from the first on. -/
def ElemsA {α : Type} [Rep α] (I : Reg) (w : World) (get : Nat → Option Value) (xs : List α) : Prop :=
  ∀ j (h : j < xs.length), ∃ u, rep I w u xs[j] ∧ ∀ i, i < u.cells.size → get (j * Rep.size α + i) = u.cells[i]?

theorem ElemsA.mono {α : Type} [Rep α] {I I' : Reg} {w w' : World} {get : Nat → Option Value} {xs : List α} (h : Ext I w I' w') (e : ElemsA I w get xs) : ElemsA I' w' get xs := fun j hj => by
  obtain ⟨u, h1, h2⟩ := e j hj
  exact ⟨u, h.rep h1, h2⟩

theorem ElemsA.append {α : Type} [Rep α] {I : Reg} {w : World} {g1 g2 g : Nat → Option Value} {xs ys : List α} (h1 : ElemsA I w g1 xs) (h2 : ElemsA I w g2 ys)
    (e1 : ∀ i, i < xs.length * Rep.size α → g i = g1 i) (e2 : ∀ i, i < ys.length * Rep.size α → g (xs.length * Rep.size α + i) = g2 i) : ElemsA I w g (xs ++ ys) := by
  have lt : ∀ {n j i : Nat}, j < n → i < Rep.size α → j * Rep.size α + i < n * Rep.size α := fun {n j i} hj hi => by
    have : (j + 1) * Rep.size α ≤ n * Rep.size α := Nat.mul_le_mul_right _ hj
    rw [Nat.add_mul, Nat.one_mul] at this; omega
  intro j hj
  by_cases hx : j < xs.length
  · obtain ⟨u, hu, hc⟩ := h1 j hx
    refine ⟨u, by rw [List.getElem_append_left hx]; exact hu, fun i hi => ?_⟩
    rw [e1 _ (lt hx (by rw [← Rep.cells hu]; exact hi))]; exact hc i hi
  · have hlen : j - xs.length < ys.length := by rw [List.length_append] at hj; omega
    obtain ⟨u, hu, hc⟩ := h2 (j - xs.length) hlen
    refine ⟨u, by rw [List.getElem_append_right (by omega)]; exact hu, fun i hi => ?_⟩
    have := e2 ((j - xs.length) * Rep.size α + i) (lt hlen (by rw [← Rep.cells hu]; exact hi))
    rw [← Nat.add_assoc, ← Nat.add_mul, Nat.add_sub_cancel' (by omega)] at this
    rw [this]; exact hc i hi

/-- A slice that the call builds: nil, or a block of its own. -/
structure OwnSl {α : Type} [Rep α] (I : Reg) (w : World) (A : Own) (v : Value) (xs : List α) : Prop where
  ex : (v = .slice none 0 0 ∧ xs = [] ∧ A = []) ∨ ∃ b arr cap e0, A = [(b, .cells arr e0 (0, 0))] ∧ v = .slice (some ⟨b, 0, none⟩) xs.length cap ∧ xs.length ≤ cap ∧ cap ≤ maxLen ∧ cap * Rep.size α ≤ arr.size ∧
    ElemsA I w (arr[·]?) xs

theorem OwnSl.mono {α : Type} [Rep α] {I I' : Reg} {w w' : World} {A : Own} {v : Value} {xs : List α} (h : Ext I w I' w') (o : OwnSl I w A v xs) : OwnSl I' w' A v xs := by
  rcases o.ex with o | ⟨b, arr, cap, e0, h1, h2, h3, h4, h5, h6⟩
  · exact ⟨.inl o⟩
  · exact ⟨.inr ⟨b, arr, cap, e0, h1, h2, h3, h4, h5, h6.mono h⟩⟩

theorem OwnSl.nil {α : Type} [Rep α] {I : Reg} {w : World} : OwnSl I w [] (.slice none 0 0) ([] : List α) := ⟨.inl ⟨rfl, rfl, rfl⟩⟩

theorem OwnSl.len {α : Type} [Rep α] {I : Reg} {w : World} {A : Own} {v : Value} {xs : List α} (o : OwnSl I w A v xs) : ∃ a cap, v = .slice a xs.length cap ∧ xs.length ≤ 9223372036854775807 := by
  rcases o.ex with ⟨rfl, rfl, rfl⟩ | ⟨b, arr, cap, e0, h1, h2, h3, h4, h5, h6⟩
  · exact ⟨_, _, rfl, by simp⟩
  · unfold maxLen at h4; exact ⟨_, _, h2, by omega⟩

theorem OwnSl.cast {α : Type} [Rep α] {I : Reg} {w : World} {A : Own} {v : Value} {xs ys : List α} (h : xs = ys) (o : OwnSl I w A v xs) : OwnSl I w A v ys := h ▸ o
theorem OwnSl.bd {α : Type} [Rep α] {I : Reg} {w : World} {A : Own} {v : Value} {xs : List α} (o : OwnSl I w A v xs) : xs.length ≤ 9223372036854775807 := by obtain ⟨_, _, _, h⟩ := o.len; exact h
theorem rep_cast {α : Type} [Rep α] {I : Reg} {w : World} {v : Value} {x y : α} (h : x = y) (r : rep I w v x) : rep I w v y := h ▸ r

theorem cell_of_block {w : World} {b o : Nat} {arr : Array Value} {e : TypeId} {fr : Nat × Nat} (h : w.heap[b]? = some (.cells arr e fr)) : w.cell? ⟨b, o, none⟩ = arr[o]? := by
  simp [World.cell?, h]

/-- What the call has built is handed on: it stays as it is from now on. -/
theorem OwnSl.freeze {α : Type} [Rep α] {I : Reg} {w : World} {A T : Own} {v : Value} {xs : List α} (o : OwnSl I w A v xs) (hs : St I w (A ++ T)) : ∃ I', Ext I w I' w ∧ St I' w T ∧ rep I' w v xs := by
  rcases o.ex with ⟨rfl, rfl, rfl⟩ | ⟨b, arr, cap, e0, rfl, rfl, h3, h4, h5, h6⟩
  · exact ⟨I, Ext.refl _ _, hs, rep_nil (by simp [maxI])⟩
  · obtain ⟨he, hs'⟩ := hs.freeze
    refine ⟨_, he, hs', ?_⟩
    refine ⟨⟨_, cap, rfl, h3, by unfold maxLen at h4; unfold maxI; omega, .inr ⟨b, 0, rfl, .inr ⟨_, List.mem_singleton.2 rfl, rfl⟩, fun j hj => ?_⟩⟩⟩
    obtain ⟨u, hu, hc⟩ := h6 j hj
    refine ⟨u, he.rep hu, rfl, fun i hi => ?_⟩
    have hb := (hs.own (b, .cells arr e0 (0, 0)) (by simp)).1
    rw [cell_of_block hb]
    simpa using hc i hi

/-- The elements of a slice that is only read, as cells. -/
theorem list_news {α : Type} [Rep α] {I : Reg} {w : World} {v : Value} {xs : List α} (h : rep I w v xs) (hne : xs ≠ []) : ∃ a cap, v = .slice (some a) xs.length cap ∧ ∃ news : List Value, news.length = xs.length * Rep.size α ∧
    (∀ j u, news[j]? = some u → w.cell? (a.add j) = some u) ∧ (∀ u ∈ news, u.oneCell' = true) ∧ ElemsA I w (news[·]?) xs := by
  obtain ⟨a, cap, hv, _, _, he⟩ := h.ex
  rcases he with he | ⟨b, off, rfl, hb, he⟩
  · exact absurd he hne
  have hp : 0 < Rep.size α := Rep.pos
  have at_ : ∀ n, n < xs.length * Rep.size α → ∃ u, w.cell? ⟨b, off + n, none⟩ = some u ∧ u.oneCell' = true ∧ ∀ (hj : n / Rep.size α < xs.length), True := by
    intro n hn
    have hj : n / Rep.size α < xs.length := (Nat.div_lt_iff_lt_mul hp).2 hn
    obtain ⟨v, hv1, hv2⟩ := he _ hj
    have hi : n % Rep.size α < v.cells.size := by rw [Rep.cells hv1]; exact Nat.mod_lt _ hp
    have := hv2.2 _ hi
    have hdm : off + n / Rep.size α * Rep.size α + n % Rep.size α = off + n := by rw [Nat.add_assoc, Nat.div_add_mod']
    rw [hdm, Array.getElem?_eq_getElem hi] at this
    exact ⟨_, this, Rep.one hv1 _ (Array.getElem_mem_toList hi), fun _ => trivial⟩
  refine ⟨⟨b, off, none⟩, cap, hv, (List.range (xs.length * Rep.size α)).map fun n => (w.cell? ⟨b, off + n, none⟩).getD undef, by simp, ?_, ?_, ?_⟩
  · intro j u hu
    rw [List.getElem?_map] at hu
    by_cases hj : j < xs.length * Rep.size α
    · rw [List.getElem?_range hj] at hu
      obtain ⟨u', h1, _⟩ := at_ j hj
      simp only [Option.map_some, h1, Option.getD_some, Option.some.injEq] at hu
      rw [addr_add, h1, hu]
    · rw [List.getElem?_eq_none (by simpa using hj)] at hu; simp at hu
  · intro u hu
    obtain ⟨n, hn, rfl⟩ := List.mem_map.1 hu
    obtain ⟨u', h1, h2, _⟩ := at_ n (by simpa using hn)
    simpa [h1] using h2
  · intro j hj
    obtain ⟨u, hu1, hu2⟩ := he j hj
    refine ⟨u, hu1, fun i hi => ?_⟩
    have hlt : j * Rep.size α + i < xs.length * Rep.size α := by
      have h1 : i < Rep.size α := by rw [← Rep.cells hu1]; exact hi
      have : (j + 1) * Rep.size α ≤ xs.length * Rep.size α := Nat.mul_le_mul_right _ hj
      rw [Nat.add_mul, Nat.one_mul] at this; omega
    show (List.map _ _)[_]? = _
    rw [List.getElem?_map, List.getElem?_range hlt]
    have := hu2.2 i hi
    rw [Nat.add_assoc] at this
    simp only [Option.map_some, this]
    rw [Array.getElem?_eq_getElem hi]; rfl

section
variable {P : Program} {I : Reg} {w : World} {T A : Own} {t e : TypeId} {nb : Nat}

theorem append_own {α : Type} [Rep α] {v yv : Value} {xs ys : List α} {ty : TypeId} (hs : St I w (A ++ T)) (ho : OwnSl I w A v xs) (hy : rep I w yv ys) (ht : Slc P t e (Rep.size α) nb)
    (hb : (xs.length + ys.length) * nb ≤ 140737488355328) (hl : xs.length + ys.length ≤ 9223372036854775807) :
    ∃ v' A' w', (Builtin.append_ #[t, t] ty #[v, yv]).run P w = .ok v' w' ∧ Ext I w I w' ∧ St I w' (A' ++ T) ∧ OwnSl I w' A' v' (xs ++ ys) := by
  obtain ⟨i, z, hi, hsz, hnb, hz, hzs⟩ := ht.info
  have hu := ht.under
  by_cases hne : ys = []
  · subst hne
    obtain ⟨a', cap', hyv, _⟩ := hy.ex
    refine ⟨v, A, w, ?_, Ext.refl _ _, hs, by simpa using ho⟩
    have hf0 : ∀ (a : Option Addr) (cap : Nat), (Builtin.firstCells (Rep.size α) 0 (.slice a 0 cap)).run P w = .ok #[] w := fun a cap => by
      cases a <;> simp [Builtin.firstCells, loadCells, loadCellsFrom]
    rcases ho.ex with ⟨rfl, rfl, rfl⟩ | ⟨b, arr, cap, e0, rfl, rfl, h3, h4, h5, h6⟩
    · simp [Builtin.append_, run_underlying hu, sizeOf, typeInfo, hi, hsz, Builtin.lenOf, hyv, hf0]
    · simp [Builtin.append_, run_underlying hu, sizeOf, typeInfo, hi, hsz, Builtin.lenOf, hyv, hf0, h3, storeCells]
  obtain ⟨a, c, hyv, news, hnl, hnews, hone, hel⟩ := list_news hy hne
  subst hyv
  have hyl : 0 < ys.length := List.length_pos_iff.2 hne
  have hp : 0 < Rep.size α := Rep.pos
  rcases ho.ex with ⟨rfl, rfl, rfl⟩ | ⟨b, arr, cap, e0, rfl, rfl, h3, h4, h5, h6⟩
  · simp only [List.length_nil, Nat.zero_add] at hb hl
    have hr := run_append_nil (P := P) w t ty e i z hu hi hz a ys.length c news (by rw [hsz]; exact hnl) hnews hyl (by omega) (by rw [hnb]; omega)
    have hge := grownCap_ge w ys.length 0 e
    have hcm := grownCap_le_maxLen w ys.length 0 e (by unfold maxLen; omega)
    obtain ⟨e1, s1⟩ := hs.drew (w.drawn + 1)
    obtain ⟨e2, s2⟩ := s1.alloc (.cells (news.toArray ++ Builtin.zeroCells z.cells (grownCap w ys.length 0 e - ys.length)) e)
    refine ⟨_, _, _, hr, e1.trans e2, s2, ⟨.inr ⟨w.heap.size, _, _, _, rfl, rfl, hge, hcm, ?_, ?_⟩⟩⟩
    · simp only [Array.size_append, List.size_toArray, size_zeroCells, hzs, hnl, ← Nat.add_mul]
      exact Nat.mul_le_mul_right _ (by omega)
    · refine (hel.mono (e1.trans e2)).append (ys := []) (g2 := fun _ => none) (fun j hj => by simp at hj) ?_ (by simp) |> fun h => by simpa using h
      intro i hi
      rw [Array.getElem?_append_left (by simpa [hnl] using hi)]
      simp
  · by_cases hroom : xs.length + ys.length ≤ cap
    · have hg := (hs.own (b, .cells arr e0 (0, 0)) (by simp)).1
      have hfit : xs.length * i.size + news.length ≤ arr.size := by rw [hsz, hnl, ← Nat.add_mul]; exact Nat.le_trans (Nat.mul_le_mul_right _ hroom) h5
      have hfc := run_firstCells_some (P := P) w i.size ys.length a ys.length c news (by rw [hsz]; exact hnl) hnews
      have hst := run_storeCells_at P b (xs.length * i.size) e0 news 0 arr w hg (by simpa using hfit) hone
      simp only [Nat.add_zero] at hst
      have hr : (Builtin.append_ #[t, t] ty #[.slice (some ⟨b, 0, none⟩) xs.length cap, .slice (some a) ys.length c]).run P w = .ok (.slice (some ⟨b, 0, none⟩) (xs.length + ys.length) cap) (w.setRow b (List.take (xs.length * i.size) arr.toList ++ news ++ List.drop (xs.length * i.size + news.length) arr.toList).toArray) := by
        simp [Builtin.append_, run_underlying hu, sizeOf, typeInfo, hi, Builtin.lenOf, hroom, hfc, Addr.add_lit, hst]
      rw [hsz] at hr hfit
      obtain ⟨e1, s1⟩ := hs.write (w' := w.setRow b _) rfl rfl rfl (by simp [World.setRow]) (setRow_heap w b arr _ e0 _ hg) (fun c hc => setRow_other w b c _ hc)
      refine ⟨_, _, _, hr, e1, s1, ⟨.inr ⟨b, _, cap, _, rfl, by simp, by simpa using hroom, h4, ?_, ?_⟩⟩⟩
      · simp only [List.size_toArray, List.length_append, List.length_take, List.length_drop, Array.length_toList]
        omega
      · have hlen : (List.take (xs.length * Rep.size α) arr.toList).length = xs.length * Rep.size α := by
          rw [List.length_take, show arr.toList.length = arr.size from rfl]; omega
        refine (h6.mono e1).append (hel.mono e1) ?_ ?_
        · intro i hi
          simp only [List.getElem?_toArray, List.append_assoc]
          rw [List.getElem?_append_left (by omega), List.getElem?_take_of_lt hi, Array.getElem?_toList]
        · intro i hi
          simp only [List.getElem?_toArray, List.append_assoc]
          rw [List.getElem?_append_right (by omega), hlen, Nat.add_sub_cancel_left, List.getElem?_append_left (by rw [hnl]; exact hi)]
    · have hg := (hs.own (b, .cells arr e0 (0, 0)) (by simp)).1
      have hle : xs.length * Rep.size α ≤ arr.size := Nat.le_trans (Nat.mul_le_mul_right _ h3) h5
      have holds : ∀ j u, (arr.toList.take (xs.length * Rep.size α))[j]? = some u → w.cell? ((⟨b, 0, none⟩ : Addr).add j) = some u := by
        intro j u hu
        rw [addr_add, Nat.zero_add, cell_of_block hg]
        by_cases hj : j < xs.length * Rep.size α
        · rw [List.getElem?_take_of_lt hj, Array.getElem?_toList] at hu; exact hu
        · rw [List.getElem?_eq_none (by rw [List.length_take]; omega)] at hu; simp at hu
      have hlo : (arr.toList.take (xs.length * Rep.size α)).length = xs.length * i.size := by
        rw [List.length_take, show arr.toList.length = arr.size from rfl, hsz]; omega
      have hr := run_append_grow (P := P) w t ty e i z hu hi hz ⟨b, 0, none⟩ xs.length cap (arr.toList.take (xs.length * Rep.size α)) hlo holds a ys.length c news (by rw [hsz]; exact hnl) hnews (by omega) (by omega)
        (growslice_fits (by omega) (by rw [hnb]; exact hb))
      have hge := grownCap_ge w (xs.length + ys.length) cap e
      have hcm := grownCap_le_maxLen w (xs.length + ys.length) cap e (by unfold maxLen; omega)
      obtain ⟨e1, s1⟩ := hs.drop.drew (w.drawn + 1)
      obtain ⟨e2, s2⟩ := s1.alloc (.cells ((arr.toList.take (xs.length * Rep.size α)).toArray ++ news.toArray ++ Builtin.zeroCells z.cells (grownCap w (xs.length + ys.length) cap e - (xs.length + ys.length))) e)
      refine ⟨_, _, _, hr, e1.trans e2, s2, ⟨.inr ⟨w.heap.size, _, _, _, rfl, by simp, by simpa using hge, hcm, ?_, ?_⟩⟩⟩
      · simp only [Array.size_append, List.size_toArray, size_zeroCells, hzs, hnl, hlo, hsz, ← Nat.add_mul]
        exact Nat.mul_le_mul_right _ (by omega)
      · rw [hsz] at hlo
        refine (h6.mono (e1.trans e2)).append (hel.mono (e1.trans e2)) ?_ ?_
        · intro i hi
          rw [Array.getElem?_append_left (by simp only [Array.size_append, List.size_toArray]; omega), Array.getElem?_append_left (by simp only [List.size_toArray]; omega)]
          simp only [List.getElem?_toArray]
          rw [List.getElem?_take_of_lt hi, Array.getElem?_toList]
        · intro i hi
          rw [Array.getElem?_append_left (by simp only [Array.size_append, List.size_toArray]; omega), Array.getElem?_append_right (by simp only [List.size_toArray]; omega)]
          simp only [List.getElem?_toArray, List.size_toArray, hlo, Nat.add_sub_cancel_left]
end
end Go.X
