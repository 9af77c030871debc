/-
  The X layer, part m: structs among what the statement reads.
-/
import Derived.Test.Ytinfniggaldheabj
import Derived.Test.Ytinfniggaldheabk
import Derived.ChangeSame
namespace Go.X
open Go Go.RowKit Go.ChangeShapes Go.WideShapes Go.ChangeAt

theorem Reads.pair {P : Program} {t : TypeId} {f0 f1 : Field} {α β : Type} [Rep α] [Rep β] (ht : P.underlying t = some (.struct #[f0, f1])) (hc : P.cellsOf t = Rep.size α + Rep.size β)
    (h0 : f0.offset = 0) (c0 : P.cellsOf f0.type = Rep.size α) (h1 : f1.offset = Rep.size α) (c1 : P.cellsOf f1.type = Rep.size β) (r0 : Reads P f0.type α) (r1 : Reads P f1.type β) : Reads P t (α × β) := fun h => by
  obtain ⟨y0, y1, n, _, hl, hy0, hy1⟩ := trod_struct2 ht h
  obtain ⟨v0, a, e0, ra⟩ := r0 hy0
  obtain ⟨v1, b, e1, rb⟩ := r1 hy1
  rw [h0, c0, List.drop_zero] at e0
  rw [h1, c1, List.take_of_length_le (by rw [List.length_drop]; omega)] at e1
  exact ⟨.agg (v0.cells ++ v1.cells), (a, b), by show _ = (v0.cells ++ v1.cells).toList; rw [Array.toList_append, ← e0, ← e1, List.take_append_drop], v0, v1, rfl, ra, rb⟩
theorem Reads.via {P : Program} {t : TypeId} {α β : Type} [Rep β] (g : α → β) (f : β → α) (hg : ∀ y, g (f y) = y) (h : Reads P t β) : @Reads P t α (Rep.via g) := fun hh => by
  obtain ⟨v, y, e, r⟩ := h hh
  exact ⟨v, f y, e, show rep _ _ v (g (f y)) by rw [hg]; exact r⟩
end Go.X
