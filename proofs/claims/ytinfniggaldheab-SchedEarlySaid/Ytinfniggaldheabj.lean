/-
  The X layer, part j: what the statement's reading of an argument gives: a value that stands for a datum of Lean (Reads), and what the walk gives back to the statement (Below).
-/
import Derived.Test.Ytinfniggaldheabh
import Derived.Deep.Slices
import Derived.Below
import Derived.ChangeOld
import Derived.ProofKit
import Derived.OpenShut
import Derived.ShutString
namespace Go.X
open Go Go.RowKit Go.ChangeShapes Go.WideShapes Go.ChangeAt Go.Deep

/-- Every block that is there. -/
def All (w : World) : Reg := fun b => b < w.heap.size

theorem All.st (w : World) : St (All w) w [] := ⟨fun _ h => h, fun _ h => by simp at h, List.nodup_nil⟩

theorem Ext.below {I' : Reg} {w w' : World} (h : Ext (All w) w I' w') : Below w.heap.size w w' := ⟨h.os, h.tape, h.output, h.size, fun k hk => h.keep k hk⟩

/-- A datum of type t is read as one of α. -/
def Reads (P : Program) (t : TypeId) (α : Type) [Rep α] : Prop :=
  ∀ {H : Type} {enc : TypeId × Value → H} {w : World} {base : Nat} {sp : Nat → Bool} {held : Bool} {fuel : Nat} {cs : List Value} {x : DataW H × List MemPlace},
    DataW.trod enc P w base sp held fuel t cs = some x → ∃ v, ∃ y : α, cs = v.cells.toList ∧ rep (All w) w v y

theorem wf_i64 {n : Int} (h : (Lit.int .i64 n).wf = true) : -9223372036854775808 ≤ n ∧ n ≤ 9223372036854775807 := by
  simp [Lit.wf, IntKind.min, IntKind.max, IntKind.signed, IntKind.bits] at h
  omega

theorem Reads.int {P : Program} {t : TypeId} (ht : P.underlying t = some (.int .i64)) : Reads P t Int := fun h => by
  obtain ⟨n, rfl, _, hw⟩ := DataW.trod_int ht h
  exact ⟨_, n, rfl, rfl, (wf_i64 hw).1, (wf_i64 hw).2⟩
theorem Reads.bool {P : Program} {t : TypeId} (ht : P.underlying t = some .bool) : Reads P t Bool := fun h => by
  obtain ⟨n, rfl, _⟩ := DataW.trod_bool ht h
  exact ⟨_, n, rfl, rfl⟩
theorem Reads.string {P : Program} {t : TypeId} (ht : P.underlying t = some .string) : Reads P t ByteArray := fun h => by
  obtain ⟨n, rfl, _, hw⟩ := DataW.trod_string ht h
  exact ⟨_, n, rfl, rfl, by simp only [maxLen] at hw; unfold maxI; omega⟩

theorem choose_list {α : Type} {n : Nat} {p : Nat → α → Prop} (h : ∀ i, i < n → ∃ x, p i x) : ∃ xs : List α, xs.length = n ∧ ∀ i (hi : i < xs.length), p i xs[i] := by
  induction n with
  | zero => exact ⟨[], rfl, fun i hi => by simp at hi⟩
  | succ n ih =>
    obtain ⟨xs, hl, hp⟩ := ih (fun i hi => h i (by omega))
    obtain ⟨x, hx⟩ := h n (by omega)
    refine ⟨xs ++ [x], by simp [hl], fun i hi => ?_⟩
    by_cases hk : i < xs.length
    · rw [List.getElem_append_left hk]; exact hp i hk
    · have : i = n := by simp at hi; omega
      subst this
      rw [List.getElem_append_right (by omega)]
      simpa [hl] using hx

theorem points_of_cells {w : World} {base : Nat} {a : Addr} {n : Nat} {v : Value} (ha : a.spot = none) (h : w.cells? base a n = some v.cells.toList) : Points w a v := by
  obtain ⟨_, hn, h1⟩ := World.cells?_some h
  refine ⟨ha, fun j hj => ?_⟩
  have h2 := h1 j (by rw [← hn]; simpa using hj)
  rw [Array.getElem?_toList] at h2
  rw [← h2]
  obtain ⟨b, o, s⟩ := a
  obtain rfl : s = none := ha
  by_cases hj0 : j = 0
  · subst hj0; rfl
  · simp [Addr.add, hj0]

theorem Reads.list {P : Program} {t e : TypeId} {α : Type} [Rep α] (ht : P.underlying t = some (.slice e)) (hc : P.cellsOf e = Rep.size α) (he : Reads P e α) : Reads P t (List α) := fun {H enc w base sp held fuel cs x} h => by
  rcases open_slice ht h with ⟨rfl, _⟩ | ⟨a, len, cap, m, n, D, Pl, rfl, hb, hl, hm, hmm, hx, each⟩
  · exact ⟨.slice none 0 0, [], rfl, rep_nil (by decide)⟩
  · have hlm : len ≤ m := by rw [hmm]; split <;> omega
    have key : ∀ i, i < len → ∃ y : α, (a.add (i * Rep.size α)).spot = none ∧ a.block < w.heap.size ∧ ∃ v, rep (All w) w v y ∧ Points w ⟨a.block, a.off + i * Rep.size α, none⟩ v := by
      intro i hi
      obtain ⟨cs', h1, h2⟩ := each i (by omega)
      obtain ⟨v, y, rfl, r⟩ := he h2
      rw [hc] at h1
      obtain ⟨hbb, hn, h3⟩ := World.cells?_some h1
      have hp := Rep.pos (α := α)
      obtain ⟨c0, h4⟩ : ∃ c0, v.cells.toList[0]? = some c0 := ⟨_, List.getElem?_eq_getElem (by omega)⟩
      have h5 := (h3 0 hp).trans h4
      have h6 : (a.add (i * Rep.size α)).spot = none := by have := World.cell?_spot h5; simpa [Addr.add] using this
      have hblk : a.block < w.heap.size := by have := World.cells?_block h1 hp; unfold Addr.add at this; split at this <;> exact this
      have h7 : (⟨a.block, a.off + i * Rep.size α, none⟩ : Addr) = a.add (i * Rep.size α) := by
        obtain ⟨b, o, s⟩ := a
        by_cases hz : i * Rep.size α = 0
        · rw [hz] at h6 ⊢; simp [Addr.add] at h6 ⊢; exact h6.symm
        · simp [Addr.add, hz]
      exact ⟨y, h6, hblk, v, r, h7 ▸ points_of_cells h6 h1⟩
    obtain ⟨xs, hn, hp⟩ := choose_list key
    refine ⟨.slice (some a) len cap, xs, rfl, ⟨⟨some a, cap, by rw [hn], by omega, by simp only [maxLen] at hm; unfold maxI; omega, ?_⟩⟩⟩
    by_cases h0 : xs = []
    · exact .inl h0
    · have hl0 : 0 < xs.length := List.length_pos_iff.2 h0
      obtain ⟨hs, hk, _⟩ := hp 0 hl0
      refine .inr ⟨a.block, a.off, ?_, hk, fun j hj => (hp j hj).2.2⟩
      rw [Nat.zero_mul] at hs
      obtain ⟨b, o, s⟩ := a
      exact congrArg some (by rw [show s = none from hs])

/-- A slice among the arguments. -/
theorem Reads.slice {P : Program} {t : TypeId} {α : Type} [Rep α] (he : Reads P t (List α)) {H : Type} {enc : TypeId × Value → H} {w : World} {base : Nat} {sp : Nat → Bool} {held : Bool} {a : Option Addr} {l c : Nat} {d : DataW H} {ps : List MemPlace}
    (h : DataW.Trod enc P w base sp held t (.slice a l c) d ps) : ∃ xs : List α, rep (All w) w (.slice a l c) xs := by
  obtain ⟨fuel, hf⟩ := h
  obtain ⟨v, y, hv, r⟩ := he hf
  have hr := r.ex
  obtain ⟨a', c', rfl, _⟩ := hr
  simp [Value.cells] at hv
  obtain ⟨rfl, rfl, rfl⟩ := hv
  exact ⟨y, r⟩
end Go.X
