/-
  The X layer, part g: slices lent to a callee, parts of slices, min and max, copies.
-/
import Derived.Test.Ytinfniggaldheabf
namespace Go.X
open Go Go.RowKit

def grow (I : Reg) (A : Own) : Reg := fun b => I b ∨ ∃ p ∈ A, p.1 = b

theorem OwnSl.lend {α : Type} [Rep α] {I : Reg} {w : World} {A T : Own} {v : Value} {xs : List α} (o : OwnSl I w A v xs) (hs : St I w (A ++ T)) : Ext I w (grow I A) w ∧ St (grow I A) w T ∧ rep (grow I A) w v xs := by
  obtain ⟨he, hs'⟩ := hs.freeze
  refine ⟨he, hs', ?_⟩
  rcases o.ex with ⟨rfl, rfl, rfl⟩ | ⟨b, arr, cap, e0, rfl, rfl, h3, h4, h5, h6⟩
  · exact rep_nil (by simp [maxI])
  · refine ⟨⟨_, cap, rfl, h3, by unfold maxLen at h4; unfold maxI; omega, .inr ⟨b, 0, rfl, .inr ⟨_, List.mem_singleton.2 rfl, rfl⟩, fun j hj => ?_⟩⟩⟩
    obtain ⟨u, hu, hc⟩ := h6 j hj
    refine ⟨u, he.rep hu, rfl, fun i hi => ?_⟩
    have hb := (hs.own (b, .cells arr e0 (0, 0)) (by simp)).1
    rw [cell_of_block hb]
    simpa using hc i hi

/-- The callee has returned: what was lent is the call's own again. -/
theorem St.back {I I2 : Reg} {w w' : World} {A T : Own} (hs : St I w (A ++ T)) (e : Ext (grow I A) w I2 w') (s : St I2 w' T) : ∃ I3, Ext I w I3 w' ∧ St I3 w' (A ++ T) := by
  have hA : ∀ p ∈ A, ¬ I p.1 := fun p hp => (hs.own p (List.mem_append_left _ hp)).2
  refine ⟨fun b => I2 b ∧ ¬ ∃ p ∈ A, p.1 = b, ⟨e.os, e.tape, e.output, e.size, fun b hb => ⟨e.sub b (.inl hb), fun ⟨p, hp, he⟩ => hA p hp (he ▸ hb)⟩, fun b hb => e.keep b (.inl hb)⟩, fun b hb => s.imm b hb.1, ?_, hs.nodup⟩
  intro p hp
  rcases List.mem_append.1 hp with h | h
  · exact ⟨(e.keep p.1 (.inr ⟨p, h, rfl⟩)).trans (hs.own p hp).1, fun hb => hb.2 ⟨p, h, rfl⟩⟩
  · exact ⟨(s.own p h).1, fun hb => (s.own p h).2 hb.1⟩

theorem rint_cast {v : Value} {a b : Int} (h : a = b) (r : RInt v a) : RInt v b := h ▸ r

section
variable {P : Program} {N : Nat} {ops : Array Oper} {R : Ending → World → Prop} {m : Bool} {K : Fr → World → Prop} {os : List Oper} {f : Fr} {w : World}
variable {dst : Option Tmp} {ty : TypeId} {pos : String} {af : Array Edge} {I : Reg} {T A : Own} {x y z : Operand} {t e u : TypeId} {sz nb : Nat} {kd : IntKind} {a b c : Int}

theorem o_min2 {as : Array TypeId} (hx : ev f x = .int kd a) (hy : ev f y = .int kd b) (h : WL P N ops R m K os (put N f dst (.int kd (min a b))) w) :
    WL P N ops R m K (⟨dst, .call ⟨.builtin .min, #[x, y], as⟩, ty, pos, af, none⟩ :: os) f w := by
  refine wl_val ?_ h
  have : (if b < a then b else a) = min a b := by split <;> omega
  simp [execOp, resolve, invoke, builtin, Builtin.min_, Builtin.min2, hx, hy, this]
theorem o_max2 {as : Array TypeId} (hx : ev f x = .int kd a) (hy : ev f y = .int kd b) (h : WL P N ops R m K os (put N f dst (.int kd (max a b))) w) :
    WL P N ops R m K (⟨dst, .call ⟨.builtin .max, #[x, y], as⟩, ty, pos, af, none⟩ :: os) f w := by
  refine wl_val ?_ h
  have : (if b > a then b else a) = max a b := by split <;> omega
  simp [execOp, resolve, invoke, builtin, Builtin.max_, Builtin.max2, hx, hy, this]

/-- A part of a slice that is only read. -/
theorem rep_part {α : Type} [Rep α] {v : Value} {xs : List α} (hr : rep I w v xs) : ∃ a cap, v = .slice a xs.length cap ∧ xs.length ≤ cap ∧ cap ≤ maxI ∧ ∀ lo hi m, lo ≤ hi → hi ≤ xs.length → hi ≤ m → m ≤ cap →
    rep I w (.slice (if m = lo then a else a.map (·.add (lo * Rep.size α))) (hi - lo) (m - lo)) ((xs.drop lo).take (hi - lo)) := by
  obtain ⟨a, cap, hv, h1, h2, he⟩ := hr.ex
  refine ⟨a, cap, hv, h1, h2, fun lo hi m h3 h4 h5 h6 => ?_⟩
  have hlen : ((xs.drop lo).take (hi - lo)).length = hi - lo := by simp; omega
  refine ⟨⟨_, m - lo, by rw [hlen], by omega, by omega, ?_⟩⟩
  by_cases hz : hi = lo
  · exact .inl (by rw [hz, Nat.sub_self]; simp)
  rcases he with he | ⟨b, off, rfl, hb, he⟩
  · subst he; simp at h4; omega
  rw [if_neg (by omega)]
  refine .inr ⟨b, off + lo * Rep.size α, by simp [addr_add], hb, fun j hj => ?_⟩
  rw [hlen] at hj
  obtain ⟨u, hu1, hu2⟩ := he (lo + j) (by omega)
  refine ⟨u, ?_, ?_⟩
  · rw [List.getElem_take, List.getElem_drop]; exact hu1
  · rw [Nat.add_assoc, ← Nat.add_mul]; exact hu2

/-- l[:hi] -/
theorem o_slice_hi {α : Type} [Rep α] {v : Value} {xs : List α} {j : Nat} (ht : slB P t e (Rep.size α) nb = true) (hr : rep I w v xs) (hx : ev f x = v) (hy : ev f y = .int kd a) (ha : a = (j : Int)) (hj : j ≤ xs.length)
    (h : ∀ v', rep I w v' (xs.take j) → WL P N ops R m K os (put N f dst v') w) : WL P N ops R m K (⟨dst, .slice t x none (some y) none, ty, pos, af, none⟩ :: os) f w := by
  obtain ⟨a', cap, hv, h1, h2, hp⟩ := rep_part hr
  have hs := slB_slc ht
  have := hp 0 j cap (Nat.zero_le _) hj (by omega) (Nat.le_refl _)
  simp only [List.drop_zero, Nat.sub_zero] at this
  refine wl_val ?_ (h _ this)
  subst ha
  have hc : (0 : Int) ≤ j ∧ (j : Int) ≤ cap := by omega
  simp [execOp, Instr.sliceAt, run_underlying hs.under, Instr.slice, Instr.sliceBounds, Instr.sliceBound, hx, hv, hy, asIntOf, hc, hs.size]
  exact fun h => absurd h (by omega)

/-- l[lo:] -/
theorem o_slice_lo {α : Type} [Rep α] {v : Value} {xs : List α} {j : Nat} (ht : slB P t e (Rep.size α) nb = true) (hr : rep I w v xs) (hx : ev f x = v) (hy : ev f y = .int kd a) (ha : a = (j : Int)) (hj : j ≤ xs.length)
    (h : ∀ v', rep I w v' (xs.drop j) → WL P N ops R m K os (put N f dst v') w) : WL P N ops R m K (⟨dst, .slice t x (some y) none none, ty, pos, af, none⟩ :: os) f w := by
  obtain ⟨a', cap, hv, h1, h2, hp⟩ := rep_part hr
  have hs := slB_slc ht
  have := hp j xs.length cap hj (Nat.le_refl _) h1 (Nat.le_refl _)
  rw [List.take_of_length_le (by simp)] at this
  refine wl_val ?_ (h _ this)
  subst ha
  have hc : (0 : Int) ≤ j ∧ (j : Int) ≤ xs.length := by omega
  simp [execOp, Instr.sliceAt, run_underlying hs.under, Instr.slice, Instr.sliceBounds, Instr.sliceBound, hx, hv, hy, asIntOf, hc, hs.size]
  exact fun h => absurd h (by omega)
end
end Go.X
