/-
  The X layer, part d: one rule for each operation that reads or makes memory: loads, addresses of elements and fields, structs, boxes, slices of the call's own.
-/
import Derived.Test.Ytinfniggaldheabc
namespace Go.X
open Go Go.RowKit

def isAggD : TypeDesc → Bool
  | .struct _ | .array _ _ => true
  | _ => false

/-- Type t takes sz cells, and is a struct or an array where agg says so. -/
def tyB (P : Program) (t : TypeId) (agg : Bool) (sz : Nat) : Bool := match P.underlying t, P.info? t with
  | some d, some i => isAggD d == agg && i.size == sz
  | _, _ => false

/-- Type t is a slice of e, whose elements take sz cells and nb bytes. -/
def slB (P : Program) (t e : TypeId) (sz nb : Nat) : Bool := match P.underlying t, P.info? e with
  | some (.slice e'), some i => e' == e && i.size == sz && i.bytes == nb && (match i.zero with | some z => z.cells.size == sz | none => false)
  | _, _ => false

section
variable {P : Program} {w : World} {t e : TypeId} {sz nb : Nat}

theorem tyB_run {agg : Bool} (h : tyB P t agg sz = true) : (isAgg t).run P w = .ok agg w ∧ (sizeOf t).run P w = .ok sz w := by
  unfold tyB at h
  cases hu : P.underlying t with
  | none => simp [hu] at h
  | some d =>
    cases hi : P.info? t with
    | none => simp [hu, hi] at h
    | some i =>
      simp only [hu, hi, Bool.and_eq_true, beq_iff_eq] at h
      obtain ⟨rfl, rfl⟩ := h
      refine ⟨?_, by simp [sizeOf, typeInfo, hi]⟩
      simp only [isAgg, Sem.run_bind, run_underlying hu, Result.andThen_ok]
      cases d <;> rfl

structure Slc (P : Program) (t e : TypeId) (sz nb : Nat) : Prop where
  under : P.underlying t = some (.slice e)
  info : ∃ i z, P.info? e = some i ∧ i.size = sz ∧ i.bytes = nb ∧ i.zero = some z ∧ z.cells.size = sz

theorem slB_slc (h : slB P t e sz nb = true) : Slc P t e sz nb := by
  unfold slB at h
  cases hu : P.underlying t with
  | none => simp [hu] at h
  | some d =>
    cases hi : P.info? e with
    | none => cases d <;> simp [hu, hi] at h
    | some i =>
      cases d <;> simp only [hu, hi, Bool.false_eq_true] at h
      rename_i e'
      simp only [Bool.and_eq_true, beq_iff_eq] at h
      obtain ⟨⟨⟨rfl, h1⟩, h2⟩, h3⟩ := h
      cases hz : i.zero with
      | none => simp [hz] at h3
      | some z => simp only [hz, beq_iff_eq] at h3; exact ⟨hu, i, z, hi, h1, h2, hz, h3⟩

theorem Slc.size (h : Slc P t e sz nb) : (sizeOf e).run P w = .ok sz w := by
  obtain ⟨i, z, hi, h1, _⟩ := h.info
  simp [sizeOf, typeInfo, hi, h1]

theorem addr_add (b o n : Nat) : (⟨b, o, none⟩ : Addr).add n = ⟨b, o + n, none⟩ := by
  unfold Addr.add; split
  · subst n; rfl
  · rfl

theorem run_loadCells_points {a : Addr} {v : Value} (hp : Points w a v) : (loadCells a v.cells.size).run P w = .ok v.cells w := by
  obtain ⟨b, o, s⟩ := a
  obtain ⟨hs, hp⟩ := hp
  simp only at hs; subst hs
  have := run_loadCells_list (P := P) (w := w) ⟨b, o, none⟩ v.cells.toList (fun j u hj => by
    rw [addr_add]
    rw [Array.getElem?_toList] at hj
    have hlt := (Array.getElem?_eq_some_iff.1 hj).1
    rw [hp j hlt, hj])
  simpa using this

theorem run_loadVar_points {α : Type} [Rep α] {I : Reg} {a : Addr} {v : Value} {x : α} (ht : tyB P t (Rep.agg α) (Rep.size α) = true) (hp : Points w a v) (hr : rep I w v x) :
    (loadVar t a).run P w = .ok v w := by
  have hc := Rep.cells hr
  have hf := Rep.form hr
  simp only [loadVar, Sem.run_bind, (tyB_run (w := w) ht).1, Result.andThen_ok]
  cases hag : Rep.agg α with
  | true =>
    simp only [hag, if_true] at hf
    obtain ⟨cs, rfl⟩ := hf
    simp only [if_true, Sem.run_bind, (tyB_run (w := w) ht).2, Result.andThen_ok]
    rw [← hc, run_loadCells_points hp]; rfl
  | false =>
    simp only [hag, Bool.false_eq_true, if_false] at hf
    have h2 := hf
    have h0 := hp.2 0 (by rw [h2]; simp)
    obtain ⟨b, o, s⟩ := a
    obtain ⟨hs, _⟩ := hp
    simp only at hs; subst hs
    rw [h2] at h0
    simp only [Nat.add_zero, List.getElem?_toArray, List.getElem?_cons_zero] at h0
    simp [h0]
end

section
variable {P : Program} {N : Nat} {ops : Array Oper} {R : Ending → World → Prop} {m : Bool} {K : Fr → World → Prop} {os : List Oper} {f : Fr} {w : World}
variable {dst : Option Tmp} {ty : TypeId} {pos : String} {af : Array Edge} {I : Reg} {T : Own} {x y : Operand} {t e u : TypeId} {sz nb : Nat}

theorem o_load {α : Type} [Rep α] {a : Addr} {v : Value} {d : α} (ht : tyB P t (Rep.agg α) (Rep.size α) = true) (hp : Points w a v) (hr : rep I w v d) (hx : ev f x = .pointer (some a))
    (h : WL P N ops R m K os (put N f dst v) w) : WL P N ops R m K (⟨dst, .load t x, ty, pos, af, none⟩ :: os) f w :=
  wl_val (by simp [execOp, Instr.loadAt, hx, Instr.sureAddr, run_loadVar_points ht hp hr]) h

theorem o_index {α : Type} [Rep α] {xs : List α} {sv : Value} {kd : IntKind} {i : Int} {j : Nat} (ht : slB P t e (Rep.size α) nb = true) (hr : rep I w sv xs) (hx : ev f x = sv) (hy : ev f y = .int kd i) (hi : i = (j : Int)) (hj : j < xs.length)
    (h : ∀ a v, Points w a v → I a.block → rep I w v xs[j] → WL P N ops R m K os (put N f dst (.pointer (some a))) w) : WL P N ops R m K (⟨dst, .indexAddr t x y, ty, pos, af, none⟩ :: os) f w := by
  have hs := slB_slc ht
  obtain ⟨a, cap, hv, hc, hm, he⟩ := hr.ex
  rcases he with he | ⟨b, off, rfl, hb, he⟩
  · subst he; simp at hj
  obtain ⟨v, hv1, hv2⟩ := he j hj
  refine wl_val (v := .pointer (some ⟨b, off + j * Rep.size α, none⟩)) (w' := w) ?_ (h _ v hv2 hb hv1)
  subst hi
  have h1 : (0 : Int) ≤ j ∧ (j : Int) < xs.length := by omega
  simp [execOp, Instr.indexAt, hx, hv, hy, asIntOf, run_underlying hs.under, h1, hs.size, addr_add]
  exact fun h => absurd h (by omega)

/-- The place of element j of a slice. -/
def Ix (P : Program) (t : TypeId) (sv : Value) (j : Nat) (a : Addr) : Prop := ∀ (kd : IntKind) (w : World), (Instr.indexAt t sv (.int kd (j : Int))).run P w = .ok (.pointer (some a)) w

theorem at_index {α : Type} [Rep α] {xs : List α} {sv : Value} {j : Nat} (ht : slB P t e (Rep.size α) nb = true) (hr : rep I w sv xs) (hj : j < xs.length) : ∃ a v, Points w a v ∧ I a.block ∧ rep I w v xs[j] ∧ Ix P t sv j a := by
  have hs := slB_slc ht
  obtain ⟨a, cap, hv, hc, hm, he⟩ := hr.ex
  rcases he with he | ⟨b, off, rfl, hb, he⟩
  · subst he; simp at hj
  obtain ⟨v, hv1, hv2⟩ := he j hj
  refine ⟨_, v, hv2, hb, hv1, fun kd w' => ?_⟩
  have h1 : (0 : Int) ≤ j ∧ (j : Int) < xs.length := by omega
  simp [Instr.indexAt, hv, asIntOf, run_underlying hs.under, h1, hs.size, addr_add]
  exact fun h => absurd h (by omega)

theorem o_ix {sv : Value} {kd : IntKind} {i : Int} {j : Nat} {a : Addr} (h0 : Ix P t sv j a) (hx : ev f x = sv) (hy : ev f y = .int kd i) (hi : i = (j : Int)) (h : WL P N ops R m K os (put N f dst (.pointer (some a))) w) :
    WL P N ops R m K (⟨dst, .indexAddr t x y, ty, pos, af, none⟩ :: os) f w :=
  wl_val (by subst hi; simp [execOp, hx, hy, h0 kd w]) h

/-- Field i of the struct type t lies off cells from its start, and takes at least one. -/
def flB (P : Program) (t : TypeId) (i off : Nat) : Bool := match P.underlying t with
  | some (.struct fs) => match fs[i]? with
    | some fd => fd.offset == off && (match P.info? fd.type with | some j => j.size != 0 | none => false)
    | none => false
  | _ => false

theorem flB_run {i off : Nat} (h : flB P t i off = true) {a : Addr} : (Instr.fieldAt t (.pointer (some a)) i).run P w = .ok (.pointer (some (a.add off))) w := by
  unfold flB at h
  cases hu : P.underlying t with
  | none => simp [hu] at h
  | some d =>
    cases d <;> simp only [hu, Bool.false_eq_true] at h
    rename_i fs
    cases hf : fs[i]? with
    | none => simp [hf] at h
    | some fd =>
      simp only [hf] at h
      cases hi : P.info? fd.type with
      | none => simp [hi] at h
      | some j =>
        simp only [hi, Bool.and_eq_true, beq_iff_eq, bne_iff_ne, ne_eq] at h
        obtain ⟨rfl, h0⟩ := h
        simp [Instr.fieldAt, run_underlying hu, hf, Instr.sureAddr, fieldPlace, sizeOf, typeInfo, hi, h0]

/-- The datum's part g lies off cells from its start. -/
def FldD {α β : Type} [Rep α] [Rep β] (g : α → β) (off : Nat) : Prop :=
  ∀ {I : Reg} {w : World} {v : Value} {x : α}, rep I w v x → ∃ u, rep I w u (g x) ∧ off + u.cells.size ≤ v.cells.size ∧ ∀ j, j < u.cells.size → v.cells[off + j]? = u.cells[j]?

theorem Points.field {α β : Type} [Rep α] [Rep β] {g : α → β} {off : Nat} (hd : FldD g off) {a : Addr} {v : Value} {d : α} (hp : Points w a v) (hr : rep I w v d) : ∃ u, rep I w u (g d) ∧ Points w (a.add off) u ∧ (a.add off).block = a.block := by
  obtain ⟨u, hu, hle, hc⟩ := hd hr
  obtain ⟨b, o, s⟩ := a
  obtain ⟨hs, hp⟩ := hp
  simp only at hs; subst hs
  refine ⟨u, hu, ?_, by simp [addr_add]⟩
  rw [addr_add]
  refine ⟨rfl, fun j hj => ?_⟩
  have := hp (off + j) (by omega)
  rw [hc j hj] at this
  simpa [Nat.add_assoc] using this

theorem o_field {α β : Type} [Rep α] [Rep β] {g : α → β} {i off : Nat} {a : Addr} {v : Value} {d : α} (hf : flB P t i off = true) (hd : FldD g off) (hp : Points w a v) (hr : rep I w v d) (hx : ev f x = .pointer (some a))
    (h : ∀ a' u, a'.block = a.block → Points w a' u → rep I w u (g d) → WL P N ops R m K os (put N f dst (.pointer (some a'))) w) : WL P N ops R m K (⟨dst, .fieldAddr t x i, ty, pos, af, none⟩ :: os) f w := by
  obtain ⟨u, hu, hp', hb⟩ := hp.field hd hr
  exact wl_val (by simp [execOp, hx, flB_run hf]) (h _ u hb hp' hu)

theorem o_fl {i off : Nat} {a : Addr} (hf : flB P t i off = true) (hx : ev f x = .pointer (some a)) (h : WL P N ops R m K os (put N f dst (.pointer (some (a.add off)))) w) :
    WL P N ops R m K (⟨dst, .fieldAddr t x i, ty, pos, af, none⟩ :: os) f w := wl_val (by simp [execOp, hx, flB_run hf]) h

/-- A region that draws its order, begun. -/
theorem wt_drawS {fn : FuncId} {k : List Item} {id n : Nat} (hs : St I w T) (hm : P.follows .mixedOrders = true) (hn : ops.size = n)
    (h : ∀ w1, Ext I w I w1 → St I w1 T → WG P fn N ops k R (fun w' => ∃ I', Ext I w I' w') n (Array.replicate n false) f w1) : WT P fn N (.code (.region id ops true) :: k) R f w :=
  wt_draw _ hm hn rfl (h _ (hs.drew _).1 (hs.drew _).2)
end
end Go.X
