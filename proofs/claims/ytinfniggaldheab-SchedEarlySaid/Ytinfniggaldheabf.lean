/-
  The X layer, part f: the operations' rules for blocks of the call's own, slices that are made, and parts of slices.
-/
import Derived.Test.Ytinfniggaldheabe
namespace Go.X
open Go Go.RowKit

section
variable {P : Program} {N : Nat} {ops : Array Oper} {R : Ending → World → Prop} {m : Bool} {K : Fr → World → Prop} {os : List Oper} {f : Fr} {w : World}
variable {dst : Option Tmp} {ty : TypeId} {pos : String} {af : Array Edge} {I : Reg} {T A : Own} {x y : Operand} {t e u : TypeId} {sz nb : Nat}

theorem o_append {α : Type} [Rep α] {v yv : Value} {xs ys : List α} (ht : slB P t e (Rep.size α) nb = true) (hs : St I w (A ++ T)) (ho : OwnSl I w A v xs) (hy : rep I w yv ys) (hx : ev f x = v) (hyv : ev f y = yv)
    (hb : (xs.length + ys.length) * nb ≤ 140737488355328) (hl : xs.length + ys.length ≤ 9223372036854775807)
    (h : ∀ v' A' w', Ext I w I w' → St I w' (A' ++ T) → OwnSl I w' A' v' (xs ++ ys) → WL P N ops R m K os (put N f dst v') w') :
    WL P N ops R m K (⟨dst, .call ⟨.builtin .append, #[x, y], #[t, t]⟩, ty, pos, af, none⟩ :: os) f w := by
  obtain ⟨v', A', w', hr, he, hs', ho'⟩ := append_own (ty := ty) hs ho hy (slB_slc ht) hb hl
  refine wl_val ?_ (h v' A' w' he hs' ho')
  simp [execOp, resolve, invoke, builtin, hx, hyv, hr]

theorem o_lenO {α : Type} [Rep α] {v : Value} {xs : List α} {as : Array TypeId} (ho : OwnSl I w A v xs) (hx : ev f x = v) (ht : slB P t u sz nb = true) (hat : as[0]? = some t)
    (h : WL P N ops R m K os (put N f dst (.int .i64 xs.length)) w) : WL P N ops R m K (⟨dst, .call ⟨.builtin .len, #[x], as⟩, ty, pos, af, none⟩ :: os) f w := by
  obtain ⟨a, cap, hv, _⟩ := ho.len
  exact wl_val (by simp [execOp, resolve, invoke, builtin, Builtin.len_, hat, hx, hv, run_underlying (slB_slc ht).under, goInt]) h

theorem o_len' {α : Type} [Rep α] {v : Value} {xs : List α} {as : Array TypeId} (hr : rep I w v xs) (hx : ev f x = v) (ht : slB P t u sz nb = true) (hat : as[0]? = some t)
    (h : WL P N ops R m K os (put N f dst (.int .i64 xs.length)) w) : WL P N ops R m K (⟨dst, .call ⟨.builtin .len, #[x], as⟩, ty, pos, af, none⟩ :: os) f w :=
  o_len hr hx ⟨u, (slB_slc ht).under⟩ hat h

/-- A value is laid into a block that stays as it is. -/
theorem o_boxI {α : Type} [Rep α] {v : Value} {d : α} (hs : St I w T) (hr : rep I w v d) (hx : ev f x = v)
    (h : ∀ a I' w', Ext I w I' w' → St I' w' T → I' a.block → Points w' a v → rep I' w' v d → WL P N ops R m K os (put N f dst (.pointer (some a))) w') : WL P N ops R m K (⟨dst, .box e x, ty, pos, af, none⟩ :: os) f w := by
  obtain ⟨e1, s1⟩ := hs.alloc (.cells v.cells e)
  obtain ⟨e2, s2⟩ := s1.freeze
  refine wl_val (v := .pointer (some ⟨w.heap.size, 0, none⟩)) ?_ (h ⟨w.heap.size, 0, none⟩ _ _ (e1.trans e2) s2 (.inr ⟨_, List.mem_singleton.2 rfl, rfl⟩) ⟨rfl, fun j hj => ?_⟩ ((e1.trans e2).rep hr))
  · simp [execOp, Instr.box, newVar, newRow, hx]
  · rw [cell_of_block (heap_alloc_new w _)]; simp

/-- A value is laid into a block of the call's own. -/
theorem o_boxO {v : Value} {cs : Array Value} (hs : St I w T) (hx : ev f x = v) (hc : v.cells = cs)
    (h : ∀ b w', Ext I w I w' → St I w' ([(b, .cells cs e (0, 0))] ++ T) → WL P N ops R m K os (put N f dst (.pointer (some ⟨b, 0, none⟩))) w') : WL P N ops R m K (⟨dst, .box e x, ty, pos, af, none⟩ :: os) f w := by
  subst hc
  obtain ⟨e1, s1⟩ := hs.alloc (.cells v.cells e)
  refine wl_val (v := .pointer (some ⟨w.heap.size, 0, none⟩)) ?_ (h _ _ e1 s1)
  simp [execOp, Instr.box, newVar, newRow, hx]

/-- The zero value of a type. -/
def zrB (P : Program) (t : TypeId) (z : Value) : Prop := (P.info? t).bind (·.zero) = some z

theorem o_allocO {z : Value} {cs : Array Value} (hs : St I w T) (hz : zrB P e z) (hc : z.cells = cs)
    (h : ∀ b w', Ext I w I w' → St I w' ([(b, .cells cs e (0, 0))] ++ T) → WL P N ops R m K os (put N f dst (.pointer (some ⟨b, 0, none⟩))) w') : WL P N ops R m K (⟨dst, .alloc e, ty, pos, af, none⟩ :: os) f w := by
  subst hc
  obtain ⟨e1, s1⟩ := hs.alloc (.cells z.cells e)
  refine wl_val (v := .pointer (some ⟨w.heap.size, 0, none⟩)) ?_ (h _ _ e1 s1)
  unfold zrB at hz
  cases hi : P.info? e with
  | none => simp [hi] at hz
  | some i =>
    simp only [hi, Option.bind_some] at hz
    simp [execOp, Instr.alloc, newVar, newRow, zeroValue, typeInfo, hi, hz]

theorem St.heap {b : Nat} {o : Obj} (hs : St I w ([(b, o)] ++ T)) : w.heap[b]? = some o := (hs.own (b, o) (by simp)).1

/-- One cell of an own block is read. -/
theorem o_loadO {b o : Nat} {cs : Array Value} {fr : Nat × Nat} {v : Value} (ht : tyB P t false 1 = true) (hs : St I w ([(b, .cells cs e fr)] ++ T)) (hx : ev f x = .pointer (some ⟨b, o, none⟩)) (hv : cs[o]? = some v)
    (h : WL P N ops R m K os (put N f dst v) w) : WL P N ops R m K (⟨dst, .load t x, ty, pos, af, none⟩ :: os) f w := by
  refine wl_val ?_ h
  have hc : w.cell? ⟨b, o, none⟩ = some v := by rw [cell_of_block hs.heap, hv]
  simp [execOp, Instr.loadAt, hx, Instr.sureAddr, loadVar, (tyB_run (w := w) ht).1, hc]

/-- A struct is read out of an own block. -/
theorem o_loadA {b o n : Nat} {cs : Array Value} {fr : Nat × Nat} {vs : List Value} (ht : tyB P t true n = true) (hs : St I w ([(b, .cells cs e fr)] ++ T)) (hx : ev f x = .pointer (some ⟨b, o, none⟩)) (hv : (cs.toList.drop o).take n = vs) (hn : vs.length = n)
    (h : WL P N ops R m K os (put N f dst (.agg ⟨vs⟩)) w) : WL P N ops R m K (⟨dst, .load t x, ty, pos, af, none⟩ :: os) f w := by
  refine wl_val ?_ h
  have := run_loadCells_list (P := P) (w := w) ⟨b, o, none⟩ vs (fun j u hj => by
    rw [addr_add, cell_of_block hs.heap]
    subst hv
    rw [List.getElem?_take] at hj
    split at hj
    · rw [List.getElem?_drop, Array.getElem?_toList] at hj; exact hj
    · cases hj)
  rw [hn] at this
  simp [execOp, Instr.loadAt, hx, Instr.sureAddr, loadVar, (tyB_run (w := w) ht).1, (tyB_run (w := w) ht).2, this]

/-- One cell of an own block is written. -/
theorem o_storeO {b o : Nat} {cs : Array Value} {v : Value} (ht : tyB P t false 1 = true) (hs : St I w ([(b, .cells cs e (0, 0))] ++ T)) (hx : ev f x = .pointer (some ⟨b, o, none⟩)) (hy : ev f y = v) (hv : v.oneCell' = true) (ho : o < cs.size)
    (h : ∀ w', Ext I w I w' → St I w' ([(b, .cells (cs.setIfInBounds o v) e (0, 0))] ++ T) → WL P N ops R false K os (put N f dst undef) w') : WL P N ops R false K (⟨dst, .store t x y, ty, pos, af, none⟩ :: os) f w := by
  have hc1 : v.cells = #[v] := by cases v <;> first | rfl | simp [Value.oneCell'] at hv
  have hst := run_storeCells_at P b o e [v] 0 cs w hs.heap (by simp; omega) (by simpa using hv)
  have heq : (cs.toList.take (o + 0) ++ [v] ++ cs.toList.drop (o + 0 + [v].length)).toArray = cs.setIfInBounds o v := by
    apply Array.ext'
    simp only [Nat.add_zero, List.length_singleton, Array.toList_setIfInBounds, List.append_assoc, List.singleton_append]
    exact (List.set_eq_take_append_cons_drop.trans (by rw [if_pos (by simpa using ho)])).symm
  rw [heq] at hst
  obtain ⟨e1, s1⟩ := hs.write (w' := w.setRow b (cs.setIfInBounds o v)) rfl rfl rfl (by simp [World.setRow]) (setRow_heap w b cs _ e _ hs.heap) (fun c hc => setRow_other w b c _ hc)
  refine wl_unit ?_ (h _ e1 s1)
  simp [execOp, Instr.storeAt, hx, hy, Instr.sureAddr, storeVar, hc1, (tyB_run (w := w) ht).2, hst]

/-- A struct is written over an own block, whole. -/
theorem o_storeA {b n : Nat} {cs vs : Array Value} (ht : tyB P t true n = true) (hs : St I w ([(b, .cells cs e (0, 0))] ++ T)) (hx : ev f x = .pointer (some ⟨b, 0, none⟩)) (hy : ev f y = .agg vs) (hn : vs.size = n) (hcs : cs.size = n) (hv : ∀ v ∈ vs.toList, v.oneCell' = true)
    (h : ∀ w', Ext I w I w' → St I w' ([(b, .cells vs e (0, 0))] ++ T) → WL P N ops R false K os (put N f dst undef) w') : WL P N ops R false K (⟨dst, .store t x y, ty, pos, af, none⟩ :: os) f w := by
  have hst := run_storeCells_at P b 0 e vs.toList 0 cs w hs.heap (by simp [hn, hcs]) hv
  have heq : (cs.toList.take (0 + 0) ++ vs.toList ++ cs.toList.drop (0 + 0 + vs.toList.length)).toArray = vs := by
    apply Array.ext'
    simp only [Nat.add_zero, List.take_zero, List.nil_append, Nat.zero_add, Array.length_toList]
    rw [List.drop_eq_nil_of_le (by rw [show cs.toList.length = cs.size from rfl]; omega)]; simp
  rw [heq] at hst
  obtain ⟨e1, s1⟩ := hs.write (w' := w.setRow b vs) rfl rfl rfl (by simp [World.setRow]) (setRow_heap w b cs _ e _ hs.heap) (fun c hc => setRow_other w b c _ hc)
  refine wl_unit ?_ (h _ e1 s1)
  simp [execOp, Instr.storeAt, hx, hy, Instr.sureAddr, storeVar, Value.cells, hn, (tyB_run (w := w) ht).2, hst]

/-- A field's place in an own block. -/
theorem o_fieldO {b o i off : Nat} (hf : flB P t i off = true) (hx : ev f x = .pointer (some ⟨b, o, none⟩)) (h : WL P N ops R m K os (put N f dst (.pointer (some ⟨b, o + off, none⟩))) w) :
    WL P N ops R m K (⟨dst, .fieldAddr t x i, ty, pos, af, none⟩ :: os) f w :=
  wl_val (by simp [execOp, hx, flB_run hf, addr_add]) h

/-- A struct by value, one cell of it. -/
theorem o_fieldV {i off : Nat} {cs : Array Value} {v : Value} (hf : ∃ fs fd, P.underlying t = some (.struct fs) ∧ fs[i]? = some fd ∧ fd.offset = off ∧ tyB P fd.type false 1 = true) (hx : ev f x = .agg cs) (hv : cs[off]? = some v)
    (h : WL P N ops R m K os (put N f dst v) w) : WL P N ops R m K (⟨dst, .field t x i, ty, pos, af, none⟩ :: os) f w := by
  obtain ⟨fs, fd, h1, h2, h3, h4⟩ := hf
  refine wl_val ?_ h
  subst h3
  simp [execOp, Instr.field, run_underlying h1, h2, hx, asAgg, part, (tyB_run (w := w) h4).1, hv]

/-! slices by their elements -/

def enum : Nat → List Value → List (Nat × Value)
  | _, [] => []
  | n, v :: vs => (n, v) :: enum (n + 1) vs

theorem fill_enum {s : Nat} (hs : 0 < s) : ∀ (vs : List Value) (n : Nat) (pre post : List Value), pre.length = n * s → post.length = vs.length * s → (∀ v ∈ vs, v.cells.size = s) →
    Instr.fill (fun i => some (i * s, s)) (pre ++ post).toArray (enum n vs) = some (pre ++ vs.flatMap (·.cells.toList)).toArray
  | [], n, pre, post, _, hpost, _ => by
    have : post = [] := List.eq_nil_of_length_eq_zero (by simpa using hpost)
    subst this; simp [enum, Instr.fill]
  | v :: vs, n, pre, post, hpre, hpost, hv => by
    have hvs : v.cells.size = s := hv v (by simp)
    have hpl : post.length = s + vs.length * s := by rw [hpost, List.length_cons, Nat.add_mul, Nat.one_mul, Nat.add_comm]
    simp only [enum, Instr.fill, hvs]
    have h1 : (decide (s ≠ s) || decide (n * s + s > (pre ++ post).toArray.size)) = false := by simp [hpre, hpl]
    rw [h1]
    simp only [Bool.false_eq_true, if_false]
    have hset : ∀ (cs : List Value) (j : Nat) (a b c : List Value), b.length = j → c.length = cs.length →
        (cs.zipIdx j).foldl (fun acc (p : Value × Nat) => acc.setIfInBounds (n * s + p.2) p.1) ((pre ++ (b ++ (c ++ a))).toArray) = (pre ++ (b ++ (cs ++ a))).toArray := by
      intro cs
      induction cs with
      | nil => intro j a b c hb hc; have : c = [] := List.eq_nil_of_length_eq_zero (by simpa using hc); subst this; simp
      | cons x cs ih =>
        intro j a b c hb hc
        cases c with
        | nil => simp at hc
        | cons y c =>
          simp only [List.zipIdx_cons, List.foldl_cons]
          have hx : (pre ++ (b ++ (y :: c ++ a))).toArray.setIfInBounds (n * s + j) x = (pre ++ ((b ++ [x]) ++ (c ++ a))).toArray := by
            apply Array.ext'
            simp only [Array.toList_setIfInBounds]
            rw [List.set_append_right _ _ (by omega), hpre, Nat.add_sub_cancel_left, List.set_append_right _ _ (by omega), hb, Nat.sub_self]
            simp
          rw [hx, ih (j + 1) a (b ++ [x]) c (by simp [hb]) (by simpa using hc)]
          simp
    have hfold := hset v.cells.toList 0 (post.drop s) [] (post.take s) rfl (by rw [List.length_take, show v.cells.toList.length = v.cells.size from rfl]; omega)
    simp only [List.nil_append, List.take_append_drop] at hfold
    have hz : (Array.foldl (fun cs (p : Value × Nat) => cs.setIfInBounds (n * s + p.2) p.1) (pre ++ post).toArray v.cells.zipIdx) = (pre ++ (v.cells.toList ++ post.drop s)).toArray := by
      rw [← hfold, ← Array.foldl_toList]; simp
    have := fill_enum hs vs (n + 1) (pre ++ v.cells.toList) (post.drop s) (by rw [List.length_append, hpre, show v.cells.toList.length = v.cells.size from rfl, hvs, Nat.add_mul, Nat.one_mul]) (by rw [List.length_drop]; omega) (fun u hu => hv u (by simp [hu]))
    simp only [List.append_assoc] at this
    rw [show (Array.foldl (fun cs (x : Value × Nat) => match x with | (c, j) => cs.setIfInBounds (n * s + j) c) (pre ++ post).toArray v.cells.zipIdx) = (pre ++ (v.cells.toList ++ post.drop s)).toArray from hz, this]
    simp

/-- The elements' cells, one behind the other. -/
theorem elemsA_flat {α : Type} [Rep α] : ∀ (xs : List α) (vs : List Value), vs.length = xs.length → (∀ j (h : j < xs.length) (h' : j < vs.length), rep I w vs[j] xs[j]) → ElemsA I w ((vs.flatMap (·.cells.toList))[·]?) xs
  | [], _, _, _ => fun j hj => by simp at hj
  | x :: xs, [], h, _ => by simp at h
  | x :: xs, v :: vs, h, hr => by
    have h0 : rep I w v x := hr 0 (by simp) (by simp)
    have ht := elemsA_flat xs vs (by simpa using h) (fun j h1 h2 => hr (j + 1) (by simp; omega) (by simp; omega))
    have := ElemsA.append (xs := [x]) (g1 := fun i => v.cells.toList[i]?) (g2 := fun i => (vs.flatMap (·.cells.toList))[i]?) (g := fun i => ((v :: vs).flatMap (·.cells.toList))[i]?) (I := I) (w := w)
      (fun j hj => by
        obtain rfl : j = 0 := by simpa using hj
        exact ⟨v, by simpa using h0, fun i hi => by simp⟩) ht
      (fun i hi => by
        simp only [List.length_singleton, Nat.one_mul] at hi
        rw [List.flatMap_cons, List.getElem?_append_left (by rw [show v.cells.toList.length = v.cells.size from rfl, Rep.cells h0]; exact hi)])
      (fun i hi => by
        rw [List.flatMap_cons, List.getElem?_append_right (by rw [show v.cells.toList.length = v.cells.size from rfl, Rep.cells h0]; simp)]
        congr 1; rw [show v.cells.toList.length = v.cells.size from rfl, Rep.cells h0]; simp)
    simpa using this

theorem run_buildSlice {α : Type} [Rep α] {ps : Array (Nat × Value)} {vs : List Value} {xs : List α} (ht : Slc P t e (Rep.size α) nb) (hp : ps.toList = enum 0 vs) (hl : vs.length = xs.length)
    (hr : ∀ j (h : j < xs.length) (h' : j < vs.length), rep I w vs[j] xs[j]) (hn : xs.length * Rep.size α ≤ 16777216) :
    (Instr.buildSlice t xs.length ps).run P w = .ok (.slice (some ⟨w.heap.size, 0, none⟩) xs.length xs.length) (w.alloc (.cells (vs.flatMap (·.cells.toList)).toArray e)) := by
  obtain ⟨i, z, hi, hsz, hnb, hz, hzs⟩ := ht.info
  have hpos : 0 < Rep.size α := Rep.pos
  have hvs : ∀ v ∈ vs, v.cells.size = Rep.size α := fun v hv => by
    obtain ⟨j, hj, rfl⟩ := List.getElem_of_mem hv
    exact Rep.cells (hr j (by omega) hj)
  have hf := fill_enum hpos vs 0 [] ((List.range (xs.length * Rep.size α)).map fun n => z.cells[n % z.cells.size]!) (by simp) (by simp [hl]) hvs
  simp only [List.nil_append] at hf
  have h24 : ¬ (16777216 < xs.length * Rep.size α) := by omega
  simp only [Instr.buildSlice, Sem.run_bind, run_underlying ht.under, Result.andThen_ok, ht.size]
  simp only [Nat.reducePow, gt_iff_lt, h24, if_false]
  by_cases h0 : xs.length * Rep.size α = 0
  · have hx0 : xs.length = 0 := by rcases Nat.mul_eq_zero.1 h0 with h | h <;> omega
    have hvs0 : vs = [] := List.eq_nil_of_length_eq_zero (by omega)
    subst hvs0
    simp [hp, enum, Instr.fill, newRow, hx0, show Array.range 0 = #[] from rfl]
  · have harr : (Array.range (xs.length * Rep.size α)).map (fun n => z.cells[n % z.cells.size]!) = ((List.range (xs.length * Rep.size α)).map fun n => z.cells[n % z.cells.size]!).toArray := by
      apply Array.ext'; simp
    simp only [h0, if_false, Sem.run_bind, zeroValue, typeInfo, run_program, Result.andThen_ok, hi, Sem.run_pure, hz, hp, harr, hf, newRow, run_newObj]
    rfl

/-- The values stand for the data, one by one. -/
def Reps {α : Type} [Rep α] (I : Reg) (w : World) : List Value → List α → Prop
  | [], [] => True
  | v :: vs, x :: xs => rep I w v x ∧ Reps I w vs xs
  | _, _ => False

theorem Reps.get {α : Type} [Rep α] {I : Reg} {w : World} : ∀ {vs : List Value} {xs : List α}, Reps I w vs xs → vs.length = xs.length ∧ ∀ j (h : j < xs.length) (h' : j < vs.length), rep I w vs[j] xs[j]
  | [], [], _ => ⟨rfl, fun j h => by simp at h⟩
  | [], _ :: _, h => h.elim
  | _ :: _, [], h => h.elim
  | v :: vs, x :: xs, h => by
    obtain ⟨h1, h2⟩ := Reps.get h.2
    refine ⟨by simp [h1], fun j hj hj' => ?_⟩
    cases j with
    | zero => exact h.1
    | succ j => exact h2 j (by simpa using hj) (by simpa using hj')

/-- A slice is built of its elements; it stays as it is. -/
theorem o_buildI {α : Type} [Rep α] {n : Nat} {ps : Array (Nat × Operand)} {vs : List Value} {xs : List α} (ht : slB P t e (Rep.size α) nb = true) (hs : St I w T) (hp : (ps.toList.map fun p => (p.1, ev f p.2)) = enum 0 vs)
    (hr0 : Reps I w vs xs) (hn0 : Nat.ble (xs.length * Rep.size α) 16777216 = true) (hx : xs.length = n)
    (h : ∀ v I' w', Ext I w I' w' → St I' w' T → rep I' w' v xs → WL P N ops R m K os (put N f dst v) w') : WL P N ops R m K (⟨dst, .buildSlice t n ps, ty, pos, af, none⟩ :: os) f w := by
  subst hx
  obtain ⟨hl, hr⟩ := hr0.get
  have hn := Nat.le_of_ble_eq_true hn0
  have hrun := run_buildSlice (ps := ps.map fun p => (p.1, ev f p.2)) (slB_slc ht) (by simpa using hp) hl hr hn
  obtain ⟨e1, s1⟩ := hs.alloc (.cells (vs.flatMap (·.cells.toList)).toArray e)
  obtain ⟨e2, s2⟩ := s1.freeze
  have h12 := e1.trans e2
  refine wl_val (by simp only [execOp, Sem.run_bind]; rw [show (ps.map fun (x : Nat × Operand) => match x with | (i, x) => (i, ev f x)) = ps.map (fun p => (p.1, ev f p.2)) from rfl, hrun]; rfl) (h _ _ _ h12 s2 ?_)
  refine ⟨⟨_, _, rfl, Nat.le_refl _, ?_, .inr ⟨w.heap.size, 0, rfl, .inr ⟨_, List.mem_singleton.2 rfl, rfl⟩, fun j hj => ?_⟩⟩⟩
  · have : xs.length ≤ xs.length * Rep.size α := Nat.le_mul_of_pos_right _ Rep.pos
    unfold maxI; omega
  · obtain ⟨v, h1, h2⟩ := (elemsA_flat xs vs hl hr).mono h12 j hj
    exact ⟨v, h1, rfl, fun i hi => by
      rw [cell_of_block (heap_alloc_new w _)]
      simpa using h2 i hi⟩

/-- A slice is built of its elements; the call goes on building it. -/
theorem o_buildO {α : Type} [Rep α] {n : Nat} {ps : Array (Nat × Operand)} {vs : List Value} {xs : List α} (ht : slB P t e (Rep.size α) nb = true) (hs : St I w T) (hp : (ps.toList.map fun p => (p.1, ev f p.2)) = enum 0 vs)
    (hr0 : Reps I w vs xs) (hn0 : Nat.ble (xs.length * Rep.size α) 16777216 = true) (hx : xs.length = n)
    (h : ∀ v A w', Ext I w I w' → St I w' (A ++ T) → OwnSl I w' A v xs → WL P N ops R m K os (put N f dst v) w') : WL P N ops R m K (⟨dst, .buildSlice t n ps, ty, pos, af, none⟩ :: os) f w := by
  subst hx
  obtain ⟨hl, hr⟩ := hr0.get
  have hn := Nat.le_of_ble_eq_true hn0
  have hrun := run_buildSlice (ps := ps.map fun p => (p.1, ev f p.2)) (slB_slc ht) (by simpa using hp) hl hr hn
  obtain ⟨e1, s1⟩ := hs.alloc (.cells (vs.flatMap (·.cells.toList)).toArray e)
  refine wl_val (by simp only [execOp, Sem.run_bind]; rw [show (ps.map fun (x : Nat × Operand) => match x with | (i, x) => (i, ev f x)) = ps.map (fun p => (p.1, ev f p.2)) from rfl, hrun]; rfl) (h _ _ _ e1 s1 ?_)
  have hle : xs.length ≤ xs.length * Rep.size α := Nat.le_mul_of_pos_right _ Rep.pos
  refine ⟨.inr ⟨_, _, _, _, rfl, rfl, Nat.le_refl _, by unfold maxLen; omega, ?_, ?_⟩⟩
  · have : ∀ (l : List Value), (∀ v ∈ l, v.cells.size = Rep.size α) → (l.flatMap (·.cells.toList)).length = l.length * Rep.size α := by
      intro l
      induction l with
      | nil => intro _; simp
      | cons v l ih => intro hv; rw [List.flatMap_cons, List.length_append, ih (fun u hu => hv u (by simp [hu])), show v.cells.toList.length = v.cells.size from rfl, hv v (by simp), List.length_cons, Nat.add_mul]; omega
    simp only [List.size_toArray]
    rw [this vs (fun v hv => by obtain ⟨j, hj, rfl⟩ := List.getElem_of_mem hv; exact Rep.cells (hr j (by omega) hj)), hl]
    exact Nat.le_refl _
  · refine fun j hj => ?_
    obtain ⟨v, h1, h2⟩ := (elemsA_flat xs vs hl hr).mono e1 j hj
    exact ⟨v, h1, fun i hi => by simpa using h2 i hi⟩
end
end Go.X
