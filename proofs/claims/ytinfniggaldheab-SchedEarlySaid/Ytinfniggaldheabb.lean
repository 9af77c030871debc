/-
  The X layer, part b: memory. 'I' is the set of blocks that stay as they are; 'T' lists the blocks that the call owns, with what they hold. 'St' ties both to the world; 'Ext' says how a step may change it.
-/
import Derived.Test.Ytinfniggaldheaba
namespace Go.X
open Go Go.RowKit

abbrev Reg := Nat → Prop
abbrev Own := List (Nat × Obj)

/-- The blocks of I are as they were, and I may have grown. -/
structure Ext (I : Reg) (w : World) (I' : Reg) (w' : World) : Prop where
  os : w'.os = w.os
  tape : w'.tape = w.tape
  output : w'.output = w.output
  size : w.heap.size ≤ w'.heap.size
  sub : ∀ b, I b → I' b
  keep : ∀ b, I b → w'.heap[b]? = w.heap[b]?

theorem Ext.refl (I : Reg) (w : World) : Ext I w I w := ⟨rfl, rfl, rfl, Nat.le_refl _, fun _ h => h, fun _ _ => rfl⟩
theorem Ext.trans {I I' I'' : Reg} {w w' w'' : World} (h : Ext I w I' w') (k : Ext I' w' I'' w'') : Ext I w I'' w'' :=
  ⟨k.os.trans h.os, k.tape.trans h.tape, k.output.trans h.output, Nat.le_trans h.size k.size, fun b hb => k.sub b (h.sub b hb), fun b hb => (k.keep b (h.sub b hb)).trans (h.keep b hb)⟩
theorem Ext.weaken {I J I' : Reg} {w w' : World} (h : Ext I w I' w') (hJ : ∀ b, J b → I b) : Ext J w I' w' :=
  ⟨h.os, h.tape, h.output, h.size, fun b hb => h.sub b (hJ b hb), fun b hb => h.keep b (hJ b hb)⟩

structure St (I : Reg) (w : World) (T : Own) : Prop where
  imm : ∀ b, I b → b < w.heap.size
  own : ∀ p ∈ T, w.heap[p.1]? = some p.2 ∧ ¬ I p.1
  nodup : (T.map (·.1)).Nodup

theorem St.perm {I : Reg} {w : World} {T T' : Own} (h : St I w T) (hp : T.Perm T') : St I w T' :=
  ⟨h.imm, fun p hm => h.own p (hp.symm.mem_iff.1 hm), (hp.map _).nodup_iff.1 h.nodup⟩

theorem St.rot1 {I : Reg} {w : World} {A B T : Own} (h : St I w (A ++ (B ++ T))) : St I w (B ++ (A ++ T)) :=
  h.perm (by rw [← List.append_assoc, ← List.append_assoc]; exact List.perm_append_comm.append_right _)
theorem St.rot2 {I : Reg} {w : World} {A B C T : Own} (h : St I w (A ++ (B ++ (C ++ T)))) : St I w (C ++ (A ++ (B ++ T))) := by
  have h1 : St I w ((A ++ B) ++ (C ++ T)) := by simpa using h
  simpa using h1.rot1
theorem St.rot3 {I : Reg} {w : World} {A B C D T : Own} (h : St I w (A ++ (B ++ (C ++ (D ++ T))))) : St I w (D ++ (A ++ (B ++ (C ++ T)))) := by
  have h1 : St I w ((A ++ (B ++ C)) ++ (D ++ T)) := by simpa using h
  simpa using h1.rot1
theorem St.drop {I : Reg} {w : World} {A T : Own} (h : St I w (A ++ T)) : St I w T :=
  ⟨h.imm, fun p hm => h.own p (List.mem_append_right _ hm), by have := h.nodup; rw [List.map_append, List.nodup_append] at this; exact this.2.1⟩

/-- A block of the call's own becomes one that stays as it is. -/
theorem St.freeze {I : Reg} {w : World} {A T : Own} (h : St I w (A ++ T)) :
    Ext I w (fun b => I b ∨ ∃ p ∈ A, p.1 = b) w ∧ St (fun b => I b ∨ ∃ p ∈ A, p.1 = b) w T := by
  refine ⟨⟨rfl, rfl, rfl, Nat.le_refl _, fun _ hb => .inl hb, fun _ _ => rfl⟩, ?_, ?_, h.drop.nodup⟩
  · rintro b (hb | ⟨p, hp, rfl⟩)
    · exact h.imm b hb
    · have := (h.own p (List.mem_append_left _ hp)).1
      exact (Array.getElem?_eq_some_iff.1 this).1
  · intro p hp
    refine ⟨(h.own p (List.mem_append_right _ hp)).1, ?_⟩
    rintro (hb | ⟨q, hq, he⟩)
    · exact (h.own p (List.mem_append_right _ hp)).2 hb
    · have hn := h.nodup
      rw [List.map_append, List.nodup_append] at hn
      exact hn.2.2 q.1 (List.mem_map_of_mem hq) p.1 (List.mem_map_of_mem hp) he

theorem World.heap_alloc_at (w : World) (o : Obj) : (w.alloc o).heap[w.heap.size]? = some o := by
  show (w.heap.push o)[w.heap.size]? = _
  rw [Array.getElem?_push, if_pos rfl]

/-- A new block, the call's own. -/
theorem St.alloc {I : Reg} {w : World} {T : Own} (h : St I w T) (o : Obj) :
    Ext I w I (w.alloc o) ∧ St I (w.alloc o) ([(w.heap.size, o)] ++ T) := by
  have hk : ∀ b, b < w.heap.size → (w.alloc o).heap[b]? = w.heap[b]? := fun b hb => Below.heap_alloc w o b hb
  have hs : ∀ p ∈ T, p.1 < w.heap.size := fun p hp => (Array.getElem?_eq_some_iff.1 (h.own p hp).1).1
  refine ⟨⟨rfl, rfl, rfl, by simp, fun _ hb => hb, fun b hb => hk b (h.imm b hb)⟩, ?_, ?_, ?_⟩
  · intro b hb; have := h.imm b hb; simp; omega
  · intro p hp
    rcases List.mem_append.1 hp with hp | hp
    · obtain rfl : p = (w.heap.size, o) := by simpa using hp
      refine ⟨World.heap_alloc_at w o, fun hb => ?_⟩
      have := h.imm _ hb; simp at this
    · exact ⟨by rw [hk _ (hs p hp)]; exact (h.own p hp).1, (h.own p hp).2⟩
  · simp only [List.cons_append, List.nil_append, List.map_cons, List.nodup_cons]
    refine ⟨fun hm => ?_, h.nodup⟩
    obtain ⟨p, hp, he⟩ := List.mem_map.1 hm
    have := hs p hp; omega

/-- A block of the call's own is written. -/
theorem St.write {I : Reg} {w w' : World} {b : Nat} {o o' : Obj} {T : Own} (h : St I w ([(b, o)] ++ T)) (hos : w'.os = w.os) (ht : w'.tape = w.tape) (hout : w'.output = w.output)
    (hs : w'.heap.size = w.heap.size) (hb : w'.heap[b]? = some o') (hne : ∀ c, c ≠ b → w'.heap[c]? = w.heap[c]?) : Ext I w I w' ∧ St I w' ([(b, o')] ++ T) := by
  have hI : ∀ c, I c → c ≠ b := fun c hc e => by subst e; exact (h.own (c, o) (by simp)).2 hc
  have hn := h.nodup
  simp only [List.cons_append, List.nil_append, List.map_cons, List.nodup_cons] at hn
  refine ⟨⟨hos, ht, hout, by omega, fun _ h => h, fun c hc => hne c (hI c hc)⟩, fun c hc => by rw [hs]; exact h.imm c hc, ?_, by simpa using hn⟩
  intro p hp
  simp only [List.cons_append, List.nil_append, List.mem_cons] at hp
  rcases hp with rfl | hp
  · exact ⟨hb, (h.own (b, o) (by simp)).2⟩
  · have hpb : p.1 ≠ b := fun e => hn.1 (by rw [← e]; exact List.mem_map_of_mem hp)
    have := h.own p (by simp [hp])
    exact ⟨by rw [hne _ hpb]; exact this.1, this.2⟩

theorem St.drew {I : Reg} {w : World} {T : Own} (h : St I w T) (n : Nat) : Ext I w I { w with drawn := n } ∧ St I { w with drawn := n } T :=
  ⟨⟨rfl, rfl, rfl, Nat.le_refl _, fun _ h => h, fun _ _ => rfl⟩, h.imm, h.own, h.nodup⟩

/-- The cells from a on hold v's cells. -/
def Points (w : World) (a : Addr) (v : Value) : Prop :=
  a.spot = none ∧ ∀ j, j < v.cells.size → w.cell? ⟨a.block, a.off + j, none⟩ = v.cells[j]?

theorem cell?_of_heap {w w' : World} {a : Addr} (h : w'.heap[a.block]? = w.heap[a.block]?) : w'.cell? a = w.cell? a := by
  simp only [World.cell?, h]

theorem Points.mono {I I' : Reg} {w w' : World} {a : Addr} {v : Value} (h : Ext I w I' w') (ha : I a.block) (hp : Points w a v) : Points w' a v :=
  ⟨hp.1, fun j hj => (cell?_of_heap (a := ⟨a.block, a.off + j, none⟩) (h.keep _ ha)).trans (hp.2 j hj)⟩

def maxI : Nat := 9223372036854775807

/-- Data of Go as data of Lean: how many cells, a struct or array or not, which value stands for which datum. -/
class Rep (α : Type) where
  size : Nat
  agg : Bool
  rep : Reg → World → Value → α → Prop
  pos : 0 < size
  cells : ∀ {I w v x}, rep I w v x → v.cells.size = size
  form : ∀ {I w v x}, rep I w v x → if agg then ∃ cs, v = .agg cs else v.cells = #[v]
  one : ∀ {I w v x}, rep I w v x → ∀ c ∈ v.cells.toList, c.oneCell' = true
  mono : ∀ {I w I' w' v x}, Ext I w I' w' → rep I w v x → rep I' w' v x

abbrev rep {α : Type} [Rep α] (I : Reg) (w : World) (v : Value) (x : α) : Prop := Rep.rep I w v x

theorem Ext.rep {α : Type} [Rep α] {I I' : Reg} {w w' : World} {v : Value} {x : α} (h : Ext I w I' w') (r : rep I w v x) : X.rep I' w' v x := Rep.mono h r

structure RInt (v : Value) (n : Int) : Prop where
  eq : v = .int .i64 n
  lo : -9223372036854775808 ≤ n
  hi : n ≤ 9223372036854775807

instance : Rep Int where
  size := 1
  agg := false
  rep _ _ v n := RInt v n
  pos := by decide
  cells h := by rw [h.eq]; rfl
  form h := by rw [h.eq]; simp [Value.cells]
  one h := by rw [h.eq]; simp [Value.cells, Value.oneCell']
  mono _ h := h

instance : Rep Bool where
  size := 1
  agg := false
  rep _ _ v b := v = .bool b
  pos := by decide
  cells h := by subst h; rfl
  form h := by subst h; simp [Value.cells]
  one h := by subst h; simp [Value.cells, Value.oneCell']
  mono _ h := h

instance : Rep ByteArray where
  size := 1
  agg := false
  rep _ _ v s := v = .string s ∧ s.size ≤ maxI
  pos := by decide
  cells h := by rw [h.1]; rfl
  form h := by rw [h.1]; simp [Value.cells]
  one h := by rw [h.1]; simp [Value.cells, Value.oneCell']
  mono _ h := h

/-- The elements of a slice, one behind the other from a on. -/
def Elems {α : Type} [Rep α] (I : Reg) (w : World) (a : Option Addr) (xs : List α) : Prop :=
  xs = [] ∨ ∃ b off, a = some ⟨b, off, none⟩ ∧ I b ∧ ∀ j (h : j < xs.length), ∃ v, rep I w v xs[j] ∧ Points w ⟨b, off + j * Rep.size α, none⟩ v

theorem Elems.mono {α : Type} [Rep α] {I I' : Reg} {w w' : World} {a : Option Addr} {xs : List α} (h : Ext I w I' w') (e : Elems I w a xs) : Elems I' w' a xs := by
  rcases e with e | ⟨b, off, ha, hb, he⟩
  · exact .inl e
  · refine .inr ⟨b, off, ha, h.sub b hb, fun j hj => ?_⟩
    obtain ⟨v, hv, hp⟩ := he j hj
    exact ⟨v, h.rep hv, Points.mono h hb hp⟩

structure RList {α : Type} [Rep α] (I : Reg) (w : World) (v : Value) (xs : List α) : Prop where
  ex : ∃ a cap, v = .slice a xs.length cap ∧ xs.length ≤ cap ∧ cap ≤ maxI ∧ Elems I w a xs

instance {α : Type} [Rep α] : Rep (List α) where
  size := 1
  agg := false
  rep I w v xs := RList I w v xs
  pos := by decide
  cells h := by obtain ⟨a, cap, h, _⟩ := h.ex; rw [h]; rfl
  form h := by obtain ⟨a, cap, h, _⟩ := h.ex; rw [h]; simp [Value.cells]
  one h := by obtain ⟨a, cap, h, _⟩ := h.ex; rw [h]; simp [Value.cells, Value.oneCell']
  mono h r := by obtain ⟨a, cap, h1, h2, h3, h4⟩ := r.ex; exact ⟨a, cap, h1, h2, h3, h4.mono h⟩

theorem rep_len {α : Type} [Rep α] {I : Reg} {w : World} {v : Value} {xs : List α} (h : rep I w v xs) : xs.length ≤ 9223372036854775807 := by
  obtain ⟨a, cap, h1, h2, h3, _⟩ := h.ex
  unfold maxI at h3; omega

theorem rep_nil {α : Type} [Rep α] {I : Reg} {w : World} {a : Option Addr} {cap : Nat} (h : cap ≤ maxI) : rep I w (.slice a 0 cap) ([] : List α) :=
  ⟨a, cap, rfl, Nat.zero_le _, h, .inl rfl⟩

end Go.X
