/-
  The X layer, part h: reading, writing and shifting inside a slice that the call builds; make.
-/
import Derived.Test.Ytinfniggaldheabg
namespace Go.X
open Go Go.RowKit

section
variable {P : Program} {I : Reg} {w : World} {T A : Own} {t e : TypeId} {nb : Nat} {α : Type} [Rep α]

theorem ElemsA.take {get : Nat → Option Value} {xs : List α} (n : Nat) (h : ElemsA I w get xs) : ElemsA I w get (xs.take n) := fun j hj => by
  obtain ⟨u, h1, h2⟩ := h j (by simp at hj; omega)
  exact ⟨u, by rw [List.getElem_take]; exact h1, h2⟩
theorem ElemsA.drop {get : Nat → Option Value} {xs : List α} (n : Nat) (h : ElemsA I w get xs) : ElemsA I w (fun k => get (n * Rep.size α + k)) (xs.drop n) := fun j hj => by
  obtain ⟨u, h1, h2⟩ := h (n + j) (by simp at hj; omega)
  exact ⟨u, by rw [List.getElem_drop]; exact h1, fun i hi => by have := h2 i hi; rw [Nat.add_mul, Nat.add_assoc] at this; exact this⟩
theorem ElemsA.congr {g g' : Nat → Option Value} {xs : List α} (h : ElemsA I w g xs) (hg : ∀ i, i < xs.length * Rep.size α → g' i = g i) : ElemsA I w g' xs := by
  have := ElemsA.append (ys := []) (g2 := fun _ => none) h (fun j hj => by simp at hj) hg (by simp)
  simpa using this

theorem ElemsA.cell {arr : Array Value} {xs : List α} (h : ElemsA I w (arr[·]?) xs) {n : Nat} (hn : n < xs.length * Rep.size α) : ∃ u, arr[n]? = some u ∧ u.oneCell' = true := by
  have hp : 0 < Rep.size α := Rep.pos
  have hj : n / Rep.size α < xs.length := (Nat.div_lt_iff_lt_mul hp).2 hn
  obtain ⟨u, h1, h2⟩ := h _ hj
  have hi : n % Rep.size α < u.cells.size := by rw [Rep.cells h1]; exact Nat.mod_lt _ hp
  have := h2 _ hi
  rw [Nat.div_add_mod'] at this
  rw [Array.getElem?_eq_getElem hi] at this
  exact ⟨_, this, Rep.one h1 _ (Array.getElem_mem_toList hi)⟩

/-- Element j of a slice of the call's own lies at a. -/
def At (A : Own) (sz j : Nat) (a : Addr) : Prop := ∃ b o, A = [(b, o)] ∧ a = ⟨b, j * sz, none⟩

theorem OwnSl.at {v : Value} {xs : List α} {j : Nat} (ho : OwnSl I w A v xs) (hs : St I w (A ++ T)) (hj : j < xs.length) (ht : slB P t e (Rep.size α) nb = true) :
    ∃ a u, At A (Rep.size α) j a ∧ Points w a u ∧ rep I w u xs[j] ∧ Ix P t v j a := by
  rcases ho.ex with ⟨_, rfl, _⟩ | ⟨b, arr, cap, e0, rfl, rfl, h3, h4, h5, h6⟩
  · simp at hj
  obtain ⟨u, h1, h2⟩ := h6 j hj
  have hb := (hs.own (b, .cells arr e0 (0, 0)) (by simp)).1
  have hsl := slB_slc ht
  refine ⟨⟨b, j * Rep.size α, none⟩, u, ⟨b, _, rfl, rfl⟩, ⟨rfl, fun i hi => by rw [cell_of_block hb]; exact h2 i hi⟩, h1, fun kd w' => ?_⟩
  have h1 : (0 : Int) ≤ j ∧ (j : Int) < xs.length := by omega
  simp [Instr.indexAt, asIntOf, run_underlying hsl.under, h1, hsl.size, addr_add]
  exact fun h => absurd h (by omega)

theorem store_own {v y : Value} {xs : List α} {x : α} {j : Nat} {a : Addr} {u : TypeId} (ho : OwnSl I w A v xs) (hs : St I w (A ++ T)) (ha : At A (Rep.size α) j a) (hj : j < xs.length) (hy : rep I w y x) (hu : tyB P u (Rep.agg α) (Rep.size α) = true) :
    ∃ A' w', (Instr.storeAt u (.pointer (some a)) y).run P w = .ok () w' ∧ Ext I w I w' ∧ St I w' (A' ++ T) ∧ OwnSl I w' A' v (xs.set j x) := by
  rcases ho.ex with ⟨_, rfl, _⟩ | ⟨b, arr, cap, e0, rfl, rfl, h3, h4, h5, h6⟩
  · simp at hj
  obtain ⟨b', o', hA, rfl⟩ := ha
  simp only [List.cons.injEq, Prod.mk.injEq, and_true] at hA
  obtain ⟨rfl, rfl⟩ := hA
  have hys := Rep.cells hy
  have hle : (j + 1) * Rep.size α ≤ arr.size := Nat.le_trans (Nat.mul_le_mul_right _ (by omega)) h5
  rw [Nat.add_mul, Nat.one_mul] at hle
  have hst := run_storeCells_at P b (j * Rep.size α) e0 y.cells.toList 0 arr w hs.heap (by rw [show y.cells.toList.length = y.cells.size from rfl]; omega) (Rep.one hy)
  simp only [Nat.add_zero] at hst
  generalize hrow : (List.take (j * Rep.size α) arr.toList ++ y.cells.toList ++ List.drop (j * Rep.size α + y.cells.toList.length) arr.toList).toArray = row at hst
  obtain ⟨e1, s1⟩ := hs.write (w' := w.setRow b row) rfl rfl rfl (by simp [World.setRow]) (setRow_heap w b arr _ e0 _ hs.heap) (fun c hc => setRow_other w b c _ hc)
  refine ⟨_, _, ?_, e1, s1, ⟨.inr ⟨b, _, cap, _, rfl, by simp, by simpa using h3, h4, ?_, ?_⟩⟩⟩
  · simp [Instr.storeAt, Instr.sureAddr, storeVar, (tyB_run (w := w) hu).2, hys, hst]
  all_goals subst hrow
  · simp only [List.size_toArray, List.length_append, List.length_take, List.length_drop, Array.length_toList]; omega
  · have hlen : (List.take (j * Rep.size α) arr.toList).length = j * Rep.size α := by rw [List.length_take, show arr.toList.length = arr.size from rfl]; omega
    have hget : ∀ i, (List.take (j * Rep.size α) arr.toList ++ y.cells.toList ++ List.drop (j * Rep.size α + y.cells.toList.length) arr.toList)[i]? =
        if i < j * Rep.size α then arr[i]? else if i < (j + 1) * Rep.size α then y.cells[i - j * Rep.size α]? else arr[i]? := by
      intro i
      rw [List.append_assoc, Nat.add_mul, Nat.one_mul]
      split
      · rename_i h; rw [List.getElem?_append_left (by omega), List.getElem?_take_of_lt h, Array.getElem?_toList]
      · rw [List.getElem?_append_right (by omega), hlen]
        split
        · rw [List.getElem?_append_left (by rw [show y.cells.toList.length = y.cells.size from rfl]; omega), Array.getElem?_toList]
        · rw [List.getElem?_append_right (by rw [show y.cells.toList.length = y.cells.size from rfl]; omega), List.getElem?_drop, Array.getElem?_toList, show y.cells.toList.length = y.cells.size from rfl]
          congr 1; omega
    intro k hk
    rw [List.length_set] at hk
    simp only [List.getElem?_toArray, hget]
    have ord : ∀ {k j i : Nat}, k < j → i < Rep.size α → k * Rep.size α + i < j * Rep.size α := fun {k j i} hkj hi => by
      have : (k + 1) * Rep.size α ≤ j * Rep.size α := Nat.mul_le_mul_right _ hkj
      rw [Nat.add_mul, Nat.one_mul] at this; omega
    by_cases hkj : k = j
    · subst hkj
      refine ⟨y, by rw [List.getElem_set_self]; exact e1.rep hy, fun i hi => ?_⟩
      rw [if_neg (by omega), if_pos (by rw [Nat.add_mul, Nat.one_mul]; omega), Nat.add_sub_cancel_left]
    · obtain ⟨z, z1, z2⟩ := h6 k hk
      refine ⟨z, by rw [List.getElem_set_ne (Ne.symm hkj)]; exact e1.rep z1, fun i hi => ?_⟩
      have hi' : i < Rep.size α := by rw [← Rep.cells z1]; exact hi
      rcases Nat.lt_or_gt_of_ne hkj with h | h
      · rw [if_pos (ord h hi')]; exact z2 i hi
      · have := Nat.mul_le_mul_right (Rep.size α) h
        rw [if_neg (by rw [Nat.succ_mul] at this; omega), if_neg (by simp only [Nat.add_mul, Nat.one_mul]; rw [Nat.succ_mul] at this; omega)]; exact z2 i hi

/-- v[j:] -/
def subV (v : Value) (j sz : Nat) : Value := match v with
  | .slice a len cap => .slice (if cap = j then a else a.map (·.add (j * sz))) (len - j) (cap - j)
  | v => v

theorem copy_own {v : Value} {xs : List α} {i : Nat} {ty : TypeId} (ho : OwnSl I w A v xs) (hs : St I w (A ++ T)) (hi : i + 1 ≤ xs.length) (ht : slB P t e (Rep.size α) nb = true) :
    ∃ A' w' n, (Builtin.copy_ #[t, t] ty #[subV v (i + 1) (Rep.size α), subV v i (Rep.size α)]).run P w = .ok n w' ∧ Ext I w I w' ∧ St I w' (A' ++ T) ∧ OwnSl I w' A' v (xs.take (i + 1) ++ (xs.drop i).take (xs.length - (i + 1))) := by
  have hsl := slB_slc ht
  rcases ho.ex with ⟨_, rfl, _⟩ | ⟨b, arr, cap, e0, rfl, rfl, h3, h4, h5, h6⟩
  · simp at hi
  have hmin : Nat.min (xs.length - i) (xs.length - (i + 1)) = xs.length - (i + 1) := by simp only [Nat.min_def]; split <;> omega
  have hlen' : (xs.take (i + 1) ++ (xs.drop i).take (xs.length - (i + 1))).length = xs.length := by simp; omega
  by_cases hz : xs.length - (i + 1) = 0
  · have hf0 : ∀ (a : Option Addr) (l c : Nat), (Builtin.firstCells (Rep.size α) 0 (.slice a l c)).run P w = .ok #[] w := fun a l c => by cases a <;> simp [Builtin.firstCells, loadCells, loadCellsFrom]
    have hst : ∀ (a : Option Addr), (do if let some a := a then storeCells a (#[] : Array Value).toList : Sem Unit).run P w = .ok () w := fun a => by cases a <;> simp [storeCells]
    refine ⟨[(b, .cells arr e0 (0, 0))], w, .int .i64 0, ?_, Ext.refl _ _, hs, OwnSl.cast (xs := xs) ?_ ho⟩
    · by_cases hc : cap = i + 1
      · simp [Builtin.copy_, run_underlying hsl.under, Builtin.lenOf, subV, hz, hsl.size, hf0, goInt, hc, storeCells]
      · simp [Builtin.copy_, run_underlying hsl.under, Builtin.lenOf, subV, hz, hsl.size, hf0, goInt, hc, storeCells]
    · rw [hz, List.take_zero, List.append_nil, List.take_of_length_le (by omega)]
  have hc1 : ¬ cap = i + 1 := by omega
  have hc0 : ¬ cap = i := by omega
  have hb := (hs.own (b, .cells arr e0 (0, 0)) (by simp)).1
  generalize hn : xs.length - (i + 1) = n at *
  have hfit : xs.length * Rep.size α ≤ arr.size := Nat.le_trans (Nat.mul_le_mul_right _ h3) h5
  have hxs : xs.length * Rep.size α = i * Rep.size α + Rep.size α + n * Rep.size α := by
    rw [show xs.length = i + 1 + n by omega, Nat.add_mul, Nat.add_mul, Nat.one_mul]
  have hnl : ((arr.toList.drop (i * Rep.size α)).take (n * Rep.size α)).length = n * Rep.size α := by
    rw [List.length_take, List.length_drop, show arr.toList.length = arr.size from rfl]; omega
  have hng : ∀ k, k < n * Rep.size α → ((arr.toList.drop (i * Rep.size α)).take (n * Rep.size α))[k]? = arr[i * Rep.size α + k]? := fun k hk => by
    rw [List.getElem?_take_of_lt hk, List.getElem?_drop, Array.getElem?_toList]
  have hf := run_firstCells_some (P := P) w (Rep.size α) n ⟨b, i * Rep.size α, none⟩ (xs.length - i) (cap - i) ((arr.toList.drop (i * Rep.size α)).take (n * Rep.size α)) hnl (fun j u hu => by
    have hj : j < n * Rep.size α := by have := (List.getElem?_eq_some_iff.1 hu).1; omega
    rw [addr_add, cell_of_block hb, ← hng j hj]; exact hu)
  have hst := run_storeCells_at P b ((i + 1) * Rep.size α) e0 ((arr.toList.drop (i * Rep.size α)).take (n * Rep.size α)) 0 arr w hb (by rw [hnl, Nat.add_mul, Nat.one_mul]; omega) (fun u hu => by
    obtain ⟨k, hk⟩ := List.mem_iff_getElem?.1 hu
    have hkl : k < n * Rep.size α := by have := (List.getElem?_eq_some_iff.1 hk).1; omega
    rw [hng k hkl] at hk
    obtain ⟨u', h1, h2⟩ := h6.cell (n := i * Rep.size α + k) (by omega)
    rw [h1] at hk; cases hk; exact h2)
  simp only [Nat.add_zero] at hst
  generalize hrow : (List.take ((i + 1) * Rep.size α) arr.toList ++ (arr.toList.drop (i * Rep.size α)).take (n * Rep.size α) ++ List.drop ((i + 1) * Rep.size α + ((arr.toList.drop (i * Rep.size α)).take (n * Rep.size α)).length) arr.toList).toArray = row at hst
  obtain ⟨e1, s1⟩ := hs.write (w' := w.setRow b row) rfl rfl rfl (by simp [World.setRow]) (setRow_heap w b arr _ e0 _ hb) (fun c hc => setRow_other w b c _ hc)
  refine ⟨_, _, goInt n, ?_, e1, s1, ⟨.inr ⟨b, _, cap, _, rfl, by rw [hlen'], by rw [hlen']; exact h3, h4, ?_, ?_⟩⟩⟩
  · simp [Builtin.copy_, run_underlying hsl.under, Builtin.lenOf, subV, hmin, hn, hsl.size, hc1, hc0, addr_add, hf, hst]
  all_goals subst hrow
  · simp only [List.size_toArray, List.length_append, hnl, List.length_take, List.length_drop, Array.length_toList]
    rw [Nat.add_mul, Nat.one_mul]; omega
  · have hlen : (List.take ((i + 1) * Rep.size α) arr.toList).length = (i + 1) * Rep.size α := by rw [List.length_take, show arr.toList.length = arr.size from rfl, Nat.add_mul, Nat.one_mul]; omega
    have hti : (xs.take (i + 1)).length = i + 1 := by simp; omega
    have htn : ((xs.drop i).take n).length = n := by simp; omega
    refine ElemsA.append ((h6.take (i + 1)).mono e1) (g2 := fun k => arr[i * Rep.size α + k]?) (((h6.drop i).take n).mono e1) ?_ ?_
    · intro k hk
      rw [hti] at hk
      simp only [List.getElem?_toArray, List.append_assoc]
      rw [List.getElem?_append_left (by omega), List.getElem?_take_of_lt hk, Array.getElem?_toList]
    · intro k hk
      rw [htn] at hk
      rw [hti]
      simp only [List.getElem?_toArray, List.append_assoc]
      rw [List.getElem?_append_right (by omega), hlen, Nat.add_sub_cancel_left, List.getElem?_append_left (by omega), hng k hk]
end

section
variable {P : Program} {N : Nat} {ops : Array Oper} {R : Ending → World → Prop} {m : Bool} {K : Fr → World → Prop} {os : List Oper} {f : Fr} {w : World}
variable {dst : Option Tmp} {ty : TypeId} {pos : String} {af : Array Edge} {I : Reg} {T A : Own} {x y z : Operand} {t e u : TypeId} {sz nb : Nat} {kd : IntKind} {a b c : Int}

theorem o_storeSl {α : Type} [Rep α] {v yv : Value} {xs : List α} {d : α} {j : Nat} {p : Addr} (ho : OwnSl I w A v xs) (hs : St I w (A ++ T)) (ha : At A (Rep.size α) j p) (hj : j < xs.length) (hy : rep I w yv d) (hu : tyB P u (Rep.agg α) (Rep.size α) = true)
    (hx : ev f x = .pointer (some p)) (hyv : ev f y = yv) (h : ∀ A' w', Ext I w I w' → St I w' (A' ++ T) → OwnSl I w' A' v (xs.set j d) → WL P N ops R false K os (put N f dst undef) w') :
    WL P N ops R false K (⟨dst, .store u x y, ty, pos, af, none⟩ :: os) f w := by
  obtain ⟨A', w', hr, h1, h2, h3⟩ := store_own ho hs ha hj hy hu
  exact wl_unit (by simp [execOp, hx, hyv, hr]) (h A' w' h1 h2 h3)

theorem o_subO {α : Type} [Rep α] {v : Value} {xs : List α} {j : Nat} (ht : slB P t e (Rep.size α) nb = true) (ho : OwnSl I w A v xs) (hj : j ≤ xs.length) (hx : ev f x = v) (hy : ev f y = .int kd a) (ha : a = (j : Int))
    (h : WL P N ops R m K os (put N f dst (subV v j (Rep.size α))) w) : WL P N ops R m K (⟨dst, .slice t x (some y) none none, ty, pos, af, none⟩ :: os) f w := by
  have hs := slB_slc ht
  obtain ⟨a', cap, hv, _⟩ := ho.len
  refine wl_val ?_ h
  subst ha
  have hc : (0 : Int) ≤ j ∧ (j : Int) ≤ xs.length := by omega
  simp [execOp, Instr.sliceAt, run_underlying hs.under, Instr.slice, Instr.sliceBounds, Instr.sliceBound, hx, hv, hy, asIntOf, hc, hs.size, subV]
  exact fun h => absurd h (by omega)

theorem o_copyO {α : Type} [Rep α] {v : Value} {xs : List α} {i : Nat} (ht : slB P t e (Rep.size α) nb = true) (ho : OwnSl I w A v xs) (hs : St I w (A ++ T)) (hi : i + 1 ≤ xs.length) (hx : ev f x = subV v (i + 1) (Rep.size α)) (hy : ev f y = subV v i (Rep.size α))
    (h : ∀ n A' w', Ext I w I w' → St I w' (A' ++ T) → OwnSl I w' A' v (xs.take (i + 1) ++ (xs.drop i).take (xs.length - (i + 1))) → WL P N ops R m K os (put N f dst n) w') :
    WL P N ops R m K (⟨dst, .call ⟨.builtin .copy, #[x, y], #[t, t]⟩, ty, pos, af, none⟩ :: os) f w := by
  obtain ⟨A', w', n, hr, h1, h2, h3⟩ := copy_own (ty := ty) ho hs hi ht
  exact wl_val (by simp [execOp, resolve, invoke, builtin, hx, hy, hr]) (h n A' w' h1 h2 h3)

/-- l[:len(l):len(l)] -/
theorem o_slice_full {α : Type} [Rep α] {v : Value} {xs : List α} (ht : slB P t e (Rep.size α) nb = true) (hr : rep I w v xs) (hx : ev f x = v) (hy : ev f y = .int kd a) (hz : ev f z = .int kd b) (ha : a = (xs.length : Int)) (hb : b = (xs.length : Int))
    (h : ∀ v', rep I w v' xs → WL P N ops R m K os (put N f dst v') w) : WL P N ops R m K (⟨dst, .slice t x none (some y) (some z), ty, pos, af, none⟩ :: os) f w := by
  obtain ⟨a', cap, hv, h1, h2, hp⟩ := rep_part hr
  have hs := slB_slc ht
  have := hp 0 xs.length xs.length (Nat.zero_le _) (Nat.le_refl _) (Nat.le_refl _) h1
  simp only [List.drop_zero, Nat.sub_zero, List.take_length] at this
  refine wl_val ?_ (h _ this)
  subst ha hb
  have hc : (0 : Int) ≤ xs.length ∧ (xs.length : Int) ≤ cap := by omega
  have hc' : (0 : Int) ≤ xs.length ∧ (xs.length : Int) ≤ xs.length := by omega
  simp [execOp, Instr.sliceAt, run_underlying hs.under, Instr.slice, Instr.sliceBounds, Instr.sliceBound, hx, hv, hy, hz, asIntOf, hc, hs.size]
  try exact fun h => absurd h (by omega)

/-- make([]T, 0, n) -/
theorem o_make0 {α : Type} [Rep α] {n : Nat} (ht : slB P t e (Rep.size α) nb = true) (hs : St I w T) (hx : ev f x = .int .i64 0) (hy : ev f y = .int .i64 b) (hb : b = (n : Int)) (hn : n ≤ 9223372036854775807) (hnb : nb * n ≤ 281474976710656)
    (h : ∀ v A w', Ext I w I w' → St I w' (A ++ T) → OwnSl I w' A v ([] : List α) → WL P N ops R m K os (put N f dst v) w') :
    WL P N ops R m K (⟨dst, .makeSlice t x y, ty, pos, af, none⟩ :: os) f w := by
  obtain ⟨i, z, hi, hsz, hbt, hz, hzs⟩ := (slB_slc ht).info
  have hu := (slB_slc ht).under
  subst hb
  have hw : IntKind.i64.wrap (n : Int) = n := wrap_in (by omega) (by omega)
  have hw0 : IntKind.i64.wrap 0 = 0 := by decide
  obtain ⟨e1, s1⟩ := hs.alloc (.cells ((Array.range (n * Rep.size α)).map fun k => (if n * Rep.size α = 0 then (#[] : Array Value) else z.cells)[k % (if n * Rep.size α = 0 then (#[] : Array Value) else z.cells).size]!) e)
  refine wl_val (v := .slice (some ⟨w.heap.size, 0, none⟩) 0 n) ?_ (h _ _ _ e1 s1 ⟨.inr ⟨_, _, n, _, rfl, rfl, Nat.zero_le _, by unfold maxLen; omega, by rw [Array.size_map, Array.size_range]; exact Nat.le_refl _, fun j hj => by simp at hj⟩⟩)
  have h1 : ¬ ((i.bytes : Int) * (n : Int) > 281474976710656) := by
    rw [hbt]
    have h2 : ((nb * n : Nat) : Int) ≤ ((281474976710656 : Nat) : Int) := Int.ofNat_le.2 hnb
    rw [Int.natCast_mul] at h2; omega
  by_cases h0 : n * Rep.size α = 0
  · simp [execOp, Instr.makeSlice, run_underlying hu, hx, hy, asInt, asIntOf, typeInfo, hi, hw, hw0, sizeOf, hsz, h0, newRow]
    omega
  · simp [execOp, Instr.makeSlice, run_underlying hu, hx, hy, asInt, asIntOf, typeInfo, hi, hw, hw0, sizeOf, hsz, h0, newRow, zeroValue, hz]
    omega
end
theorem int_eq {k : IntKind} {a b : Int} (h : a = b) : Value.int k a = .int k b := h ▸ rfl
theorem bool_eq {a b : Bool} (h : a = b) : Value.bool a = .bool b := h ▸ rfl
end Go.X
