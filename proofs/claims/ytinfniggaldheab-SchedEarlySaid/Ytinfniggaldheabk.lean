/-
  The X layer, part k: structs as pairs of Lean, and maps that the call owns.
-/
import Derived.Test.Ytinfniggaldheabj
import Derived.Carry
namespace Go.X
open Go Go.RowKit

/-! Structs and arrays: nested pairs; their cells lie one behind the other. -/

theorem rep_cells_size {α : Type} [Rep α] {I : Reg} {w : World} {v : Value} {x : α} (h : rep I w v x) : v.cells.size = Rep.size α := Rep.cells h

instance {α β : Type} [Rep α] [Rep β] : Rep (α × β) where
  size := Rep.size α + Rep.size β
  agg := true
  rep I w v p := ∃ a b, v = .agg (a.cells ++ b.cells) ∧ rep I w a p.1 ∧ rep I w b p.2
  pos := Nat.add_pos_left Rep.pos _
  cells := fun ⟨a, b, h, ha, hb⟩ => by subst h; show (a.cells ++ b.cells).size = _; rw [Array.size_append, rep_cells_size ha, rep_cells_size hb]
  form := fun ⟨a, b, h, _, _⟩ => by simp [h]
  one := fun ⟨a, b, h, ha, hb⟩ => by
    subst h
    intro c hc
    simp only [Value.cells, Array.toList_append, List.mem_append] at hc
    exact hc.elim (Rep.one ha c) (Rep.one hb c)
  mono := fun h ⟨a, b, hv, ha, hb⟩ => ⟨a, b, hv, Rep.mono h ha, Rep.mono h hb⟩

/-- A struct of one field. -/
structure One (α : Type) where
  val : α

instance {α : Type} [Rep α] : Rep (One α) where
  size := Rep.size α
  agg := true
  rep I w v p := ∃ a, v = .agg a.cells ∧ rep I w a p.val
  pos := Rep.pos
  cells := fun ⟨a, h, ha⟩ => by subst h; have := rep_cells_size ha; exact this
  form := fun ⟨a, h, _⟩ => by simp [h]
  one := fun ⟨a, h, ha⟩ c hc => by subst h; exact Rep.one ha c hc
  mono := fun h ⟨a, hv, ha⟩ => ⟨a, hv, Rep.mono h ha⟩

theorem FldD.fst {α β : Type} [Rep α] [Rep β] : FldD (fun p : α × β => p.1) 0 := fun {I w v p} ⟨a, b, h, ha, _⟩ => by
  subst h
  refine ⟨a, ha, by simp [Value.cells], fun j hj => ?_⟩
  simp only [Nat.zero_add]
  rw [show (Value.agg (a.cells ++ b.cells)).cells = a.cells ++ b.cells from rfl, Array.getElem?_append_left hj]

theorem FldD.snd {α β γ : Type} [Rep α] [Rep β] [Rep γ] {g : β → γ} {off n : Nat} (hd : FldD g off) (hn : Rep.size α + off = n) : FldD (fun p : α × β => g p.2) n := fun {I w v p} ⟨a, b, h, ha, hb⟩ => by
  subst h hn
  obtain ⟨u, hu, hle, hc⟩ := hd hb
  have hs := rep_cells_size ha
  refine ⟨u, hu, by simp only [Value.cells, Array.size_append] at *; omega, fun j hj => ?_⟩
  rw [show (Value.agg (a.cells ++ b.cells)).cells = a.cells ++ b.cells from rfl, Array.getElem?_append_right (by omega), ← hc j hj]
  congr 1; omega

theorem FldD.id {α : Type} [Rep α] : FldD (fun p : α => p) 0 := fun {I w v p} h => ⟨v, h, by omega, fun j _ => by rw [Nat.zero_add]⟩

theorem FldD.one {α β : Type} [Rep α] [Rep β] {g : α → β} {n : Nat} (hd : FldD g n) : FldD (fun p : One α => g p.val) n := fun {I w v p} ⟨a, h, ha⟩ => by
  subst h
  obtain ⟨u, hu, hle, hc⟩ := hd ha
  exact ⟨u, hu, hle, hc⟩

/-- The cells of a struct, put together again. -/
theorem rep_pair {α β : Type} [Rep α] [Rep β] {I : Reg} {w : World} {a b : Value} {x : α} {y : β} {cs ds : Array Value} (ha : rep I w a x) (hb : rep I w b y) (hc : a.cells = cs) (hd : b.cells = ds) : rep I w (.agg (cs ++ ds)) (x, y) :=
  ⟨a, b, by rw [hc, hd], ha, hb⟩

/-! Data of Lean that are told by other data -/

abbrev Rep.via {α β : Type} [Rep β] (g : α → β) : Rep α where
  size := Rep.size β
  agg := Rep.agg β
  rep I w v x := Rep.rep I w v (g x)
  pos := Rep.pos
  cells := fun h => Rep.cells h
  form := fun h => Rep.form h
  one := fun h => Rep.one h
  mono := fun h r => Rep.mono h r
theorem FldD.via {α β γ : Type} [Rep β] [Rep γ] {g : α → β} {h : β → γ} {n : Nat} (hd : FldD h n) : @FldD α γ (Rep.via g) _ (fun x => h (g x)) n := fun {_ _ _ _} r => hd r
theorem cells1 {α : Type} [Rep α] {I : Reg} {w : World} {v : Value} {x : α} (ha : Rep.agg α = false) (h : rep I w v x) : v.cells = #[v] := by
  have := Rep.form h
  simpa [ha] using this
theorem cells_agg {cs : Array Value} : (Value.agg cs).cells = cs := rfl

/-! Keys of maps -/

/-- In P, the type t has the keys κ: they are compared as data. -/
structure KeyT (P : Program) (t : TypeId) (κ : Type) [Rep κ] [DecidableEq κ] : Prop where
  find : ∀ (I : Reg) (w : World) (v : Value) (k : κ) (es : List MapEntry) (ks : List κ), rep I w v k → es.length = ks.length → (∀ j (h : j < es.length) (h' : j < ks.length), rep I w es[j].key ks[j]) →
    (Instr.findKey t v es).run P w = .ok ((ks.findIdx? (· == k)).bind fun i => (es[i]?).map fun e => (i, e.val)) w
  check : ∀ (I : Reg) (w : World) (v : Value) (k : κ) (e : Bool), rep I w v k → (Instr.checkKey e 10000 t v).run P w = .ok () w
  same : ∀ (I : Reg) (w : World) (v u : Value) (k : κ), rep I w v k → rep I w u k → Instr.sameBits 10000 v u = true

theorem findNow_int {k : Int} : ∀ (es : List MapEntry) (ks : List Int) (n : Nat), es.length = ks.length → (∀ j (h : j < es.length) (h' : j < ks.length), es[j].key = .int .i64 ks[j]) →
    Instr.findNow (.int .i64) (.int .i64 k) es n = some ((ks.findIdx? (· == k)).bind fun i => (es[i]?).map fun e => (n + i, e.val))
  | [], [], n, _, _ => rfl
  | [], _ :: _, _, h, _ => by simp at h
  | _ :: _, [], _, h, _ => by simp at h
  | e :: es, x :: ks, n, h, hk => by
    have h0 : e.key = .int .i64 x := hk 0 (by simp) (by simp)
    have ih := findNow_int (k := k) es ks (n + 1) (by simpa using h) (fun j h1 h2 => hk (j + 1) (by simp; omega) (by simp; omega))
    simp only [Instr.findNow, h0, Instr.sameNow, if_true]
    by_cases hx : k = x
    · subst hx; simp [List.findIdx?_cons]
    · have hx' : ¬ x = k := fun h => hx h.symm
      have : (k == x) = false := by simpa using hx
      rw [this]
      simp only [ih, List.findIdx?_cons, show (x == k) = false by simpa using hx']
      cases ks.findIdx? (· == k) with
      | none => simp
      | some i => simp [Nat.add_comm, Nat.add_left_comm]

theorem KeyT.int {P : Program} {t : TypeId} (ht : P.underlying t = some (.int .i64)) : KeyT P t Int where
  find I w v k es ks hv hl hk := by
    obtain rfl := RInt.eq hv
    have := findNow_int (k := k) es ks 0 hl (fun j h h' => (hk j h h').eq)
    simp only [Nat.zero_add] at this
    simp [Instr.findKey, run_underlying ht, this]
  check I w v k e hv := by
    obtain rfl := RInt.eq hv
    have : ∀ n, (Instr.checkKey e (n + 1) t (.int .i64 k)).run P w = .ok () w := fun n => by simp [Instr.checkKey, run_underlying ht]
    exact this 9999
  same I w v u k hv hu := by
    obtain rfl := RInt.eq hv
    obtain rfl := RInt.eq hu
    simp [Instr.sameBits]

/-! Maps -/

/-- The map's keys and elements, in the order in which they were first laid. -/
def mget {κ β : Type} [DecidableEq κ] : List (κ × β) → κ → Option β
  | [], _ => none
  | p :: m, k => if p.1 = k then some p.2 else mget m k
def mset {κ β : Type} [DecidableEq κ] : List (κ × β) → κ → β → List (κ × β)
  | [], k, v => [(k, v)]
  | p :: m, k, v => if p.1 = k then (p.1, v) :: m else p :: mset m k v
def mdel {κ β : Type} [DecidableEq κ] : List (κ × β) → κ → List (κ × β)
  | [], _ => []
  | p :: m, k => if p.1 = k then m else p :: mdel m k

structure OwnMap {κ β : Type} [Rep κ] [Rep β] (I : Reg) (w : World) (A : Own) (v : Value) (m : List (κ × β)) : Prop where
  ex : ∃ b es clock, A = [(b, .map es clock)] ∧ v = .map (some b) ∧ es.toList.length = m.length ∧ ∀ j (h : j < es.toList.length) (h' : j < m.length), rep I w es.toList[j].key m[j].1 ∧ rep I w es.toList[j].val m[j].2

theorem OwnMap.mono {κ β : Type} [Rep κ] [Rep β] {I I' : Reg} {w w' : World} {A : Own} {v : Value} {m : List (κ × β)} (h : OwnMap I w A v m) (e : Ext I w I' w') : OwnMap I' w' A v m := by
  obtain ⟨b, es, c, h1, h2, h3, h4⟩ := h.ex
  exact ⟨b, es, c, h1, h2, h3, fun j hj hj' => ⟨e.rep (h4 j hj hj').1, e.rep (h4 j hj hj').2⟩⟩

theorem OwnMap.cast {κ β : Type} [Rep κ] [Rep β] {I : Reg} {w : World} {A : Own} {v : Value} {m m' : List (κ × β)} (e : m = m') (h : OwnMap I w A v m) : OwnMap I w A v m' := e ▸ h

theorem mget_idx {κ β : Type} [DecidableEq κ] : ∀ (m : List (κ × β)) (k : κ), mget m k = ((m.map (·.1)).findIdx? (· == k)).bind fun i => (m[i]?).map (·.2)
  | [], k => rfl
  | p :: m, k => by
    have ih := mget_idx m k
    unfold mget
    by_cases h : p.1 = k
    · simp [h, List.findIdx?_cons]
    · rw [if_neg h, ih, List.map_cons, List.findIdx?_cons, show (p.1 == k) = false by simpa using h]
      cases (m.map (·.1)).findIdx? (· == k) <;> simp

theorem mset_idx {κ β : Type} [DecidableEq κ] : ∀ (m : List (κ × β)) (k : κ) (v : β), mset m k v = match (m.map (·.1)).findIdx? (· == k) with
    | some i => m.modify i fun p => (p.1, v)
    | none => m ++ [(k, v)]
  | [], k, v => rfl
  | p :: m, k, v => by
    have ih := mset_idx m k v
    unfold mset
    by_cases h : p.1 = k
    · simp [h, List.findIdx?_cons]
    · rw [if_neg h, ih, List.map_cons, List.findIdx?_cons, show (p.1 == k) = false by simpa using h]
      cases (m.map (·.1)).findIdx? (· == k) <;> simp

theorem mdel_idx {κ β : Type} [DecidableEq κ] : ∀ (m : List (κ × β)) (k : κ), mdel m k = match (m.map (·.1)).findIdx? (· == k) with
    | some i => m.eraseIdx i
    | none => m
  | [], k => rfl
  | p :: m, k => by
    have ih := mdel_idx m k
    unfold mdel
    by_cases h : p.1 = k
    · simp [h, List.findIdx?_cons]
    · rw [if_neg h, ih, List.map_cons, List.findIdx?_cons, show (p.1 == k) = false by simpa using h]
      cases (m.map (·.1)).findIdx? (· == k) <;> simp

/-- A map type, its keys and elements. -/
structure MapT (P : Program) (t kt et : TypeId) (κ β : Type) [Rep κ] [Rep β] [DecidableEq κ] : Prop where
  und : P.underlying t = some (.map kt et)
  key : KeyT P kt κ

section
variable {P : Program} {N : Nat} {ops : Array Oper} {R : Ending → World → Prop} {mo : Bool} {K : Fr → World → Prop} {os : List Oper} {f : Fr} {w : World}
variable {dst : Option Tmp} {ty : TypeId} {pos : String} {af : Array Edge} {I : Reg} {T A : Own} {t kt et : TypeId}
variable {κ β : Type} [Rep κ] [Rep β] [DecidableEq κ] {x y z : Operand}

theorem o_makeMap (κ β : Type) [Rep κ] [Rep β] (hs : St I w T)
    (h : ∀ v A w', Ext I w I w' → St I w' (A ++ T) → OwnMap I w' A v ([] : List (κ × β)) → WL P N ops R mo K os (put N f dst v) w') : WL P N ops R mo K (⟨dst, .makeMap t none, ty, pos, af, none⟩ :: os) f w := by
  obtain ⟨e1, s1⟩ := hs.alloc (.map #[] 0)
  refine wl_val (v := .map (some w.heap.size)) ?_ (h _ _ _ e1 s1 ⟨_, _, _, rfl, rfl, rfl, fun j hj => by simp at hj⟩)
  simp [execOp, run_makeMap]

theorem getObj_own {b c : Nat} {es : Array MapEntry} (hs : St I w ([(b, .map es c)] ++ T)) : (getObj b).run P w = .ok (.map es c) w := by
  have := hs.heap
  simp [getObj, Sem.run, this]

theorem o_lenM {as : Array TypeId} {v : Value} {m : List (κ × β)} (ho : OwnMap I w A v m) (hs : St I w (A ++ T)) (hx : ev f x = v) (ht : MapT P t kt et κ β) (hat : as[0]? = some t)
    (h : WL P N ops R mo K os (put N f dst (.int .i64 m.length)) w) : WL P N ops R mo K (⟨dst, .call ⟨.builtin .len, #[x], as⟩, ty, pos, af, none⟩ :: os) f w := by
  obtain ⟨b, es, c, rfl, rfl, hl, _⟩ := ho.ex
  refine wl_val ?_ (by rw [← hl] at h; exact h)
  simp [execOp, resolve, invoke, builtin, Builtin.len_, hat, hx, run_underlying ht.und, getObj_own hs, goInt]

theorem OwnMap.find {v kv : Value} {m : List (κ × β)} {k : κ} (ht : MapT P t kt et κ β) (ho : OwnMap I w A v m) (hk : rep I w kv k) : ∃ b es c, A = [(b, .map es c)] ∧ v = .map (some b) ∧
    (Instr.findKey kt kv es.toList).run P w = .ok (((m.map (·.1)).findIdx? (· == k)).bind fun i => (es.toList[i]?).map fun e => (i, e.val)) w ∧ es.toList.length = m.length ∧
    ∀ j (h : j < es.toList.length) (h' : j < m.length), rep I w es.toList[j].key m[j].1 ∧ rep I w es.toList[j].val m[j].2 := by
  obtain ⟨b, es, c, h1, h2, hl, hr⟩ := ho.ex
  exact ⟨b, es, c, h1, h2, ht.key.find I w kv k _ _ hk (by simpa using hl) (fun j h h' => by rw [List.getElem_map]; exact (hr j h (by simpa using h')).1), hl, hr⟩

/-- A map is asked for a key that it may lack: the element, or the type's zero. -/
theorem o_lookup {v kv zv : Value} {m : List (κ × β)} {k : κ} {zd : β} (ht : MapT P t kt et κ β) (ho : OwnMap I w A v m) (hs : St I w (A ++ T)) (hx : ev f x = v) (hy : ev f y = kv) (hk : rep I w kv k)
    (hz : (zeroValue et).run P w = .ok zv w) (hzr : rep I w zv zd)
    (h : ∀ u, rep I w u ((mget m k).getD zd) → WL P N ops R mo K os (put N f dst u) w) : WL P N ops R mo K (⟨dst, .lookup t x y false, ty, pos, af, none⟩ :: os) f w := by
  obtain ⟨b, es, c, rfl, rfl, hf, hl, hr⟩ := ho.find ht hk
  have hg := getObj_own (P := P) hs
  have hc := ht.key.check I w kv k es.isEmpty hk
  rw [mget_idx] at h
  cases hi : (m.map (·.1)).findIdx? (· == k) with
  | none =>
    rw [hi] at hf h
    refine wl_val (v := zv) ?_ (h zv (by simpa using hzr))
    simp [execOp, Instr.lookup, run_underlying ht.und, hx, hy, hg, hc, hf, hz]
  | some i =>
    rw [hi] at hf h
    have hlt : i < m.length := by have := (List.findIdx?_eq_some_iff_getElem.1 hi).1; simpa using this
    have hlt' : i < es.toList.length := by omega
    rw [Option.bind_some, List.getElem?_eq_getElem hlt', Option.map_some] at hf
    refine wl_val (v := es.toList[i].val) ?_ (h _ ?_)
    · simp only [execOp, Instr.lookup]
      simp [run_underlying ht.und, hx, hy, hg, hc, hf]
    · simp only [Option.bind_some, List.getElem?_eq_getElem hlt, Option.map_some, Option.getD_some]
      exact (hr i hlt' hlt).2

/-- The same with the answer whether it is there. -/
theorem o_lookupOk {v kv zv : Value} {m : List (κ × β)} {k : κ} {zd : β} (ht : MapT P t kt et κ β) (ho : OwnMap I w A v m) (hs : St I w (A ++ T)) (hx : ev f x = v) (hy : ev f y = kv) (hk : rep I w kv k)
    (hz : (zeroValue et).run P w = .ok zv w) (hzr : rep I w zv zd)
    (h : ∀ u, rep I w u ((mget m k).getD zd) → WL P N ops R mo K os (put N f dst (.tuple #[u, .bool (mget m k).isSome])) w) : WL P N ops R mo K (⟨dst, .lookup t x y true, ty, pos, af, none⟩ :: os) f w := by
  obtain ⟨b, es, c, rfl, rfl, hf, hl, hr⟩ := ho.find ht hk
  have hg := getObj_own (P := P) hs
  have hc := ht.key.check I w kv k es.isEmpty hk
  rw [mget_idx] at h
  cases hi : (m.map (·.1)).findIdx? (· == k) with
  | none =>
    rw [hi] at hf h
    refine wl_val (v := .tuple #[zv, .bool false]) ?_ (h zv (by simpa using hzr))
    simp [execOp, Instr.lookup, run_underlying ht.und, hx, hy, hg, hc, hf, hz]
  | some i =>
    rw [hi] at hf h
    have hlt : i < m.length := by have := (List.findIdx?_eq_some_iff_getElem.1 hi).1; simpa using this
    have hlt' : i < es.toList.length := by omega
    rw [Option.bind_some, List.getElem?_eq_getElem hlt', Option.map_some] at hf
    simp only [Option.bind_some, List.getElem?_eq_getElem hlt, Option.map_some, Option.getD_some, Option.isSome_some] at h
    refine wl_val (v := .tuple #[es.toList[i].val, .bool true]) ?_ (h _ (hr i hlt' hlt).2)
    simp only [execOp, Instr.lookup]
    simp [run_underlying ht.und, hx, hy, hg, hc, hf]

theorem setObj_own {b c : Nat} {es : Array MapEntry} {o' : Obj} (hs : St I w ([(b, .map es c)] ++ T)) : ∃ w', (setObj b o').run P w = .ok () w' ∧ Ext I w I w' ∧ St I w' ([(b, o')] ++ T) := by
  have hh := hs.heap
  have hlt : b < w.heap.size := by
    rcases Nat.lt_or_ge b w.heap.size with h | h
    · exact h
    · rw [Array.getElem?_eq_none h] at hh; cases hh
  obtain ⟨e, s⟩ := hs.write (w' := { w with heap := w.heap.setIfInBounds b o' }) (o' := o') rfl rfl rfl (by simp) (by simp [hlt]) (fun c hc => by simp [Ne.symm hc])
  exact ⟨_, by simp [setObj, Sem.run, hh], e, s⟩

theorem o_mapSet {v kv uv : Value} {m : List (κ × β)} {k : κ} {u : β} (ht : MapT P t kt et κ β) (ho : OwnMap I w A v m) (hs : St I w (A ++ T)) (hx : ev f x = v) (hy : ev f y = kv) (hz : ev f z = uv) (hk : rep I w kv k) (hu : rep I w uv u)
    (h : ∀ A' w', Ext I w I w' → St I w' (A' ++ T) → OwnMap I w' A' v (mset m k u) → WL P N ops R false K os (put N f dst undef) w') : WL P N ops R false K (⟨dst, .mapUpdate t x y z, ty, pos, af, none⟩ :: os) f w := by
  obtain ⟨b, es, c, rfl, rfl, hf, hl, hr⟩ := ho.find ht hk
  have hg := getObj_own (P := P) hs
  have hc := ht.key.check I w kv k false hk
  rw [mset_idx] at h
  cases hi : (m.map (·.1)).findIdx? (· == k) with
  | none =>
    rw [hi] at hf h
    obtain ⟨w', h1, h2, h3⟩ := setObj_own (P := P) hs (o' := .map (es.push { key := kv, val := uv, born := c }) (c + 1))
    refine wl_unit ?_ (h _ w' h2 h3 ⟨_, _, _, rfl, rfl, by simp [hl], fun j hj hj' => ?_⟩)
    · simp only [execOp, Instr.mapUpdate]
      simp [run_underlying ht.und, hx, hy, hz, hg, hc, hf, h1]
    · simp only [Array.toList_push]
      by_cases hj2 : j < es.toList.length
      · rw [List.getElem_append_left hj2, List.getElem_append_left (by omega)]
        exact ⟨h2.rep (hr j hj2 (by omega)).1, h2.rep (hr j hj2 (by omega)).2⟩
      · rw [List.getElem_append_right (by omega), List.getElem_append_right (by omega)]
        simp only [List.getElem_singleton]
        exact ⟨h2.rep hk, h2.rep hu⟩
  | some i =>
    rw [hi] at hf h
    obtain ⟨hlt, hik, _⟩ := List.findIdx?_eq_some_iff_getElem.1 hi
    have hlt : i < m.length := by simpa using hlt
    have hlt' : i < es.toList.length := by omega
    have hsz : i < es.size := by simpa using hlt'
    have hkey : m[i].1 = k := by simpa using hik
    rw [Option.bind_some, List.getElem?_eq_getElem hlt', Option.map_some] at hf
    have hsame := ht.key.same I w es.toList[i].key kv k (hkey ▸ (hr i hlt' hlt).1) hk
    obtain ⟨w', h1, h2, h3⟩ := setObj_own (P := P) hs (o' := .map (es.modify i fun e => { e with key := kv, val := uv }) c)
    refine wl_unit ?_ (h _ w' h2 h3 ⟨_, _, _, rfl, rfl, by simp [hl], fun j hj hj' => ?_⟩)
    · have hsame' : Instr.sameBits 10000 es[i].key kv = true := by simpa using hsame
      simp only [execOp, Instr.mapUpdate]
      simp [run_underlying ht.und, hx, hy, hz, hg, hc, hf, hsz, Instr.keyThatStays, hsame', h1]
    · simp only [Array.toList_modify, List.length_modify] at hj hj'
      simp only [Array.toList_modify, List.getElem_modify]
      by_cases hji : i = j
      · subst hji
        simp only [if_true]
        exact ⟨h2.rep (hkey ▸ hk), h2.rep hu⟩
      · simp only [if_neg hji]
        exact ⟨h2.rep (hr j hj hj').1, h2.rep (hr j hj hj').2⟩

theorem o_mapDel {v kv : Value} {m : List (κ × β)} {k : κ} {at_ : Array TypeId} (ht : MapT P t kt et κ β) (ho : OwnMap I w A v m) (hs : St I w (A ++ T)) (hx : ev f x = v) (hy : ev f y = kv) (hk : rep I w kv k) (hat : at_[0]? = some t)
    (h : ∀ A' w', Ext I w I w' → St I w' (A' ++ T) → OwnMap I w' A' v (mdel m k) → WL P N ops R mo K os (put N f dst (.tuple #[])) w') : WL P N ops R mo K (⟨dst, .call ⟨.builtin .delete, #[x, y], at_⟩, ty, pos, af, none⟩ :: os) f w := by
  obtain ⟨b, es, c, rfl, rfl, hf, hl, hr⟩ := ho.find ht hk
  have hg := getObj_own (P := P) hs
  have hc := ht.key.check I w kv k es.isEmpty hk
  rw [mdel_idx] at h
  cases hi : (m.map (·.1)).findIdx? (· == k) with
  | none =>
    rw [hi] at hf h
    obtain ⟨w', h1, h2, h3⟩ := setObj_own (P := P) hs (o' := .map es c)
    refine wl_val (v := .tuple #[]) ?_ (h _ w' h2 h3 ⟨_, _, _, rfl, rfl, hl, fun j hj hj' => ⟨h2.rep (hr j hj hj').1, h2.rep (hr j hj hj').2⟩⟩)
    simp only [execOp, resolve, invoke, builtin, Builtin.delete_]
    simp [hat, run_underlying ht.und, hx, hy, hg, hc, hf, h1]
  | some i =>
    rw [hi] at hf h
    obtain ⟨hlt, hik, _⟩ := List.findIdx?_eq_some_iff_getElem.1 hi
    have hlt : i < m.length := by simpa using hlt
    have hlt' : i < es.toList.length := by omega
    rw [Option.bind_some, List.getElem?_eq_getElem hlt', Option.map_some] at hf
    obtain ⟨w', h1, h2, h3⟩ := setObj_own (P := P) hs (o' := .map (es.eraseIdxIfInBounds i) c)
    have htl : (es.eraseIdxIfInBounds i).toList = es.toList.eraseIdx i := by simp
    refine wl_val (v := .tuple #[]) ?_ (h _ w' h2 h3 ⟨_, _, _, rfl, rfl, by rw [htl, List.length_eraseIdx_of_lt hlt', List.length_eraseIdx_of_lt hlt, hl], fun j hj hj' => ?_⟩)
    · simp only [execOp, resolve, invoke, builtin, Builtin.delete_]
      simp [hat, run_underlying ht.und, hx, hy, hg, hc, hf, h1]
    · simp only [htl, List.getElem_eraseIdx]
      rw [htl, List.length_eraseIdx_of_lt hlt'] at hj
      split
      · exact ⟨h2.rep (hr j (by omega) (by omega)).1, h2.rep (hr j (by omega) (by omega)).2⟩
      · exact ⟨h2.rep (hr (j + 1) (by omega) (by omega)).1, h2.rep (hr (j + 1) (by omega) (by omega)).2⟩
end
end Go.X
