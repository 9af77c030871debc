/-
  The X layer, part a: a forward calculus over the kit's machine. 'WT' speaks of a call in the middle of its body: what is left to do, the frame as a list. One rule for each form of code; 'WL' runs a region's operations one by one.
-/
import Derived.WalkKit
import Derived.OrdersHeld
namespace Go.X
open Go Go.RowKit

abbrev U : Value := undef

abbrev Fr := Nat → Value

/-- The array a, of N slots, reads as f. -/
def Is (N : Nat) (a : Array Value) (f : Fr) : Prop := a.size = N ∧ ∀ i, a.getD i undef = f i

/-- From 'todo' left, the slots f (N of them) and the world w, the call of fn ends as R says. -/
def WT (P : Program) (fn : FuncId) (N : Nat) (todo : List Item) (R : Ending → World → Prop) (f : Fr) (w : World) : Prop :=
  ∀ (b : Frame) (cs : List Frame) (a : Array Value), Is N a f → b.fn = fn → b.kind = .normal → (∃ F, P.funcs[fn]? = some F) →
    ∃ e w' fr, R e w' ∧ Comes P (lone (b.at ⟨a, []⟩ todo) cs w) (lone fr cs w') e ∧ fr.fn = fn ∧ fr.leaving P w' e

variable {P : Program} {fn : FuncId} {N : Nat} {k : List Item} {R : Ending → World → Prop} {f : Fr} {w : World}

theorem wt_step {todo todo' : List Item} {w' : World}
    (hs : ∀ (b : Frame) (cs : List Frame) (a : Array Value), Is N a f → b.kind = .normal → step P (lone (b.at ⟨a, []⟩ todo) cs w) = .next (lone (b.at ⟨a, []⟩ todo') cs w'))
    (h : WT P fn N todo' R f w') : WT P fn N todo R f w := by
  intro b cs a ha hb hk hF
  obtain ⟨e, w₂, fr, hR, hc, h1, h2⟩ := h b cs a ha hb hk hF
  exact ⟨e, w₂, fr, hR, Comes.of_steps (.one (hs b cs a ha hk)) hc, h1, h2⟩

theorem wt_skip (h : WT P fn N k R f w) : WT P fn N (.code .skip :: k) R f w := wt_step (fun _ _ _ _ _ => step_skip) h
theorem wt_label {l : Nat} (h : WT P fn N k R f w) : WT P fn N (.code (.label l) :: k) R f w := wt_step (fun _ _ _ _ _ => step_label) h
theorem wt_inBlock {id : Nat} (h : WT P fn N k R f w) : WT P fn N (.inBlock id :: k) R f w := wt_step (fun _ _ _ _ _ => step_inBlock) h
theorem wt_seq {x y : Code} (h : WT P fn N (.code x :: .code y :: k) R f w) : WT P fn N (.code (.seq x y) :: k) R f w := wt_step (fun _ _ _ _ _ => step_seq) h
theorem wt_block {id : Nat} {c : Code} (h : WT P fn N (.code c :: .inBlock id :: k) R f w) : WT P fn N (.code (.block id c) :: k) R f w := wt_step (fun _ _ _ _ _ => step_block) h
theorem wt_exit {id : Nat} {k' : List Item} (hk : exitTo id k = some k') (h : WT P fn N k' R f w) : WT P fn N (.code (.exit id) :: k) R f w := wt_step (fun _ _ _ _ _ => step_exit hk) h
theorem wt_in {c : Code} (h : WT P fn N (.code c :: .inLoop c :: k) R f w) : WT P fn N (.inLoop c :: k) R f w := wt_step (fun _ _ _ _ _ => step_inLoop) h
theorem wt_body {c : Code} (h : WT P fn N (.code c :: .inLoop c :: k) R f w) : WT P fn N (.code (.loop c) :: k) R f w := wt_step (fun _ _ _ _ _ => step_loop) h

/-- Kept from simp. -/
def Hold (p : Prop) : Prop := p
theorem Hold.out {p : Prop} (h : Hold p) : p := h

/-- A loop: S n holds whenever its head is reached, with a number that goes down. -/
theorem wt_loop {c : Code} (S : Nat → Fr → World → Prop) (n : Nat) (h0 : S n f w)
    (round : ∀ n f w, S n f w → Hold (∀ m f' w', m < n → S m f' w' → WT P fn N (.inLoop c :: k) R f' w') → WT P fn N (.code c :: .inLoop c :: k) R f w) : WT P fn N (.code (.loop c) :: k) R f w := by
  have key : ∀ n f w, S n f w → WT P fn N (.code c :: .inLoop c :: k) R f w := by
    intro n
    induction n using Nat.strongRecOn with
    | _ n ih => exact fun f w hS => round n f w hS fun m f' w' hm hS' => wt_in (ih m hm f' w' hS')
  exact wt_body (key n f w h0)

def ev (f : Fr) : Operand → Value
  | .tmp t => f t
  | .const v => v
  | .global g => .pointer (some ⟨g, 0, none⟩)
  | .func f => .func (.func f) #[] #[]

def upd (N : Nat) (f : Fr) (d : Nat) (v : Value) : Fr := fun j => if j = d then (if d < N then v else undef) else f j

def put (N : Nat) (f : Fr) (dst : Option Tmp) (v : Value) : Fr :=
  match dst with
  | some d => upd N f d v
  | none => f

theorem eval_ev {a : Array Value} (ha : Is N a f) (x : Operand) : (Act.eval ⟨a, []⟩) x = ev f x := by
  cases x with
  | tmp t => exact ha.2 t
  | const v => rfl
  | global g => rfl
  | func g => rfl

theorem eval_ev' {a : Array Value} (ha : Is N a f) : (Act.eval ⟨a, []⟩) = ev f := funext (eval_ev ha)

theorem Is.put {a : Array Value} (ha : Is N a f) (d : Option Tmp) (v : Value) : ∃ a', (Act.put ⟨a, []⟩ d v) = ⟨a', []⟩ ∧ Is N a' (put N f d v) := by
  cases d with
  | none => exact ⟨a, rfl, ha⟩
  | some d =>
    refine ⟨_, rfl, by simp [ha.1], fun i => ?_⟩
    have hi := ha.2 i
    have hs := ha.1
    simp only [Array.getD_eq_getD_getElem?] at hi ⊢
    show _ = upd N f d v i
    unfold upd
    by_cases h : i = d
    · subst h
      simp only [if_true]
      by_cases hN : i < N
      · rw [Array.getElem?_setIfInBounds_self_of_lt (by omega)]; simp [hN]
      · rw [Array.getElem?_eq_none (by simp; omega)]; simp [hN]
    · rw [Array.getElem?_setIfInBounds_ne (Ne.symm h)]; simp [h, hi]

/-- Slots that are named, over a frame of which nothing else is said. -/
def ov : List (Nat × Value) → Fr → Fr
  | [], g => g
  | (i, v) :: l, g => fun j => if j = i then v else ov l g j

def Alls (g : Fr) : List (Nat × Value) → Prop
  | [] => True
  | (i, v) :: l => g i = v ∧ Alls g l

theorem ov_self : ∀ (l : List (Nat × Value)) (g : Fr), Alls g l → g = ov l g
  | [], _, _ => rfl
  | (i, v) :: l, g, h => by
    have ih := ov_self l g h.2
    funext j
    show g j = if j = i then v else ov l g j
    split
    · rename_i e; subst e; exact h.1
    · rw [← ih]

theorem wt_cond {c : Operand} {x y : Code} {t : Bool} (hc : ev f c = .bool t) (ht : t = true → WT P fn N (.code x :: k) R f w) (hf : t = false → WT P fn N (.code y :: k) R f w) :
    WT P fn N (.code (.cond c x y) :: k) R f w := by
  cases t
  · exact wt_step (fun _ _ _ ha _ => step_cond (t := false) (by rw [eval_ev ha]; exact hc)) (hf rfl)
  · exact wt_step (fun _ _ _ ha _ => step_cond (t := true) (by rw [eval_ev ha]; exact hc)) (ht rfl)
theorem wt_true {c : Operand} {x y : Code} (hc : ev f c = .bool true) (h : WT P fn N (.code x :: k) R f w) : WT P fn N (.code (.cond c x y) :: k) R f w := wt_cond hc (fun _ => h) (by simp)
theorem wt_false {c : Operand} {x y : Code} (hc : ev f c = .bool false) (h : WT P fn N (.code y :: k) R f w) : WT P fn N (.code (.cond c x y) :: k) R f w := wt_cond hc (by simp) (fun _ => h)

theorem wt_ret {F : Func} {v : Value} (hf : P.funcs[fn]? = some F) (hr : ∀ a, Is N a f → (results F a).run P w = .ok v w) (h : R (.returned v) w) : WT P fn N (.code .ret :: k) R f w := by
  intro b cs a ha hb hk _
  exact ⟨.returned v, w, _, h, .one step_ret, hb, rfl, rfl, hk, F, by simpa [Frame.at, hb] using hf, hr a ha⟩

theorem wt_end {F : Func} {v : Value} (hf : P.funcs[fn]? = some F) (hr : ∀ a, Is N a f → (results F a).run P w = .ok v w) (h : R (.returned v) w) : WT P fn N [] R f w := by
  intro b cs a ha hb hk _
  exact ⟨.returned v, w, _, h, .one step_end, hb, rfl, rfl, hk, F, by simpa [Frame.at, hb] using hf, hr a ha⟩

/-- How a piece of code may end, for 'WT'. -/
def Qx (P : Program) (fn : FuncId) (N : Nat) (k : List Item) (R : Ending → World → Prop) : Exit → Act → World → Prop
  | .normal, a, w => a.defers = [] ∧ ∃ f, Is N a.tmps f ∧ WT P fn N k R f w
  | .panic ch, a, w => a.defers = [] ∧ R (.panicked ch) w
  | _, _, _ => False

theorem wt_of_wp {c : Code} (h : ∀ a, Is N a f → c.wp P (Qx P fn N k R) ⟨a, []⟩ w) : WT P fn N (.code c :: k) R f w := by
  intro b cs a ha hb hk hF
  obtain ⟨e, a', w', hq, harr⟩ := h a ha b k cs
  cases e with
  | normal =>
    obtain ⟨hd, f', hf', hw⟩ := hq
    obtain ⟨t, d⟩ := a'
    simp only at hd; subst hd
    obtain ⟨e, w₂, fr, hR, hc, h1, h2⟩ := hw b cs t hf' hb hk hF
    exact ⟨e, w₂, fr, hR, Comes.of_steps harr hc, h1, h2⟩
  | panic ch =>
    obtain ⟨hd, hR⟩ := hq
    obtain ⟨t, d⟩ := a'
    simp only at hd; subst hd
    obtain ⟨todo, hs⟩ := harr
    obtain ⟨F, hF⟩ := hF
    exact ⟨.panicked ch, w', _, hR, hs, hb, rfl, rfl, F, by simpa [Frame.at, hb] using hF⟩
  | exit id => exact hq.elim
  | goto l => exact hq.elim
  | ret => exact hq.elim
  | outgrown => exact hq.elim

/-- What an operation's outcome must meet; m: it must be a value. -/
def UP (P : Program) (R : Ending → World → Prop) (m : Bool) (next : Value → World → Prop) : Result Next → Prop
  | .ok (.value v) w => next v w
  | .ok .skip w => m = false ∧ next undef w
  | .ok (.enter g args) w => m = false ∧ Calls P g args w fun e w' => match e with
    | .returned v => next v w'
    | .panicked ch => R (.panicked ch) w'
    | .outgrown => False
  | .halt (.panic v) w => m = false ∧ R (.panicked [{ v, recovered := false }]) w
  | _ => False

/-- What the guards ask: the truth value that operation j has left. -/
def yl (ops : Array Oper) (f : Fr) (j : Nat) : Option Bool :=
  match (ops[j]?).bind (·.dst) with
  | some d => match f d with
    | .bool b => some b
    | _ => none
  | none => none

theorem yl_eq {ops : Array Oper} {a : Array Value} (ha : Is N a f) : yielded ops a = yl ops f := by
  funext j
  unfold yielded yl
  cases hd : (ops[j]?).bind (·.dst) with
  | none => rfl
  | some d =>
    have := ha.2 d
    simp only [Option.bind_some]
    rw [← this, Array.getD_eq_getD_getElem?]
    cases h : a[d]? with
    | none => rfl
    | some v => cases v <;> rfl

/-- A region's operations, one after the other; K is asked of the slots and the world behind them. -/
def WL (P : Program) (N : Nat) (ops : Array Oper) (R : Ending → World → Prop) (m : Bool) (K : Fr → World → Prop) : List Oper → Fr → World → Prop
  | [], f, w => K f w
  | o :: os, f, w =>
    if Region.wanted o (yl ops f) then UP P R m (fun v w' => WL P N ops R m K os (put N f o.dst v) w') ((execOp (ev f) o).run P w)
    else WL P N ops R m K os (put N f o.dst undef) w

theorem upon_of_UP {o : Oper} {a : Array Value} {K' : Act → World → Prop} {next : Value → World → Prop} (hn : ∀ v w', next v w' → K' (Act.put ⟨a, []⟩ o.dst v) w') (r : Result Next) (h : UP P R false next r) :
    o.upon P ⟨a, []⟩ K' (Qx P fn N k R) r := by
  cases r with
  | ok nx w' =>
    cases nx with
    | value v => exact hn _ _ h
    | skip => exact hn _ _ h.2
    | enter g args =>
      refine Calls.mono h.2 fun e w'' => ?_
      cases e with
      | returned v => exact hn _ _
      | panicked ch => exact fun h => ⟨rfl, h⟩
      | outgrown => exact fun h => h.elim
    | _ => exact False.elim h
  | halt x w' =>
    cases x with
    | panic v => exact ⟨rfl, h.2⟩
    | _ => exact False.elim h

theorem wpOps_of_WL {ops : Array Oper} : ∀ (os : List Oper) (l : List Nat) (f : Fr) (w : World) (a : Array Value), Is N a f → l.map (ops[·]?) = os.map some → WL P N ops R false (WT P fn N k R) os f w →
    wpOps P ops (Qx P fn N k R) l ⟨a, []⟩ w
  | [], [], f, w, a, ha, _, h => by exact ⟨rfl, f, ha, h⟩
  | [], _ :: _, _, _, _, _, hl, _ => by simp at hl
  | _ :: _, [], _, _, _, _, hl, _ => by simp at hl
  | o :: os, i :: l, f, w, a, ha, hl, h => by
    simp only [List.map_cons, List.cons.injEq] at hl
    obtain ⟨ho, hl⟩ := hl
    simp only [wpOps, ho]
    simp only [WL] at h
    rw [yl_eq ha]
    have next : ∀ v w', WL P N ops R false (WT P fn N k R) os (put N f o.dst v) w' → wpOps P ops (Qx P fn N k R) l (Act.put ⟨a, []⟩ o.dst v) w' := fun v w' h' => by
      obtain ⟨a', h1, h2⟩ := ha.put o.dst v
      rw [h1]; exact wpOps_of_WL os l _ _ _ h2 hl h'
    split at h
    · rename_i hw
      simp only [hw, if_true]
      refine .inl ?_
      simp only [Oper.wp, eval_ev' ha]
      exact upon_of_UP next _ h
    · rename_i hw
      simp only [hw, if_false, Bool.false_eq_true]
      exact next _ _ h

theorem range_map_get (ops : Array Oper) : (List.range ops.size).map (ops[·]?) = ops.toList.map some := by
  apply List.ext_getElem
  · simp
  · intro i h1 h2
    simp at h1
    simp [h1]

theorem wt_region {id : Nat} {ops : Array Oper} (h : WL P N ops R false (WT P fn N k R) ops.toList f w) : WT P fn N (.code (.region id ops false) :: k) R f w :=
  wt_of_wp fun a ha => wp_region (wpOps_of_WL _ _ _ _ a ha (range_map_get ops) h)

/-- The slots when the body begins. -/
def fr0 : List Value → Fr
  | [] => fun _ => undef
  | v :: vs => fun
    | 0 => v
    | j + 1 => fr0 vs j

theorem fr0_get : ∀ (vs : List Value) (i : Nat), (vs[i]?).getD undef = fr0 vs i
  | [], i => by simp [fr0]
  | v :: vs, 0 => rfl
  | v :: vs, i + 1 => fr0_get vs i

theorem calls_of_wt {F : Func} {c : Code} {vs : List Value} (hf : P.funcs[fn]? = some F) (hb : F.body = some c) (hn : F.ntmps = N) (hv : vs.length ≤ N)
    (h : WT P fn N [.code c] R (fr0 vs) w) : Calls P fn ⟨vs⟩ w R := by
  intro cs
  let b : Frame := { (default : Frame) with fn := fn, kind := .normal }
  have henter : Frame.enter P fn ⟨vs⟩ .normal = b.at ⟨(vs ++ List.replicate (N - vs.length) undef).toArray, []⟩ [.code c] := by
    simp [Frame.enter, Frame.at, hf, hb, hn, b]
  obtain ⟨e, w', fr, hR, hc, h1, h2⟩ := h b cs (vs ++ List.replicate (N - vs.length) undef).toArray ⟨by simp; omega, fun i => by
    rw [← fr0_get, Array.getD_eq_getD_getElem?, List.getElem?_toArray]
    by_cases hi : i < vs.length
    · rw [List.getElem?_append_left hi]
    · rw [List.getElem?_append_right (by omega), List.getElem?_eq_none (l := vs) (by omega), List.getElem?_replicate]; split <;> rfl⟩ rfl rfl ⟨F, hf⟩
  rw [← henter] at hc
  exact ⟨e, w', fr, hR, hc, h1, h2⟩

/-! A region that draws its order -/

/-- What is left of a region when some operations have come up: whichever comes up next. S holds of the world all the way. -/
def WG (P : Program) (fn : FuncId) (N : Nat) (ops : Array Oper) (k : List Item) (R : Ending → World → Prop) (S : World → Prop) (n : Nat) (l : Array Bool) (f : Fr) (w : World) : Prop :=
  ∀ a, Is N a f → wpAnyH P .any ops (Qx P fn N k R) S n l ⟨a, []⟩ w

variable {ops : Array Oper} {S : World → Prop} {n : Nat} {l : Array Bool}

theorem wt_draw {id m : Nat} {l : Array Bool} (S : World → Prop) (hm : P.follows .mixedOrders = true) (hn : ops.size = m) (hl : Array.replicate m false = l) (h : WG P fn N ops k R S m l f { w with drawn := w.drawn + 1 }) : WT P fn N (.code (.region id ops true) :: k) R f w :=
  wt_of_wp fun a ha => wp_region_held hm (S := S) (by subst hn hl; exact h a ha)

theorem g_done (hr : Region.ready .any ops l = []) (h : WT P fn N k R f w) : WG P fn N ops k R S n l f w := fun a ha => wpAnyH_done hr ⟨rfl, f, ha, h⟩ n

theorem g_take {i : Nat} {o : Oper} {v : Value} {l' : Array Bool} (hi : ops[i]? = some o) (hb : (Region.noSelect ops && Region.free .any ops l i && (Region.ready .any ops l).contains i) = true) (hl : l.setIfInBounds i true = l')
    (hy : (Region.wanted o (yl ops f) = true ∧ ∀ w, S w → (execOp (ev f) o).run P w = .ok (.value v) w) ∨ (Region.wanted o (yl ops f) = false ∧ v = undef)) (hS : S w)
    (h : WG P fn N ops k R S n l' (put N f o.dst v) w) : WG P fn N ops k R S (n + 1) l f w := by
  intro a ha
  simp only [Bool.and_eq_true] at hb
  obtain ⟨a', e1, h1⟩ := ha.put o.dst v
  refine wpAnyH_take hi hb.1.1 hb.1.2 hb.2 (fun c a w hq => ?_) (v := v) ?_ hS ?_
  · cases ho : o.dst <;> simpa [Qx, Act.put, ho] using hq
  · unfold YieldsIf
    rw [yl_eq ha, eval_ev' ha]; exact hy
  · rw [e1]; subst hl; exact h a' h1

theorem UP_true {next : Value → World → Prop} (r : Result Next) (h : UP P R true next r) : ∃ v w', r = .ok (.value v) w' ∧ next v w' := by
  cases r with
  | ok nx w' =>
    cases nx with
    | value v => exact ⟨v, w', rfl, h⟩
    | skip => exact absurd h.1 (by decide)
    | enter g args => exact absurd h.1 (by decide)
    | _ => exact False.elim h
  | halt x w' =>
    cases x with
    | panic v => exact absurd h.1 (by decide)
    | _ => exact False.elim h

/-- An operation that yields a value and leaves the world alone, in every world that S speaks of, is taken first. -/
theorem g_op {i d : Nat} {o : Oper} {l' : Array Bool} {f2 : Fr} (hi : ops[i]? = some o) (hd : o.dst = some d) (hN : Nat.blt d N = true) (hb : (Region.noSelect ops && Region.free .any ops l i && (Region.ready .any ops l).contains i) = true) (hl : l.setIfInBounds i true = l') (hS : S w)
    (h1 : ∀ w, S w → WL P N ops (fun _ _ => False) true (fun f' w' => f' = f2 ∧ w' = w) [o] f w) (h : WG P fn N ops k R S n l' f2 w) : WG P fn N ops k R S (n + 1) l f w := by
  have hdN : d < N := by simpa [Nat.blt_eq] using hN
  have self : ∀ v, put N f o.dst v d = v := fun v => by rw [hd]; simp [put, upd, hdN]
  by_cases hw : Region.wanted o (yl ops f) = true
  · have key : ∀ w', S w' → (execOp (ev f) o).run P w' = .ok (.value (f2 d)) w' ∧ put N f o.dst (f2 d) = f2 := fun w' hw' => by
      have := h1 w' hw'
      simp only [WL, hw, if_true] at this
      obtain ⟨v, w2, hr, e1, e2⟩ := UP_true _ this
      have hv : f2 d = v := by rw [← e1, self]
      rw [hr, hv, e2]; exact ⟨rfl, e1⟩
    exact g_take (v := f2 d) hi hb hl (.inl ⟨hw, fun w' hw' => (key w' hw').1⟩) hS (by rw [(key w hS).2]; exact h)
  · have := h1 w hS
    simp only [WL, hw, if_false, Bool.false_eq_true] at this
    refine g_take (v := undef) hi hb hl (.inr ⟨by simpa using hw, rfl⟩) hS (by rw [this.1]; exact h)

theorem wpOp_of_WL {i : Nat} {o : Oper} {K : Fr → World → Prop} {K' : Act → World → Prop} {a : Array Value} (ha : Is N a f) (hi : ops[i]? = some o) (hK : ∀ f' w' a', Is N a' f' → K f' w' → K' ⟨a', []⟩ w') (h : WL P N ops R false K [o] f w) :
    wpOp P ops (Qx P fn N k R) i K' ⟨a, []⟩ w := by
  unfold wpOp
  simp only [hi]
  simp only [WL] at h
  rw [yl_eq ha]
  have next : ∀ v w', K (put N f o.dst v) w' → K' (Act.put ⟨a, []⟩ o.dst v) w' := fun v w' h' => by
    obtain ⟨a', h1, h2⟩ := ha.put o.dst v
    rw [h1]; exact hK _ _ _ h2 h'
  split at h
  · rename_i hw
    simp only [hw, if_true]
    refine .inl ?_
    simp only [Oper.wp, eval_ev' ha]
    exact upon_of_UP next _ h
  · rename_i hw
    simp only [hw, if_false, Bool.false_eq_true]
    exact next _ _ h

/-- Only one operation can come up. -/
theorem g_one {i : Nat} {o : Oper} {l' : Array Bool} (hi : ops[i]? = some o) (hr : Region.ready .any ops l = [i]) (hl : l.setIfInBounds i true = l')
    (h : WL P N ops R false (fun f' w' => S w' ∧ WG P fn N ops k R S n l' f' w') [o] f w) : WG P fn N ops k R S (n + 1) l f w := by
  intro a ha
  refine wpAnyH_all hr (by simp) fun j hj => ?_
  obtain rfl : j = i := by simpa using hj
  exact wpOp_of_WL ha hi (fun f' w' a' h1 h2 => ⟨h2.1, by subst hl; exact h2.2 a' h1⟩) h

/-- One of two comes up. -/
theorem g_two {i i' : Nat} {o o' : Oper} {l1 l2 : Array Bool} (hi : ops[i]? = some o) (hi' : ops[i']? = some o') (hr : Region.ready .any ops l = [i, i']) (hl : l.setIfInBounds i true = l1) (hl' : l.setIfInBounds i' true = l2)
    (h : WL P N ops R false (fun f' w' => S w' ∧ WG P fn N ops k R S n l1 f' w') [o] f w) (h' : WL P N ops R false (fun f' w' => S w' ∧ WG P fn N ops k R S n l2 f' w') [o'] f w) : WG P fn N ops k R S (n + 1) l f w := by
  intro a ha
  refine wpAnyH_all hr (by simp) fun j hj => ?_
  rcases (by simpa using hj : j = i ∨ j = i') with rfl | rfl
  · exact wpOp_of_WL ha hi (fun f' w' a' h1 h2 => ⟨h2.1, by subst hl; exact h2.2 a' h1⟩) h
  · exact wpOp_of_WL ha hi' (fun f' w' a' h1 h2 => ⟨h2.1, by subst hl'; exact h2.2 a' h1⟩) h'

end Go.X
