/-
  The X layer, part c: one rule for each operation on plain values, on slices and structs that are only read, and on calls.
-/
import Derived.Test.Ytinfniggaldheabb
namespace Go.X
open Go Go.RowKit

section
variable {P : Program} {N : Nat} {ops : Array Oper} {R : Ending → World → Prop} {m : Bool} {K : Fr → World → Prop} {os : List Oper} {f : Fr} {w : World}
variable {dst : Option Tmp} {ty : TypeId} {pos : String} {af : Array Edge}

theorem wl_nil (h : K f w) : WL P N ops R m K [] f w := h

theorem wl_val {op : Op} {v : Value} {w' : World} (hr : (execOp (ev f) ⟨dst, op, ty, pos, af, none⟩).run P w = .ok (.value v) w') (h : WL P N ops R m K os (put N f dst v) w') :
    WL P N ops R m K (⟨dst, op, ty, pos, af, none⟩ :: os) f w := by
  simp only [WL, Region.wanted, if_true, hr, UP]; exact h

theorem wl_unit {op : Op} {w' : World} (hr : (execOp (ev f) ⟨dst, op, ty, pos, af, none⟩).run P w = .ok .skip w') (h : WL P N ops R false K os (put N f dst undef) w') :
    WL P N ops R false K (⟨dst, op, ty, pos, af, none⟩ :: os) f w := by
  simp only [WL, Region.wanted, if_true, hr, UP]; exact ⟨trivial, h⟩

/-- The guard says yes. -/
theorem wl_yes {op : Op} {g : Nat × Bool} (hg : Region.wanted ⟨dst, op, ty, pos, af, some g⟩ (yl ops f) = true) (h : WL P N ops R m K (⟨dst, op, ty, pos, af, none⟩ :: os) f w) :
    WL P N ops R m K (⟨dst, op, ty, pos, af, some g⟩ :: os) f w := by
  simp only [WL, Region.wanted, if_true] at h
  simp only [WL, hg, if_true]
  exact h

/-- The guard says no. -/
theorem wl_no {o : Oper} (hg : Region.wanted o (yl ops f) = false) (h : WL P N ops R m K os (put N f o.dst undef) w) : WL P N ops R m K (o :: os) f w := by
  simp only [WL, hg, Bool.false_eq_true, if_false]; exact h

theorem o_move {x : Operand} (h : WL P N ops R m K os (put N f dst (ev f x)) w) : WL P N ops R m K (⟨dst, .move x, ty, pos, af, none⟩ :: os) f w := wl_val rfl h
theorem o_assign {x : Operand} (h : WL P N ops R m K os (put N f dst (ev f x)) w) : WL P N ops R m K (⟨dst, .assign x, ty, pos, af, none⟩ :: os) f w := wl_val rfl h
theorem o_mov {x : Operand} (v : Value) (hx : ev f x = v) (h : WL P N ops R m K os (put N f dst v) w) : WL P N ops R m K (⟨dst, .move x, ty, pos, af, none⟩ :: os) f w := o_move (hx ▸ h)
theorem o_asg {x : Operand} (v : Value) (hx : ev f x = v) (h : WL P N ops R m K os (put N f dst v) w) : WL P N ops R m K (⟨dst, .assign x, ty, pos, af, none⟩ :: os) f w := o_assign (hx ▸ h)
theorem o_pickt {c a b : Operand} (v : Value) (hc : ev f c = .bool true) (hx : ev f a = v) (h : WL P N ops R m K os (put N f dst v) w) : WL P N ops R m K (⟨dst, .pick c a b, ty, pos, af, none⟩ :: os) f w :=
  wl_val (by simp [execOp, hc, asBool, hx]) h
theorem o_pickf {c a b : Operand} (v : Value) (hc : ev f c = .bool false) (hx : ev f b = v) (h : WL P N ops R m K os (put N f dst v) w) : WL P N ops R m K (⟨dst, .pick c a b, ty, pos, af, none⟩ :: os) f w :=
  wl_val (by simp [execOp, hc, asBool, hx]) h
theorem o_pick1 {c a b : Operand} (hc : ev f c = .bool true) (h : WL P N ops R m K os (put N f dst (ev f a)) w) : WL P N ops R m K (⟨dst, .pick c a b, ty, pos, af, none⟩ :: os) f w :=
  wl_val (by simp [execOp, hc, asBool]) h
theorem o_pick0 {c a b : Operand} (hc : ev f c = .bool false) (h : WL P N ops R m K os (put N f dst (ev f b)) w) : WL P N ops R m K (⟨dst, .pick c a b, ty, pos, af, none⟩ :: os) f w :=
  wl_val (by simp [execOp, hc, asBool]) h

variable {x y : Operand} {kd : IntKind} {a b : Int} {t u : TypeId}

theorem guard_int {op : BinOp} (w : World) : (eqGuard op t x y (.int kd a) (.int kd b)).run P w = .ok () w := by
  simp only [eqGuard]; cases op <;> simp

theorem o_bin {op : BinOp} {v : Value} (hx : ev f x = .int kd a) (hy : ev f y = .int kd b) (hv : (binOp op t (.int kd a) (.int kd b)).run P w = .ok v w) (h : WL P N ops R m K os (put N f dst v) w) :
    WL P N ops R m K (⟨dst, .binOp op t x y u, ty, pos, af, none⟩ :: os) f w :=
  wl_val (by simp only [execOp, hx, hy, Sem.run_bind, guard_int, Result.andThen_ok, hv, Sem.run_pure]) h

theorem o_add (hx : ev f x = .int kd a) (hy : ev f y = .int kd b) (h : WL P N ops R m K os (put N f dst (.int kd (kd.wrap (a + b)))) w) :
    WL P N ops R m K (⟨dst, .binOp .add t x y u, ty, pos, af, none⟩ :: os) f w := o_bin hx hy (by simp [binOp, Op.intArith]) h
theorem o_sub (hx : ev f x = .int kd a) (hy : ev f y = .int kd b) (h : WL P N ops R m K os (put N f dst (.int kd (kd.wrap (a - b)))) w) :
    WL P N ops R m K (⟨dst, .binOp .sub t x y u, ty, pos, af, none⟩ :: os) f w := o_bin hx hy (by simp [binOp, Op.intArith]) h
theorem o_mul (hx : ev f x = .int kd a) (hy : ev f y = .int kd b) (h : WL P N ops R m K os (put N f dst (.int kd (kd.wrap (a * b)))) w) :
    WL P N ops R m K (⟨dst, .binOp .mul t x y u, ty, pos, af, none⟩ :: os) f w := o_bin hx hy (by simp [binOp, Op.intArith]) h

theorem wrap_in {n : Int} (h1 : -9223372036854775808 ≤ n) (h2 : n ≤ 9223372036854775807) : IntKind.i64.wrap n = n := IntWalk.i64_in _ ⟨h1, h2⟩

theorem o_addi (hx : ev f x = .int .i64 a) (hy : ev f y = .int .i64 b) (hb : -9223372036854775808 ≤ a + b ∧ a + b ≤ 9223372036854775807) (h : WL P N ops R m K os (put N f dst (.int .i64 (a + b))) w) :
    WL P N ops R m K (⟨dst, .binOp .add t x y u, ty, pos, af, none⟩ :: os) f w := o_add hx hy (by rw [wrap_in hb.1 hb.2]; exact h)
theorem o_subi (hx : ev f x = .int .i64 a) (hy : ev f y = .int .i64 b) (hb : -9223372036854775808 ≤ a - b ∧ a - b ≤ 9223372036854775807) (h : WL P N ops R m K os (put N f dst (.int .i64 (a - b))) w) :
    WL P N ops R m K (⟨dst, .binOp .sub t x y u, ty, pos, af, none⟩ :: os) f w := o_sub hx hy (by rw [wrap_in hb.1 hb.2]; exact h)
theorem o_muli (hx : ev f x = .int .i64 a) (hy : ev f y = .int .i64 b) (hb : -9223372036854775808 ≤ a * b ∧ a * b ≤ 9223372036854775807) (h : WL P N ops R m K os (put N f dst (.int .i64 (a * b))) w) :
    WL P N ops R m K (⟨dst, .binOp .mul t x y u, ty, pos, af, none⟩ :: os) f w := o_mul hx hy (by rw [wrap_in hb.1 hb.2]; exact h)

/-- The proposition that a comparison of integers asks. -/
def cmpP : BinOp → Int → Int → Prop
  | .eql, a, b => a = b
  | .neq, a, b => a ≠ b
  | .lss, a, b => a < b
  | .leq, a, b => a ≤ b
  | .gtr, a, b => b < a
  | .geq, a, b => b ≤ a
  | _, _, _ => False
instance (op : BinOp) (a b : Int) : Decidable (cmpP op a b) := by cases op <;> simp only [cmpP] <;> infer_instance
def isCmp : BinOp → Bool
  | .eql | .neq | .lss | .leq | .gtr | .geq => true
  | _ => false

theorem run_cmp {op : BinOp} (ho : isCmp op = true) : (binOp op t (.int kd a) (.int kd b)).run P w = .ok (.bool (decide (cmpP op a b))) w := by
  cases op <;> first | (simp [isCmp] at ho; done) | skip
  all_goals simp only [binOp, Op.intCmp, cmpP, ne_eq, not_true_eq_false, if_false, Sem.run_pure]
  all_goals first | rfl | (congr 2; rw [Bool.eq_iff_iff]; exact ⟨fun h => decide_eq_true (by simpa using h), fun h => by simpa using of_decide_eq_true h⟩)

/-- A comparison whose outcome is kept as a value. -/
theorem o_cmpv {op : BinOp} (ho : isCmp op = true) (hx : ev f x = .int kd a) (hy : ev f y = .int kd b) (h : WL P N ops R m K os (put N f dst (.bool (decide (cmpP op a b)))) w) :
    WL P N ops R m K (⟨dst, .binOp op t x y u, ty, pos, af, none⟩ :: os) f w := o_bin hx hy (run_cmp ho) h

/-- A comparison that parts the ways. -/
theorem o_cmp {op : BinOp} (ho : isCmp op = true) (hx : ev f x = .int kd a) (hy : ev f y = .int kd b) (h1 : cmpP op a b → WL P N ops R m K os (put N f dst (.bool true)) w)
    (h0 : ¬ cmpP op a b → WL P N ops R m K os (put N f dst (.bool false)) w) : WL P N ops R m K (⟨dst, .binOp op t x y u, ty, pos, af, none⟩ :: os) f w := by
  refine o_cmpv ho hx hy ?_
  by_cases hc : cmpP op a b
  · simpa only [hc, decide_true] using h1 hc
  · simpa only [hc, decide_false] using h0 hc

section
variable (hx : ev f x = .int kd a) (hy : ev f y = .int kd b)
include hx hy
theorem o_lss (h1 : a < b → WL P N ops R m K os (put N f dst (.bool true)) w) (h0 : ¬ a < b → WL P N ops R m K os (put N f dst (.bool false)) w) : WL P N ops R m K (⟨dst, .binOp .lss t x y u, ty, pos, af, none⟩ :: os) f w := o_cmp rfl hx hy h1 h0
theorem o_leq (h1 : a ≤ b → WL P N ops R m K os (put N f dst (.bool true)) w) (h0 : ¬ a ≤ b → WL P N ops R m K os (put N f dst (.bool false)) w) : WL P N ops R m K (⟨dst, .binOp .leq t x y u, ty, pos, af, none⟩ :: os) f w := o_cmp rfl hx hy h1 h0
theorem o_gtr (h1 : b < a → WL P N ops R m K os (put N f dst (.bool true)) w) (h0 : ¬ b < a → WL P N ops R m K os (put N f dst (.bool false)) w) : WL P N ops R m K (⟨dst, .binOp .gtr t x y u, ty, pos, af, none⟩ :: os) f w := o_cmp rfl hx hy h1 h0
theorem o_geq (h1 : b ≤ a → WL P N ops R m K os (put N f dst (.bool true)) w) (h0 : ¬ b ≤ a → WL P N ops R m K os (put N f dst (.bool false)) w) : WL P N ops R m K (⟨dst, .binOp .geq t x y u, ty, pos, af, none⟩ :: os) f w := o_cmp rfl hx hy h1 h0
theorem o_eql (h1 : a = b → WL P N ops R m K os (put N f dst (.bool true)) w) (h0 : ¬ a = b → WL P N ops R m K os (put N f dst (.bool false)) w) : WL P N ops R m K (⟨dst, .binOp .eql t x y u, ty, pos, af, none⟩ :: os) f w := o_cmp rfl hx hy h1 h0
theorem o_neq (h1 : ¬ a = b → WL P N ops R m K os (put N f dst (.bool true)) w) (h0 : a = b → WL P N ops R m K os (put N f dst (.bool false)) w) : WL P N ops R m K (⟨dst, .binOp .neq t x y u, ty, pos, af, none⟩ :: os) f w := o_cmp rfl hx hy h1 (fun h => h0 (Decidable.of_not_not h))
theorem o_lssv (h : WL P N ops R m K os (put N f dst (.bool (decide (a < b)))) w) : WL P N ops R m K (⟨dst, .binOp .lss t x y u, ty, pos, af, none⟩ :: os) f w := o_lss hx hy (fun c => by simpa only [c, decide_true] using h) (fun c => by simpa only [c, decide_false] using h)
theorem o_leqv (h : WL P N ops R m K os (put N f dst (.bool (decide (a ≤ b)))) w) : WL P N ops R m K (⟨dst, .binOp .leq t x y u, ty, pos, af, none⟩ :: os) f w := o_leq hx hy (fun c => by simpa only [c, decide_true] using h) (fun c => by simpa only [c, decide_false] using h)
theorem o_gtrv (h : WL P N ops R m K os (put N f dst (.bool (decide (b < a)))) w) : WL P N ops R m K (⟨dst, .binOp .gtr t x y u, ty, pos, af, none⟩ :: os) f w := o_gtr hx hy (fun c => by simpa only [c, decide_true] using h) (fun c => by simpa only [c, decide_false] using h)
theorem o_geqv (h : WL P N ops R m K os (put N f dst (.bool (decide (b ≤ a)))) w) : WL P N ops R m K (⟨dst, .binOp .geq t x y u, ty, pos, af, none⟩ :: os) f w := o_geq hx hy (fun c => by simpa only [c, decide_true] using h) (fun c => by simpa only [c, decide_false] using h)
theorem o_eqlv (h : WL P N ops R m K os (put N f dst (.bool (decide (a = b)))) w) : WL P N ops R m K (⟨dst, .binOp .eql t x y u, ty, pos, af, none⟩ :: os) f w := o_eql hx hy (fun c => by simpa only [c, decide_true] using h) (fun c => by simpa only [c, decide_false] using h)
theorem o_neqv (h : WL P N ops R m K os (put N f dst (.bool (!decide (a = b)))) w) : WL P N ops R m K (⟨dst, .binOp .neq t x y u, ty, pos, af, none⟩ :: os) f w := o_neq hx hy (fun c => by simpa only [c, decide_false, Bool.not_false] using h) (fun c => by simpa only [c, decide_true, Bool.not_true] using h)
end

/-- A Boolean in a slot parts the ways. -/
theorem wl_caseb {d : Nat} {c : Bool} (hd : Nat.blt d N = true) (hf : f d = .bool c) (h1 : c = true → WL P N ops R m K os (upd N f d (.bool true)) w) (h0 : c = false → WL P N ops R m K os (upd N f d (.bool false)) w) : WL P N ops R m K os f w := by
  have key : ∀ e, e = c → f = upd N f d (.bool e) := fun e he => by
    subst he; funext j; unfold upd; split
    · rename_i hj; subst hj; rw [if_pos (by simpa [Nat.blt_eq] using hd), hf]
    · rfl
  cases c
  · have := h0 rfl; rwa [← key false rfl] at this
  · have := h1 rfl; rwa [← key true rfl] at this

theorem wt_caseb {fn : FuncId} {k : List Item} {d : Nat} {c : Bool} (hd : Nat.blt d N = true) (hf : f d = .bool c) (h1 : c = true → WT P fn N k R (upd N f d (.bool true)) w) (h0 : c = false → WT P fn N k R (upd N f d (.bool false)) w) : WT P fn N k R f w :=
  wl_caseb (P := P) (R := R) (ops := #[]) (m := false) (os := []) (K := WT P fn N k R) hd hf h1 h0

theorem fr_case {d : Nat} {c : Bool} {X : Fr → Prop} (hd : Nat.blt d N = true) (hf : f d = .bool c) (h1 : c = true → X (upd N f d (.bool true))) (h0 : c = false → X (upd N f d (.bool false))) : X f := by
  have key : ∀ e, e = c → f = upd N f d (.bool e) := fun e he => by
    subst he; funext j; unfold upd; split
    · rename_i hj; subst hj; rw [if_pos (by simpa [Nat.blt_eq] using hd), hf]
    · rfl
  cases c
  · have := h0 rfl; rwa [← key false rfl] at this
  · have := h1 rfl; rwa [← key true rfl] at this
theorem wl_casep {d : Nat} {p : Prop} [Decidable p] (hd : Nat.blt d N = true) (hf : f d = .bool (decide p)) (h1 : p → WL P N ops R m K os (upd N f d (.bool true)) w) (h0 : ¬ p → WL P N ops R m K os (upd N f d (.bool false)) w) : WL P N ops R m K os f w :=
  fr_case (X := fun f => WL P N ops R m K os f w) hd hf (fun h => h1 (of_decide_eq_true h)) (fun h => h0 (of_decide_eq_false h))
theorem wg_caseb {fn : FuncId} {k : List Item} {S : World → Prop} {n : Nat} {l : Array Bool} {d : Nat} {c : Bool} (hd : Nat.blt d N = true) (hf : f d = .bool c) (h1 : c = true → WG P fn N ops k R S n l (upd N f d (.bool true)) w) (h0 : c = false → WG P fn N ops k R S n l (upd N f d (.bool false)) w) : WG P fn N ops k R S n l f w :=
  fr_case (X := fun f => WG P fn N ops k R S n l f w) hd hf h1 h0
theorem wg_casep {fn : FuncId} {k : List Item} {S : World → Prop} {n : Nat} {l : Array Bool} {d : Nat} {p : Prop} [Decidable p] (hd : Nat.blt d N = true) (hf : f d = .bool (decide p)) (h1 : p → WG P fn N ops k R S n l (upd N f d (.bool true)) w) (h0 : ¬ p → WG P fn N ops k R S n l (upd N f d (.bool false)) w) : WG P fn N ops k R S n l f w :=
  fr_case (X := fun f => WG P fn N ops k R S n l f w) hd hf (fun h => h1 (of_decide_eq_true h)) (fun h => h0 (of_decide_eq_false h))
theorem wt_condp {fn : FuncId} {k : List Item} {c : Operand} {x y : Code} {p : Prop} [Decidable p] (hc : ev f c = .bool (decide p)) (h1 : p → WT P fn N (.code x :: k) R f w) (h0 : ¬ p → WT P fn N (.code y :: k) R f w) : WT P fn N (.code (.cond c x y) :: k) R f w :=
  wt_cond hc (fun h => h1 (of_decide_eq_true h)) (fun h => h0 (of_decide_eq_false h))

theorem o_not {c : Bool} (hx : ev f x = .bool c) (h : WL P N ops R m K os (put N f dst (.bool (!c))) w) : WL P N ops R m K (⟨dst, .unOp .not t x, ty, pos, af, none⟩ :: os) f w :=
  wl_val (by simp [execOp, hx, Op.unary]) h
theorem o_neg (hx : ev f x = .int kd a) (h : WL P N ops R m K os (put N f dst (.int kd (kd.wrap (0 - a)))) w) : WL P N ops R m K (⟨dst, .unOp .neg t x, ty, pos, af, none⟩ :: os) f w :=
  wl_val (by simp [execOp, hx, Op.unary, Op.intArith]) h

theorem run_equalIn_bool (n : Nat) (c d : Bool) (ht : P.underlying t = some .bool) : (Op.equalIn (n + 1) t (.bool c) (.bool d)).run P w = .ok (c == d) w := by
  simp [Op.equalIn, run_underlying ht]
theorem run_eql_bool {c d : Bool} (ht : P.underlying t = some .bool) : (binOp .eql t (.bool c) (.bool d)).run P w = .ok (.bool (c == d)) w := by
  simp only [binOp, Op.equal, Sem.run_bind, Op.maxDepth, run_equalIn_bool 9999 c d ht, Result.andThen_ok, Sem.run_pure]
theorem run_neq_bool {c d : Bool} (ht : P.underlying t = some .bool) : (binOp .neq t (.bool c) (.bool d)).run P w = .ok (.bool (!(c == d))) w := by
  simp only [binOp, Op.equal, Sem.run_bind, Op.maxDepth, run_equalIn_bool 9999 c d ht, Result.andThen_ok, Sem.run_pure]
theorem guard_bool {op : BinOp} {c d : Bool} (w : World) : (eqGuard op t x y (.bool c) (.bool d)).run P w = .ok () w := by
  simp only [eqGuard]; cases op <;> simp

theorem o_eqb {c d : Bool} (hx : ev f x = .bool c) (hy : ev f y = .bool d) (ht : P.underlying t = some .bool) (h : WL P N ops R m K os (put N f dst (.bool (c == d))) w) :
    WL P N ops R m K (⟨dst, .binOp .eql t x y u, ty, pos, af, none⟩ :: os) f w :=
  wl_val (by simp only [execOp, hx, hy, Sem.run_bind, guard_bool, Result.andThen_ok, run_eql_bool ht, Sem.run_pure]) h
theorem o_neb {c d : Bool} (hx : ev f x = .bool c) (hy : ev f y = .bool d) (ht : P.underlying t = some .bool) (h : WL P N ops R m K os (put N f dst (.bool (!(c == d)))) w) :
    WL P N ops R m K (⟨dst, .binOp .neq t x y u, ty, pos, af, none⟩ :: os) f w :=
  wl_val (by simp only [execOp, hx, hy, Sem.run_bind, guard_bool, Result.andThen_ok, run_neq_bool ht, Sem.run_pure]) h

theorem o_extract {vs : Array Value} {i : Nat} {v : Value} (hx : ev f x = .tuple vs) (hv : vs[i]? = some v) (h : WL P N ops R m K os (put N f dst v) w) :
    WL P N ops R m K (⟨dst, .extract x i, ty, pos, af, none⟩ :: os) f w := wl_val (by simp [execOp, hx, Instr.extract, hv]) h

theorem o_makeFunc {g : Fn} {fs cs : Array Operand} {vs us : List Value} (hf : fs.toList.map (ev f) = vs) (hc : cs.toList.map (ev f) = us) (h : WL P N ops R m K os (put N f dst (.func g ⟨vs⟩ ⟨us⟩)) w) :
    WL P N ops R m K (⟨dst, .makeFunc g fs cs, ty, pos, af, none⟩ :: os) f w :=
  wl_val (by subst hf hc; simp [execOp, Instr.makeFunc]; exact ⟨by rw [← Array.toList_map], by rw [← Array.toList_map]⟩) h

theorem o_nilCheck {a : Addr} (hx : ev f x = .pointer (some a)) (h : WL P N ops R m K os (put N f dst (.pointer (some a))) w) : WL P N ops R m K (⟨dst, .nilCheck x, ty, pos, af, none⟩ :: os) f w :=
  wl_val (by simp [execOp, hx]) h

/-! The builtin len, and calls of named functions -/

theorem o_len {α : Type} [Rep α] {I : Reg} {v : Value} {xs : List α} {as : Array TypeId} (hr : rep I w v xs) (hx : ev f x = v) (ht : ∃ e, P.underlying t = some (.slice e)) (hat : as[0]? = some t)
    (h : WL P N ops R m K os (put N f dst (.int .i64 xs.length)) w) : WL P N ops R m K (⟨dst, .call ⟨.builtin .len, #[x], as⟩, ty, pos, af, none⟩ :: os) f w := by
  obtain ⟨e, ht⟩ := ht
  obtain ⟨a, cap, hv, _⟩ := hr.ex
  exact wl_val (by simp [execOp, resolve, invoke, builtin, Builtin.len_, hat, hx, hv, run_underlying ht, goInt]) h

theorem o_lens {s : ByteArray} {as : Array TypeId} (hx : ev f x = .string s) (ht : P.underlying t = some .string) (hat : as[0]? = some t)
    (h : WL P N ops R m K os (put N f dst (.int .i64 s.size)) w) : WL P N ops R m K (⟨dst, .call ⟨.builtin .len, #[x], as⟩, ty, pos, af, none⟩ :: os) f w := by
  exact wl_val (by simp [execOp, resolve, invoke, builtin, Builtin.len_, hat, hx, run_underlying ht, goInt]) h

/-- The function can be entered. -/
def canCall (P : Program) (g : FuncId) : Bool := match P.funcs[g]? with
  | some F => F.name != "runtime.NumGoroutine" && F.body.isSome
  | none => false

theorem run_call {g : FuncId} {vs : Array Value} (hg : canCall P g = true) : (callFunc g vs).run P w = .ok (.enter g vs) w := by
  unfold canCall at hg
  cases h : P.funcs[g]? with
  | none => simp [h] at hg
  | some F =>
    simp only [h, Bool.and_eq_true, bne_iff_ne, ne_eq] at hg
    have h2 : F.body.isNone = false := by
      cases hb : F.body with
      | none => rw [hb] at hg; exact absurd hg.2 (by decide)
      | some c => rfl
    have h1 : (F.name == "runtime.NumGoroutine") = false := by simpa using hg.1
    simp only [callFunc, Sem.run_bind, run_program, Result.andThen_ok, h, h1, h2, Bool.false_eq_true, if_false, Sem.run_pure]

theorem o_call {g : FuncId} {as : Array Operand} {at_ : Array TypeId} {vs : List Value} (hg : canCall P g = true) (ha : as.toList.map (ev f) = vs)
    (h : Calls P g ⟨vs⟩ w fun e w' => match e with
      | .returned v => WL P N ops R false K os (put N f dst v) w'
      | .panicked ch => R (.panicked ch) w'
      | .outgrown => False) : WL P N ops R false K (⟨dst, .call ⟨.value (.func g), as, at_⟩, ty, pos, af, none⟩ :: os) f w := by
  have he : (execOp (ev f) ⟨dst, .call ⟨.value (.func g), as, at_⟩, ty, pos, af, none⟩).run P w = .ok (.enter g ⟨vs⟩) w := by
    subst ha
    simp [execOp, resolve, ev, Deferred.ofValue, invoke, run_call hg]
    rw [← Array.toList_map]
  simp only [WL, Region.wanted, if_true, he, UP]
  exact ⟨trivial, h⟩

/-- A call of a function value that is known. -/
theorem o_callv {g : FuncId} {fv : Operand} {first captured : Array Value} {as : Array Operand} {at_ : Array TypeId} {vs : List Value} (hv : ev f fv = .func (.func g) first captured) (hg : canCall P g = true)
    (ha : first.toList ++ as.toList.map (ev f) ++ captured.toList = vs)
    (h : Calls P g ⟨vs⟩ w fun e w' => match e with
      | .returned v => WL P N ops R false K os (put N f dst v) w'
      | .panicked ch => R (.panicked ch) w'
      | .outgrown => False) : WL P N ops R false K (⟨dst, .call ⟨.value fv, as, at_⟩, ty, pos, af, none⟩ :: os) f w := by
  have he : (execOp (ev f) ⟨dst, .call ⟨.value fv, as, at_⟩, ty, pos, af, none⟩).run P w = .ok (.enter g ⟨vs⟩) w := by
    subst ha
    simp [execOp, resolve, hv, Deferred.ofValue, invoke, run_call hg]
  simp only [WL, Region.wanted, if_true, he, UP]
  exact ⟨trivial, h⟩

/-- The usual contract: the call returns; the blocks of I are kept; the blocks of T are the caller's as before. -/
def Ret (P : Program) (g : FuncId) (vs : List Value) (I : Reg) (w : World) (Q : Value → Reg → World → Prop) : Prop :=
  Calls P g ⟨vs⟩ w fun e w' => ∃ v I', e = .returned v ∧ Ext I w I' w' ∧ Q v I' w'

theorem Ret.mono {P : Program} {g : FuncId} {vs : List Value} {I : Reg} {w : World} {Q Q' : Value → Reg → World → Prop} (h : Ret P g vs I w Q) (hq : ∀ v I' w', Ext I w I' w' → Q v I' w' → Q' v I' w') : Ret P g vs I w Q' :=
  Calls.mono h fun e w' ⟨v, I', h1, h2, h3⟩ => ⟨v, I', h1, h2, hq _ _ _ h2 h3⟩

theorem o_ret {g : FuncId} {as : Array Operand} {at_ : Array TypeId} {vs : List Value} {I : Reg} {Q : Value → Reg → World → Prop} (hg : canCall P g = true) (hc : Ret P g vs I w Q) (ha : as.toList.map (ev f) = vs)
    (h : ∀ v I' w', Ext I w I' w' → Q v I' w' → WL P N ops R false K os (put N f dst v) w') : WL P N ops R false K (⟨dst, .call ⟨.value (.func g), as, at_⟩, ty, pos, af, none⟩ :: os) f w :=
  o_call hg ha (Calls.mono hc fun e w' ⟨v, I', h1, h2, h3⟩ => by subst h1; exact h v I' w' h2 h3)

theorem o_retv {g : FuncId} {fv : Operand} {first captured : Array Value} {as : Array Operand} {at_ : Array TypeId} {vs : List Value} {I : Reg} {Q : Value → Reg → World → Prop} (hg : canCall P g = true) (hc : Ret P g vs I w Q)
    (hv : ev f fv = .func (.func g) first captured) (ha : first.toList ++ as.toList.map (ev f) ++ captured.toList = vs)
    (h : ∀ v I' w', Ext I w I' w' → Q v I' w' → WL P N ops R false K os (put N f dst v) w') : WL P N ops R false K (⟨dst, .call ⟨.value fv, as, at_⟩, ty, pos, af, none⟩ :: os) f w :=
  o_callv hv hg ha (Calls.mono hc fun e w' ⟨v, I', h1, h2, h3⟩ => by subst h1; exact h v I' w' h2 h3)

/-- The result's value, for results in slots. -/
theorem results_one {F : Func} {i : Nat} (h : F.results = #[.tmp i]) : ∀ a, Is N a f → (results F a).run P w = .ok (f i) w := fun a ha => by
  have := ha.2 i; simp only [Array.getD_eq_getD_getElem?] at this
  simp [results, h, this]
theorem results_two {F : Func} {i j : Nat} (h : F.results = #[.tmp i, .tmp j]) : ∀ a, Is N a f → (results F a).run P w = .ok (.tuple #[f i, f j]) w := fun a ha => by
  have h1 := ha.2 i; have h2 := ha.2 j; simp only [Array.getD_eq_getD_getElem?] at h1 h2
  simp [results, h, h1, h2]
theorem results_three {F : Func} {i j l : Nat} (h : F.results = #[.tmp i, .tmp j, .tmp l]) : ∀ a, Is N a f → (results F a).run P w = .ok (.tuple #[f i, f j, f l]) w := fun a ha => by
  have h1 := ha.2 i; have h2 := ha.2 j; have h3 := ha.2 l; simp only [Array.getD_eq_getD_getElem?] at h1 h2 h3
  simp [results, h, h1, h2, h3]
theorem results_none {F : Func} (h : F.results = #[]) : ∀ a, Is N a f → (results F a).run P w = .ok (.tuple #[]) w := fun a ha => by
  simp [results, h]

variable {fn : FuncId} {k : List Item}
/-- The usual ends. -/
theorem ret_one {F : Func} {i : Nat} {v : Value} {I0 : Reg} {w0 : World} {Q : Value → Reg → World → Prop} {I : Reg} (hf : P.funcs[fn]? = some F) (hF : F.results = #[.tmp i]) (hv : f i = v) (he : Ext I0 w0 I w) (hq : Q v I w) :
    WT P fn N (.code .ret :: k) (fun e w' => ∃ v I', e = .returned v ∧ Ext I0 w0 I' w' ∧ Q v I' w') f w :=
  wt_ret hf (results_one hF) ⟨_, I, rfl, he, by rw [hv]; exact hq⟩
theorem ret_two {F : Func} {i j : Nat} {v u : Value} {I0 : Reg} {w0 : World} {Q : Value → Reg → World → Prop} {I : Reg} (hf : P.funcs[fn]? = some F) (hF : F.results = #[.tmp i, .tmp j]) (hv : f i = v) (hu : f j = u) (he : Ext I0 w0 I w)
    (hq : Q (.tuple #[v, u]) I w) : WT P fn N (.code .ret :: k) (fun e w' => ∃ v I', e = .returned v ∧ Ext I0 w0 I' w' ∧ Q v I' w') f w :=
  wt_ret hf (results_two hF) ⟨_, I, rfl, he, by rw [hv, hu]; exact hq⟩

theorem ret_of_wt {F : Func} {c : Code} {vs : List Value} {I : Reg} {Q : Value → Reg → World → Prop} (hf : P.funcs[fn]? = some F) (hb : F.body = some c) (hn : F.ntmps = N) (hv : Nat.ble vs.length N = true)
    (h : WT P fn N [.code c] (fun e w' => ∃ v I', e = .returned v ∧ Ext I w I' w' ∧ Q v I' w') (fr0 vs) w) : Ret P fn vs I w Q :=
  calls_of_wt hf hb hn (Nat.le_of_ble_eq_true hv) h

end
end Go.X
